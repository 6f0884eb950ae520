import Derived.Test.YtfanjfmgacfpjaaGreatDoorTb
import Derived.Lib.IndexMore
import Derived.Lib.AtoiAllCases
import Derived.Laws.BytesArg
import Derived.Lib.Strings
/- Lemmas for the proof in the last text of this claim. -/
set_option linter.unusedVariables false
set_option linter.unusedSimpArgs false
set_option linter.unusedSectionVars false
set_option maxRecDepth 1000000
set_option maxHeartbeats 4000000
namespace Go.Own
attribute [local irreducible] WPc WPL WPS HAny endP
variable [Laid]
open Go.Lib
@[simp] theorem bt_nonneg (s : ByteArray) (i : Int) : 0 ≤ bt s i := by unfold bt; split <;> omega
@[simp] theorem bt_le (s : ByteArray) (i : Int) : bt s i ≤ 255 := by
  unfold bt; split
  · have := (s[i.toNat]'(by assumption)).toNat_lt; omega
  · omega
def dec (n : Int) : ByteArray := ⟨(itoa n).toArray⟩
theorem c_impl_Dec [F : Facts.Of] (n : Int) (h0 : -9223372036854775808 ≤ n) (h1 : n ≤ 9223372036854775807) : Con PP 147 [.sc (.int .i64 n)] [] [] (fun r o => r = .sc (.string (dec n))) := by
  refine Con.of tok (nt := 5) Go.Proofs.Tryz.func147 (by kernel_rfl) rfl rfl rfl (Nat.le_of_ble_eq_true rfl) fun G => ?_
  simp only [entSt, tmOf, List.append_nil, List.cons_append, List.nil_append]
  repeat' (first
    | apply WPc.sq
    | (refine WPc.ret (endP.val (.inr rfl) rfl rfl (by simp; rfl) ?_))
    | refine WPL.nil ?_
    | (apply WPL.cL (c_strconv_Itoa _ ?g1 ?g2); (case q => (repeat' (first | refine And.intro ?_ ?_ | intro _ | exact cleanOut_nil | (refine Eqv.mk ?_; first | rfl | (simp -implicitDefEqProofs; done)) | (simp -implicitDefEqProofs; done) | (simp -implicitDefEqProofs; rfl) | rfl))); (case g1 => (first | assumption | omega | decide | (simp; done) | (simp_all; done) | (intros; omega))); (case g2 => (first | assumption | omega | decide | (simp; done) | (simp_all; done) | (intros; omega))))
    | ((first | refine WPc.rq tok rfl fun K hK => ?_ | refine WPL.rn tok _ (by simp [ahead, isFn]; rfl) fun K hK => ?_); simp -implicitDefEqProofs +contextual [-Int.not_le, -Int.not_lt, -Nat.not_le, -Nat.not_lt, -List.all_eq_true, -List.all_eq_false, -List.any_eq_true, -List.any_eq_false]; (repeat1' (first | apply hK | apply And.intro | intro _)) <;> clear hK K <;> (try dsimp only [List.drop]))
    | (refine WPc.region ?_; simp only [List.toList_toArray]))
  all_goals rfl
def isDigit (c : Int) : Bool := decide (48 ≤ c) && decide (c ≤ 57)
def isSym (c : Int) : Bool := decide (97 ≤ c) && decide (c ≤ 122) || isDigit c || [33, 63, 42, 47, 60, 61, 62, 43, 45, 95].contains c
theorem sym_impl : ∀ n : Fin 256, ((decide (97 ≤ (n.val : Int)) && decide ((n.val : Int) ≤ 122)) || (decide (48 ≤ (n.val : Int)) && decide ((n.val : Int) ≤ 57)) || decide (0 ≤ Lib.indexByte [33, 63, 42, 47, 60, 61, 62, 43, 45, 95] (n.val : Int).toNat.toUInt8)) = isSym n.val := by decide +kernel
theorem c_impl_isSymByte (c : Int) (h0 : 0 ≤ c) (h1 : c ≤ 255) : Con PP 139 [.sc (.int .u8 c)] [] [] (fun r o => r = .sc (.bool (isSym c))) := by
  have key := sym_impl ⟨c.toNat, by omega⟩
  simp only [show ((c.toNat : Nat) : Int) = c by omega] at key
  rw [← key]
  refine Con.of tok (nt := 22) Go.Proofs.Tryz.func139 (by kernel_rfl) rfl rfl rfl (Nat.le_of_ble_eq_true rfl) fun G => ?_
  simp only [entSt, tmOf, List.append_nil, List.cons_append, List.nil_append]
  repeat' (first
    | apply WPc.sq
    | (refine WPc.ret (endP.val (.inr rfl) rfl rfl (by simp; rfl) ?_))
    | refine WPL.nil ?_
    | (apply WPL.cL (c_strings_IndexByte _ _); (case q => (repeat' (first | refine And.intro ?_ ?_ | intro _ | exact cleanOut_nil | (refine Eqv.mk ?_; first | rfl | (simp -implicitDefEqProofs; done)) | (simp -implicitDefEqProofs; done) | (simp -implicitDefEqProofs; rfl) | rfl))))
    | (refine WPL.call0f ?_ ?_ ?_; (focus (simp; done)); (focus (simp; done)))
    | ((first | refine WPc.rq tok rfl fun K hK => ?_ | refine WPL.rn tok _ (by simp [ahead, isFn]; rfl) fun K hK => ?_); simp -implicitDefEqProofs +contextual [-Int.not_le, -Int.not_lt, -Nat.not_le, -Nat.not_lt, -List.all_eq_true, -List.all_eq_false, -List.any_eq_true, -List.any_eq_false]; (repeat1' (first | apply hK | apply And.intro | intro _)) <;> clear hK K <;> (try dsimp only [List.drop]))
    | (refine WPc.region ?_; simp only [List.toList_toArray]))
  all_goals (simp_all; try omega)
theorem c_spec_l2Digit (c : Int) : Con PP 98 [.sc (.int .u8 c)] [] [] (fun r o => r = .sc (.bool (isDigit c))) := by
  refine Con.of tok (nt := 9) Go.Proofs.Tryz.func98 (by kernel_rfl) rfl rfl rfl (Nat.le_of_ble_eq_true rfl) fun G => ?_
  simp only [entSt, tmOf, List.append_nil, List.cons_append, List.nil_append]
  repeat' (first
    | apply WPc.sq
    | (refine WPc.ret (endP.val (.inr rfl) rfl rfl (by simp; rfl) ?_))
    | (refine WPc.rq tok rfl fun K hK => ?_; simp -implicitDefEqProofs +contextual [-Int.not_le, -Int.not_lt, -Nat.not_le, -Nat.not_lt, -List.all_eq_true, -List.all_eq_false, -List.any_eq_true, -List.any_eq_false]; (repeat1' (first | apply hK | apply And.intro | intro _)) <;> clear hK K <;> (try dsimp only [List.drop])))
  all_goals (simp_all [isDigit]; try omega)
def inSet (b : Int) (s : ByteArray) : Bool := (List.range s.size).any fun i => decide (bt s i = b)
theorem c_spec_l2In (b : Int) (s : ByteArray) (hs : s.size ≤ 9223372036854775807) : Con PP 41 [.sc (.int .u8 b), .sc (.string s)] [] [] (fun r o => r = .sc (.bool (inSet b s))) := by
  refine Con.of tok (nt := 17) Go.Proofs.Tryz.func41 (by kernel_rfl) rfl rfl rfl (Nat.le_of_ble_eq_true rfl) fun G => ?_
  simp only [entSt, tmOf, List.append_nil, List.cons_append, List.nil_append]
  repeat' (first
    | apply WPc.sq
    | apply WPc.block
    | (refine WPc.rq tok rfl fun K hK => ?_; simp -implicitDefEqProofs +contextual [-Int.not_le, -Int.not_lt, -Nat.not_le, -Nat.not_lt, -List.all_eq_true, -List.all_eq_false, -List.any_eq_true, -List.any_eq_false]; (repeat1' (first | apply hK | apply And.intro | intro _)) <;> clear hK K <;> (try dsimp only [List.drop])))
  refine WPc.loopK (σ := Nat) (fun i => i ≤ s.size ∧ ((List.range s.size).take i).any (fun i => decide (bt s i = b)) = false) (fun i => s.size - i) (fun i => [(5, .sc (.int .i64 i))])  [0, 1] 0 (by simp) (by simp) (by simp) ?_
  rintro i ⟨hi, hall⟩ s hs
  simp at hs
  subst hs
  by_cases hlt : i < s.size
  · have hv : (List.range s.size)[i]? = some i := List.getElem?_range hlt
    repeat' (first
      | apply WPc.sq
      | apply WPc.block
      | (refine WPc.ret (endP.val (.inr rfl) rfl rfl (by simp; rfl) ?_))
      | apply WPc.skip
      | (refine WPc.rq tok rfl fun K hK => ?_; simp -implicitDefEqProofs +contextual [-Int.not_le, -Int.not_lt, -Nat.not_le, -Nat.not_lt, -List.all_eq_true, -List.all_eq_false, -List.any_eq_true, -List.any_eq_false, hlt]; (repeat1' (first | apply hK | apply And.intro | intro _)) <;> clear hK K <;> (try dsimp only [List.drop]))
      | (refine WPc.condT ?_ ?_; (focus (simp; done)))
      | (refine WPc.cond (by simp [-Bool.not_eq_eq_eq_not]; rfl) (fun hq => ?_) (fun hq => ?_) <;> simp only [hq] <;> (try (exfalso; (simp only [decide_eq_true_eq, decide_eq_false_iff_not] at hq); omega))))
    · rw [inSet, any_at hv (by simp_all)]
    all_goals
      refine ⟨i + 1, ⟨⟨by omega, any_next hv (by simp_all) hall⟩, by first | omega | (simp only; omega) | assumption⟩, rfl, rfl, ?_, ?_⟩ <;> simp (disch := omega) [wrap64]
  · repeat' (first
      | apply WPc.sq
      | (refine WPc.ret (endP.val (.inr rfl) rfl rfl (by simp; rfl) ?_))
      | apply WPc.exit
      | (refine WPc.rq tok rfl fun K hK => ?_; simp -implicitDefEqProofs +contextual [-Int.not_le, -Int.not_lt, -Nat.not_le, -Nat.not_lt, -List.all_eq_true, -List.all_eq_false, -List.any_eq_true, -List.any_eq_false, hlt]; (repeat1' (first | apply hK | apply And.intro | intro _)) <;> clear hK K <;> (try dsimp only [List.drop]))
      | (refine WPc.condF ?_ ?_; (focus (simp; done))))
    rw [List.take_of_length_le (by simp; omega)] at hall
    rw [inSet, hall]
theorem sym_spec : ∀ n : Fin 256, ((decide (97 ≤ (n.val : Int)) && decide ((n.val : Int) ≤ 122)) || isDigit n.val || inSet n.val ⟨#[33, 63, 42, 47, 60, 61, 62, 43, 45, 95]⟩) = isSym n.val := by decide +kernel
theorem c_spec_l2Sign (c : Int) (h0 : 0 ≤ c) (h1 : c ≤ 255) : Con PP 99 [.sc (.int .u8 c)] [] [] (fun r o => r = .sc (.bool (isSym c))) := by
  have key := sym_spec ⟨c.toNat, by omega⟩
  simp only [show ((c.toNat : Nat) : Int) = c by omega] at key
  rw [← key]
  refine Con.of tok (nt := 17) Go.Proofs.Tryz.func99 (by kernel_rfl) rfl rfl rfl (Nat.le_of_ble_eq_true rfl) fun G => ?_
  simp only [entSt, tmOf, List.append_nil, List.cons_append, List.nil_append]
  repeat' (first
    | apply WPc.sq
    | (refine WPc.ret (endP.val (.inr rfl) rfl rfl (by simp; rfl) ?_))
    | refine WPL.nil ?_
    | (apply WPL.cL (c_spec_l2Digit _); (case q => (repeat' (first | refine And.intro ?_ ?_ | intro _ | exact cleanOut_nil | (refine Eqv.mk ?_; first | rfl | (simp -implicitDefEqProofs; done)) | (simp -implicitDefEqProofs; done) | (simp -implicitDefEqProofs; rfl) | rfl))))
    | (apply WPL.cL (c_spec_l2In _ _ ?g1); (case q => (repeat' (first | refine And.intro ?_ ?_ | intro _ | exact cleanOut_nil | (refine Eqv.mk ?_; first | rfl | (simp -implicitDefEqProofs; done)) | (simp -implicitDefEqProofs; done) | (simp -implicitDefEqProofs; rfl) | rfl))); (case g1 => (first | assumption | omega | decide | (simp; done) | (simp_all; done) | (intros; omega))))
    | (refine WPL.call0f ?_ ?_ ?_; (focus (simp; done)); (focus (simp; done)))
    | ((first | refine WPc.rq tok rfl fun K hK => ?_ | refine WPL.rn tok _ (by simp [ahead, isFn]; rfl) fun K hK => ?_); simp -implicitDefEqProofs +contextual [-Int.not_le, -Int.not_lt, -Nat.not_le, -Nat.not_lt, -List.all_eq_true, -List.all_eq_false, -List.any_eq_true, -List.any_eq_false]; (repeat1' (first | apply hK | apply And.intro | intro _)) <;> clear hK K <;> (try dsimp only [List.drop]))
    | (refine WPc.region ?_; simp only [List.toList_toArray]))
  all_goals (simp_all; try omega)
end Go.Own
namespace Go.Own
open Go.Lib
theorem contains_nil (sub : List UInt8) : contains [] sub = sub.isEmpty := by
  unfold contains index
  cases sub <;> simp
theorem contains_cons (b : UInt8) (l sub : List UInt8) : contains (b :: l) sub = (sub.isPrefixOf (b :: l) || contains l sub) := by
  unfold contains
  have := index_ge l sub
  rw [index]
  split
  · rename_i h; simp [h]
  · rename_i h
    simp only [h, Bool.false_or]
    split
    · rename_i h2
      have h2 : index l sub = -1 := by simpa using h2
      rw [h2]
    · rename_i h2
      have h2 : index l sub ≠ -1 := by simpa using h2
      by_cases h3 : 0 ≤ index l sub
      · rw [decide_eq_true h3, decide_eq_true (by omega)]
      · omega
theorem contains_skip (sub : List UInt8) : ∀ (w rest : List UInt8), 32 ∉ w → contains (w ++ rest) (32 :: sub) = contains rest (32 :: sub)
  | [], rest, _ => rfl
  | c :: w, rest, h => by
    simp only [List.mem_cons, not_or] at h
    rw [List.cons_append, contains_cons, contains_skip sub w rest h.2]
    have : (32 :: sub).isPrefixOf (c :: (w ++ rest)) = false := by
      simp only [List.isPrefixOf, Bool.and_eq_false_iff, beq_eq_false_iff_ne]
      exact .inl h.1
    rw [this, Bool.false_or]
theorem pre_eq : ∀ (s w rest : List UInt8), 32 ∉ s → 32 ∉ w → (s ++ [32]).isPrefixOf (w ++ 32 :: rest) = decide (s = w)
  | [], [], rest, _, _ => by simp
  | [], c :: w, rest, _, hw => by
    simp only [List.mem_cons, not_or] at hw
    simp [List.isPrefixOf, hw.1]
  | c :: s, [], rest, hs, _ => by
    simp only [List.mem_cons, not_or] at hs
    simp [List.isPrefixOf, Ne.symm hs.1]
  | c :: s, d :: w, rest, hs, hw => by
    simp only [List.mem_cons, not_or] at hs hw
    have ih := pre_eq s w rest hs.2 hw.2
    simp only [List.cons_append, List.isPrefixOf, ih]
    by_cases h : c = d <;> simp [h]
def rowOf (ws : List (List UInt8)) : List UInt8 := ws.flatMap (fun w => 32 :: w) ++ [32]
theorem row_head : ∀ ws : List (List UInt8), ∃ r, rowOf ws = 32 :: r
  | [] => ⟨[], rfl⟩
  | w :: ws => ⟨w ++ rowOf ws, by simp [rowOf]⟩
theorem contains_row (s : List UInt8) (hs : 32 ∉ s) (h0 : s ≠ []) : ∀ ws : List (List UInt8), (∀ w, w ∈ ws → 32 ∉ w) → contains (rowOf ws) (32 :: (s ++ [32])) = decide (s ∈ ws)
  | [], _ => by
    have : rowOf [] = [32] := rfl
    rw [this, contains_cons, contains_nil]
    cases s with
    | nil => exact absurd rfl h0
    | cons c s => simp [List.isPrefixOf]
  | w :: ws, h => by
    have hw := h w (by simp)
    have ih := contains_row s hs h0 ws (fun w hw => h w (by simp [hw]))
    have e : rowOf (w :: ws) = 32 :: (w ++ rowOf ws) := by simp [rowOf]
    rw [e, contains_cons, contains_skip _ _ _ hw, ih]
    obtain ⟨r, hr⟩ := row_head ws
    have : (32 :: (s ++ [32])).isPrefixOf (32 :: (w ++ rowOf ws)) = decide (s = w) := by
      rw [hr, List.isPrefixOf, pre_eq s w r hs hw]; simp
    rw [this]
    by_cases h1 : s = w <;> simp [h1]
theorem contains_one : ∀ (l : List UInt8) (c : UInt8), contains l [c] = decide (c ∈ l)
  | [], c => by rw [contains_nil]; simp
  | b :: l, c => by
    rw [contains_cons, contains_one l c]
    by_cases h : c = b
    · subst h; simp [List.isPrefixOf]
    · simp [List.isPrefixOf, h]
def oneOf (s list : ByteArray) : Bool :=
  decide (s ≠ ⟨#[]⟩) && !Lib.contains s.data.toList [32] && Lib.contains (⟨#[32]⟩ ++ list ++ ⟨#[32]⟩ : ByteArray).data.toList (⟨#[32]⟩ ++ s ++ ⟨#[32]⟩ : ByteArray).data.toList
theorem ba_ext {a b : ByteArray} (h : a.data.toList = b.data.toList) : a = b := by
  cases a; cases b; simp only [ByteArray.mk.injEq]; exact Array.toList_inj.1 h
def isW (ws : List ByteArray) (s : ByteArray) : Bool := ws.any fun w => decide (s = w)
theorem isW_iff {ws : List ByteArray} {s : ByteArray} : isW ws s = true ↔ s ∈ ws := by simp [isW]
theorem isW_not {ws : List ByteArray} {s : ByteArray} (h : s ∉ ws) : isW ws s = false := by
  rw [← Bool.not_eq_true, isW_iff]; exact h
theorem oneOf_eq (s list : ByteArray) (ws : List ByteArray) (h1 : 32 :: list.data.toList ++ [32] = rowOf (ws.map (·.data.toList))) (h2 : ∀ w, w ∈ ws → 32 ∉ w.data.toList) (h3 : (⟨#[]⟩ : ByteArray) ∉ ws) : oneOf s list = isW ws s := by
  have e1 : (⟨#[32]⟩ ++ list ++ ⟨#[32]⟩ : ByteArray).data.toList = 32 :: list.data.toList ++ [32] := by simp
  have e2 : (⟨#[32]⟩ ++ s ++ ⟨#[32]⟩ : ByteArray).data.toList = 32 :: (s.data.toList ++ [32]) := by simp
  unfold oneOf
  rw [e1, e2, h1, contains_one]
  by_cases g0 : s = ⟨#[]⟩
  · subst g0; rw [isW_not h3]; simp
  · by_cases g1 : 32 ∈ s.data.toList
    · have : s ∉ ws := fun hm => h2 s hm g1
      rw [isW_not this]; simp [g1]
    · rw [contains_row _ g1 (fun h => g0 (ba_ext (by simpa using h))) _ (fun w hw => by obtain ⟨x, hx, rfl⟩ := List.mem_map.1 hw; exact h2 x hx)]
      have hmem : s.data.toList ∈ ws.map (·.data.toList) ↔ s ∈ ws := by
        constructor
        · intro h; obtain ⟨x, hx, he⟩ := List.mem_map.1 h; exact ba_ext he ▸ hx
        · intro h; exact List.mem_map.2 ⟨s, h, rfl⟩
      by_cases h : s ∈ ws
      · rw [isW_iff.2 h]; simp only [decide_eq_true (hmem.2 h)]; simp [g0, g1]
      · rw [isW_not h]; simp only [decide_eq_false (fun x => h (hmem.1 x))]; simp
end Go.Own
set_option maxRecDepth 1000000
set_option maxHeartbeats 4000000
namespace Go.Own
attribute [local irreducible] WPc WPL WPS HAny endP
variable [Laid]
open Go.Lib
def w2 : List ByteArray := [⟨#[43]⟩, ⟨#[45]⟩, ⟨#[42]⟩, ⟨#[60]⟩, ⟨#[61]⟩, ⟨#[101, 113, 63]⟩, ⟨#[99, 111, 110, 115]⟩]
@[simp] theorem oneOf_w2 (s : ByteArray) : oneOf s ⟨#[43, 32, 45, 32, 42, 32, 60, 32, 61, 32, 101, 113, 63, 32, 99, 111, 110, 115]⟩ = isW w2 s := oneOf_eq _ _ _ (by decide +kernel) (by decide +kernel) (by simp [w2])
def w1 : List ByteArray := [⟨#[99, 97, 114]⟩, ⟨#[99, 100, 114]⟩, ⟨#[110, 117, 108, 108, 63]⟩, ⟨#[112, 97, 105, 114, 63]⟩, ⟨#[110, 111, 116]⟩, ⟨#[112, 114, 105, 110, 116]⟩, ⟨#[101, 114, 114, 111, 114]⟩, ⟨#[102, 105, 101, 108, 100]⟩, ⟨#[105, 115]⟩]
@[simp] theorem oneOf_w1 (s : ByteArray) : oneOf s ⟨#[99, 97, 114, 32, 99, 100, 114, 32, 110, 117, 108, 108, 63, 32, 112, 97, 105, 114, 63, 32, 110, 111, 116, 32, 112, 114, 105, 110, 116, 32, 101, 114, 114, 111, 114, 32, 102, 105, 101, 108, 100, 32, 105, 115]⟩ = isW w1 s := oneOf_eq _ _ _ (by decide +kernel) (by decide +kernel) (by simp [w1])
def wTyped : List ByteArray := [⟨#[112, 114, 105, 110, 116]⟩, ⟨#[101, 114, 114, 111, 114]⟩, ⟨#[102, 105, 101, 108, 100]⟩, ⟨#[105, 115]⟩]
@[simp] theorem oneOf_wTyped (s : ByteArray) : oneOf s ⟨#[112, 114, 105, 110, 116, 32, 101, 114, 114, 111, 114, 32, 102, 105, 101, 108, 100, 32, 105, 115]⟩ = isW wTyped s := oneOf_eq _ _ _ (by decide +kernel) (by decide +kernel) (by simp [wTyped])
def wWord : List ByteArray := [⟨#[113, 117, 111, 116, 101]⟩, ⟨#[105, 102]⟩, ⟨#[108, 97, 109, 98, 100, 97]⟩, ⟨#[98, 101, 103, 105, 110]⟩, ⟨#[115, 101, 116, 33]⟩, ⟨#[108, 101, 116]⟩, ⟨#[108, 101, 116, 42]⟩, ⟨#[99, 111, 110, 100]⟩, ⟨#[101, 108, 115, 101]⟩, ⟨#[97, 110, 100]⟩, ⟨#[111, 114]⟩, ⟨#[119, 104, 101, 110]⟩, ⟨#[100, 101, 102, 105, 110, 101]⟩]
@[simp] theorem oneOf_wWord (s : ByteArray) : oneOf s ⟨#[113, 117, 111, 116, 101, 32, 105, 102, 32, 108, 97, 109, 98, 100, 97, 32, 98, 101, 103, 105, 110, 32, 115, 101, 116, 33, 32, 108, 101, 116, 32, 108, 101, 116, 42, 32, 99, 111, 110, 100, 32, 101, 108, 115, 101, 32, 97, 110, 100, 32, 111, 114, 32, 119, 104, 101, 110, 32, 100, 101, 102, 105, 110, 101]⟩ = isW wWord s := oneOf_eq _ _ _ (by decide +kernel) (by decide +kernel) (by simp [wWord])
def arity (s : ByteArray) : Int := if isW w2 s = true then 2 else if isW w1 s = true then 1 else if s = ⟨#[109, 97, 107, 101]⟩ then 0 else -1
theorem c_impl_isOneOf [F : Facts.Of] (s list : ByteArray) (h1 : s.size < 4294967000) (h2 : list.size < 4294967000) : Con PP 82 [.sc (.string s), .sc (.string list)] [] [] (fun r o => r = .sc (.bool (oneOf s list))) := by
  have e1 : (⟨#[32]⟩ : ByteArray).size = 1 := rfl
  refine Con.of tok (nt := 21) Go.Proofs.Tryz.func82 (by kernel_rfl) rfl rfl rfl (Nat.le_of_ble_eq_true rfl) fun G => ?_
  simp only [entSt, tmOf, List.append_nil, List.cons_append, List.nil_append]
  have s1 : SAdd ⟨#[32]⟩ list := by unfold SAdd; rw [e1]; omega
  have s2 : SAdd (⟨#[32]⟩ ++ list) ⟨#[32]⟩ := by unfold SAdd; simp only [ByteArray.size_append, e1]; omega
  have s3 : SAdd ⟨#[32]⟩ s := by unfold SAdd; rw [e1]; omega
  have s4 : SAdd (⟨#[32]⟩ ++ s) ⟨#[32]⟩ := by unfold SAdd; simp only [ByteArray.size_append, e1]; omega
  repeat' (first
    | apply WPc.sq
    | (refine WPc.ret (endP.val (.inr rfl) rfl rfl (by simp; rfl) ?_))
    | refine WPL.nil ?_
    | (apply WPL.cL (c_strings_Contains _ _ ?g1); (case q => (repeat' (first | refine And.intro ?_ ?_ | intro _ | exact cleanOut_nil | (refine Eqv.mk ?_; first | rfl | (simp -implicitDefEqProofs [s1, s2, s3, s4]; done)) | (simp -implicitDefEqProofs [s1, s2, s3, s4]; done) | (simp -implicitDefEqProofs [s1, s2, s3, s4]; rfl) | (simp; done) | (simp; rfl) | rfl))); (case g1 => (first | omega | (simp only [ByteArray.size_append, e1]; omega))))
    | (refine WPL.call0f ?_ ?_ ?_; (focus (simp; done)); (focus (simp; done)))
    | ((first | refine WPc.rq tok rfl fun K hK => ?_ | refine WPL.rn tok _ (by simp [ahead, isFn]; rfl) fun K hK => ?_); simp -implicitDefEqProofs +contextual [-Int.not_le, -Int.not_lt, -Nat.not_le, -Nat.not_lt, -List.all_eq_true, -List.all_eq_false, -List.any_eq_true, -List.any_eq_false, s1, s2, s3, s4]; (repeat1' (first | apply hK | apply And.intro | intro _)) <;> clear hK K <;> (try dsimp only [List.drop]))
    | (refine WPc.region ?_; simp only [List.toList_toArray]))
  all_goals simp_all [oneOf]
theorem c_impl_Arity [F : Facts.Of] (s : ByteArray) (h1 : s.size < 4294967000) : Con PP 45 [.sc (.string s)] [] [] (fun r o => r = .sc (.int .i64 (arity s))) := by
  refine Con.of tok (nt := 12) Go.Proofs.Tryz.func45 (by kernel_rfl) rfl rfl rfl (Nat.le_of_ble_eq_true rfl) fun G => ?_
  simp only [entSt, tmOf, List.append_nil, List.cons_append, List.nil_append]
  repeat' (first
    | apply WPc.sq
    | apply WPc.block
    | (refine WPc.ret (endP.val (.inr rfl) rfl rfl (by simp; rfl) ?_))
    | apply WPc.skip
    | refine WPL.nil ?_
    | (apply WPL.cL (c_impl_isOneOf _ _ ?g1 ?g2); (case q => (repeat' (first | refine And.intro ?_ ?_ | intro _ | exact cleanOut_nil | (refine Eqv.mk ?_; first | rfl | (simp -implicitDefEqProofs; done)) | (simp -implicitDefEqProofs; done) | (simp -implicitDefEqProofs; rfl) | rfl))); (case g1 => (first | assumption | omega | decide | (simp; done) | (simp_all; done) | (intros; omega))); (case g2 => (first | assumption | omega | decide | (simp; done) | (simp_all; done) | (intros; omega))))
    | ((first | refine WPc.rq tok rfl fun K hK => ?_ | refine WPL.rn tok _ (by simp [ahead, isFn]; rfl) fun K hK => ?_); simp -implicitDefEqProofs +contextual [-Int.not_le, -Int.not_lt, -Nat.not_le, -Nat.not_lt, -List.all_eq_true, -List.all_eq_false, -List.any_eq_true, -List.any_eq_false]; (repeat1' (first | apply hK | apply And.intro | intro _)) <;> clear hK K <;> (try dsimp only [List.drop]))
    | (refine WPc.region ?_; simp only [List.toList_toArray])
    | (refine WPc.cond (by simp [-Bool.not_eq_eq_eq_not]; rfl) (fun hq => ?_) (fun hq => ?_) <;> simp only [hq] <;> (try (exfalso; (simp only [decide_eq_true_eq, decide_eq_false_iff_not] at hq); omega))))
  all_goals simp_all [arity]
theorem c_spec_Arity (s : ByteArray) : Con PP 37 [.sc (.string s)] [] [] (fun r o => r = .sc (.int .i64 (arity s))) := by
  refine Con.of tok (nt := 24) Go.Proofs.Tryz.func37 (by kernel_rfl) rfl rfl rfl (Nat.le_of_ble_eq_true rfl) fun G => ?_
  simp only [entSt, tmOf, List.append_nil, List.cons_append, List.nil_append]
  repeat' (first
    | apply WPc.sq
    | apply WPc.block
    | (refine WPc.ret (endP.val (.inr rfl) rfl rfl (by simp; rfl) ?_))
    | apply WPc.skip
    | (refine WPc.rq tok rfl fun K hK => ?_; simp -implicitDefEqProofs +contextual [-Int.not_le, -Int.not_lt, -Nat.not_le, -Nat.not_lt, -List.all_eq_true, -List.all_eq_false, -List.any_eq_true, -List.any_eq_false]; (repeat1' (first | apply hK | apply And.intro | intro _)) <;> clear hK K <;> (try dsimp only [List.drop]))
    | (refine WPc.condT ?_ ?_; (focus (simp; done)))
    | (refine WPc.cond (by simp [-Bool.not_eq_eq_eq_not]; rfl) (fun hq => ?_) (fun hq => ?_) <;> simp only [hq] <;> (try (exfalso; (simp only [decide_eq_true_eq, decide_eq_false_iff_not] at hq); omega))))
  all_goals simp_all [arity, isW, w1, w2]
def plainP (s : ByteArray) : Bool := decide (0 < arity s) && !isW wTyped s
theorem c_impl_isPlain [F : Facts.Of] (s : ByteArray) (h1 : s.size < 4294967000) : Con PP 44 [.sc (.string s)] [] [] (fun r o => r = .sc (.bool (plainP s))) := by
  refine Con.of tok (nt := 11) Go.Proofs.Tryz.func44 (by kernel_rfl) rfl rfl rfl (Nat.le_of_ble_eq_true rfl) fun G => ?_
  simp only [entSt, tmOf, List.append_nil, List.cons_append, List.nil_append]
  repeat' (first
    | apply WPc.sq
    | (refine WPc.ret (endP.val (.inr rfl) rfl rfl (by simp; rfl) ?_))
    | refine WPL.nil ?_
    | (apply WPL.cL (c_impl_Arity _ ?g1); (case q => (repeat' (first | refine And.intro ?_ ?_ | intro _ | exact cleanOut_nil | (refine Eqv.mk ?_; first | rfl | (simp -implicitDefEqProofs; done)) | (simp -implicitDefEqProofs; done) | (simp -implicitDefEqProofs; rfl) | rfl))); (case g1 => (first | assumption | omega | decide | (simp; done) | (simp_all; done) | (intros; omega))))
    | (apply WPL.cL (c_impl_isOneOf _ _ ?g1 ?g2); (case q => (repeat' (first | refine And.intro ?_ ?_ | intro _ | exact cleanOut_nil | (refine Eqv.mk ?_; first | rfl | (simp -implicitDefEqProofs; done)) | (simp -implicitDefEqProofs; done) | (simp -implicitDefEqProofs; rfl) | rfl))); (case g1 => (first | assumption | omega | decide | (simp; done) | (simp_all; done) | (intros; omega))); (case g2 => (first | assumption | omega | decide | (simp; done) | (simp_all; done) | (intros; omega))))
    | (refine WPL.call0f ?_ ?_ ?_; (focus (simp; done)); (focus (simp; done)))
    | ((first | refine WPc.rq tok rfl fun K hK => ?_ | refine WPL.rn tok _ (by simp [ahead, isFn]; rfl) fun K hK => ?_); simp -implicitDefEqProofs +contextual [-Int.not_le, -Int.not_lt, -Nat.not_le, -Nat.not_lt, -List.all_eq_true, -List.all_eq_false, -List.any_eq_true, -List.any_eq_false]; (repeat1' (first | apply hK | apply And.intro | intro _)) <;> clear hK K <;> (try dsimp only [List.drop]))
    | (refine WPc.region ?_; simp only [List.toList_toArray]))
  all_goals (simp_all [plainP]; try (intros; omega))
theorem c_spec_l7Plain (s : ByteArray) : Con PP 51 [.sc (.string s)] [] [] (fun r o => r = .sc (.bool (plainP s))) := by
  refine Con.of tok (nt := 22) Go.Proofs.Tryz.func51 (by kernel_rfl) rfl rfl rfl (Nat.le_of_ble_eq_true rfl) fun G => ?_
  simp only [entSt, tmOf, List.append_nil, List.cons_append, List.nil_append]
  repeat' (first
    | apply WPc.sq
    | (refine WPc.ret (endP.val (.inr rfl) rfl rfl (by simp; rfl) ?_))
    | refine WPL.nil ?_
    | (apply WPL.cL (c_spec_Arity _); (case q => (repeat' (first | refine And.intro ?_ ?_ | intro _ | exact cleanOut_nil | (refine Eqv.mk ?_; first | rfl | (simp -implicitDefEqProofs; done)) | (simp -implicitDefEqProofs; done) | (simp -implicitDefEqProofs; rfl) | rfl))))
    | ((first | refine WPc.rq tok rfl fun K hK => ?_ | refine WPL.rn tok _ (by simp [ahead, isFn]; rfl) fun K hK => ?_); simp -implicitDefEqProofs +contextual [-Int.not_le, -Int.not_lt, -Nat.not_le, -Nat.not_lt, -List.all_eq_true, -List.all_eq_false, -List.any_eq_true, -List.any_eq_false]; (repeat1' (first | apply hK | apply And.intro | intro _)) <;> clear hK K <;> (try dsimp only [List.drop]))
    | (refine WPc.region ?_; simp only [List.toList_toArray]))
  all_goals (simp_all [plainP, isW, wTyped]; try (intros; omega))
def sC (s : ByteArray) : List C := [.sc (.string s)]
theorem c_spec_l3In (ws : List ByteArray) (s : ByteArray) : Con PP 130 [.fz (ws.map sC), .sc (.string s)] [] [] (fun r o => r = .sc (.bool (isW ws s))) := by
  refine Con.of tok (nt := 18) Go.Proofs.Tryz.func130 (by kernel_rfl) rfl rfl rfl (Nat.le_of_ble_eq_true rfl) fun G => ?_
  simp only [entSt, tmOf, List.append_nil, List.cons_append, List.nil_append]
  refine WPc.len 0 (by simp; rfl) fun hlen => ?_
  simp at hlen
  repeat' (first
    | apply WPc.sq
    | apply WPc.block
    | (refine WPc.rq tok rfl fun K hK => ?_; simp -implicitDefEqProofs +contextual [-Int.not_le, -Int.not_lt, -Nat.not_le, -Nat.not_lt, -List.all_eq_true, -List.all_eq_false, -List.any_eq_true, -List.any_eq_false]; (repeat1' (first | apply hK | apply And.intro | intro _)) <;> clear hK K <;> (try dsimp only [List.drop])))
  refine WPc.loopK (σ := Nat) (fun i => i ≤ ws.length ∧ (ws.take i).any (fun w => decide (s = w)) = false) (fun i => ws.length - i) (fun i => [(5, .sc (.int .i64 i))])  [0, 1] 0 (by simp) (by simp) (by simp) ?_
  rintro i ⟨hi, hall⟩ s hs
  simp at hs
  subst hs
  by_cases hlt : i < ws.length
  · have hv := List.getElem?_eq_getElem hlt
    repeat' (first
      | apply WPc.sq
      | apply WPc.block
      | (refine WPc.ret (endP.val (.inr rfl) rfl rfl (by simp; rfl) ?_))
      | apply WPc.skip
      | (refine WPc.rq tok rfl fun K hK => ?_; simp -implicitDefEqProofs +contextual [-Int.not_le, -Int.not_lt, -Nat.not_le, -Nat.not_lt, -List.all_eq_true, -List.all_eq_false, -List.any_eq_true, -List.any_eq_false, hlt, sC]; (repeat1' (first | apply hK | apply And.intro | intro _)) <;> clear hK K <;> (try dsimp only [List.drop]))
      | (refine WPc.condT ?_ ?_; (focus (simp; done)))
      | (refine WPc.cond (by simp [-Bool.not_eq_eq_eq_not]; rfl) (fun hq => ?_) (fun hq => ?_) <;> simp only [hq] <;> (try (exfalso; (simp only [decide_eq_true_eq, decide_eq_false_iff_not] at hq); omega))))
    · rw [isW, any_at hv (by simp_all)]
    all_goals
      refine ⟨i + 1, ⟨⟨by omega, any_next hv (by simp at hq ⊢; exact fun e => hq e.symm) hall⟩, by first | omega | (simp only; omega) | assumption⟩, rfl, rfl, ?_, ?_⟩ <;> simp (disch := omega) [wrap64]
  · repeat' (first
      | apply WPc.sq
      | (refine WPc.ret (endP.val (.inr rfl) rfl rfl (by simp; rfl) ?_))
      | apply WPc.exit
      | (refine WPc.rq tok rfl fun K hK => ?_; simp -implicitDefEqProofs +contextual [-Int.not_le, -Int.not_lt, -Nat.not_le, -Nat.not_lt, -List.all_eq_true, -List.all_eq_false, -List.any_eq_true, -List.any_eq_false, hlt]; (repeat1' (first | apply hK | apply And.intro | intro _)) <;> clear hK K <;> (try dsimp only [List.drop]))
      | (refine WPc.condF ?_ ?_; (focus (simp; done))))
    rw [List.take_of_length_le (by omega)] at hall
    rw [isW, hall]
theorem c_spec_l3In_word (s : ByteArray) : Con PP 130 [.fz [[.sc (.string ⟨#[113, 117, 111, 116, 101]⟩)], [.sc (.string ⟨#[105, 102]⟩)], [.sc (.string ⟨#[108, 97, 109, 98, 100, 97]⟩)], [.sc (.string ⟨#[98, 101, 103, 105, 110]⟩)], [.sc (.string ⟨#[115, 101, 116, 33]⟩)], [.sc (.string ⟨#[108, 101, 116]⟩)], [.sc (.string ⟨#[108, 101, 116, 42]⟩)], [.sc (.string ⟨#[99, 111, 110, 100]⟩)], [.sc (.string ⟨#[101, 108, 115, 101]⟩)], [.sc (.string ⟨#[97, 110, 100]⟩)], [.sc (.string ⟨#[111, 114]⟩)], [.sc (.string ⟨#[119, 104, 101, 110]⟩)], [.sc (.string ⟨#[100, 101, 102, 105, 110, 101]⟩)]], .sc (.string s)] [] [] (fun r o => r = .sc (.bool (isW wWord s))) := c_spec_l3In wWord s
theorem c_spec_l3Word (s : ByteArray) : Con PP 123 [.sc (.string s)] [] [] (fun r o => r = .sc (.bool (isW wWord s))) := by
  refine Con.of tok (nt := 6) Go.Proofs.Tryz.func123 (by kernel_rfl) rfl rfl rfl (Nat.le_of_ble_eq_true rfl) fun G => ?_
  simp only [entSt, tmOf, List.append_nil, List.cons_append, List.nil_append]
  repeat' (first
    | apply WPc.sq
    | (refine WPc.ret (endP.val (.inr rfl) rfl rfl (by simp; rfl) ?_))
    | refine WPL.nil ?_
    | (apply WPL.cL (c_spec_l3In_word _); (case q => (repeat' (first | refine And.intro ?_ ?_ | intro _ | exact cleanOut_nil | (refine Eqv.mk ?_; first | rfl | (simp -implicitDefEqProofs [sC]; done)) | (simp -implicitDefEqProofs [sC]; done) | (simp -implicitDefEqProofs [sC]; rfl) | (simp; done) | (simp; rfl) | rfl))))
    | ((first | refine WPc.rq tok rfl fun K hK => ?_ | refine WPL.rn tok _ (by simp [ahead, isFn]; rfl) fun K hK => ?_); simp -implicitDefEqProofs +contextual [-Int.not_le, -Int.not_lt, -Nat.not_le, -Nat.not_lt, -List.all_eq_true, -List.all_eq_false, -List.any_eq_true, -List.any_eq_false, sC]; (repeat1' (first | apply hK | apply And.intro | intro _)) <;> clear hK K <;> (try dsimp only [List.drop]))
    | (refine WPc.region ?_; simp only [List.toList_toArray]))
  all_goals rfl
end Go.Own
namespace Go.Own
open Go.Lib
theorem trim_itoa (n : Int) : (trimPrefix (itoa n) [45]).length = nDigits n.natAbs := by
  unfold trimPrefix itoa
  split
  · simp [hasPrefix, decDigits_length, List.isPrefixOf]
  · have hh := head_dec n.toNat
    have hn : n.toNat = n.natAbs := by omega
    rw [hn] at hh ⊢
    cases hd : decDigits n.natAbs with
    | nil => exact absurd hd (decDigits_ne _)
    | cons c r =>
      rw [hd] at hh
      simp only [List.head?_cons, ne_eq, Option.some.injEq] at hh
      have : hasPrefix (c :: r) [45] = false := by
        simp [hasPrefix, List.isPrefixOf]; exact fun h => hh h.symm
      rw [this]
      simp only [Bool.false_eq_true, if_false]
      rw [← hd, decDigits_length]
theorem readDec_none_len {l : List UInt8} (h : ¬ (1 ≤ (trimPrefix l [45]).length ∧ (trimPrefix l [45]).length ≤ 9)) : readDec l = none := by
  cases hr : readDec l with
  | none => rfl
  | some n =>
    obtain ⟨rfl, h0, h1⟩ := readDec_some.1 hr
    rw [trim_itoa] at h
    exact absurd ⟨nDigits_pos _, (nDigits_9 _).2 (by omega)⟩ h
theorem readDec_ok {l : List UInt8} {v : Int} (h : (trimPrefix l [45]).length ≤ 9) (hv : itoa v = l) : readDec l = some v := by
  subst hv
  rw [trim_itoa] at h
  have := (nDigits_9 _).1 h
  exact readDec_itoa (by omega) (by omega)
theorem readDec_off {l : List UInt8} {v : Int} (h : atoiAll l = .ok v) (hv : itoa v ≠ l) : readDec l = none := by
  cases hr : readDec l with
  | none => rfl
  | some n =>
    obtain ⟨rfl, h0, h1⟩ := readDec_some.1 hr
    rw [atoi_itoa h0 h1] at h
    injection h with h
    subst h
    exact absurd rfl hv
theorem readDec_bad {l : List UInt8} (h : ∀ v, atoiAll l ≠ .ok v) : readDec l = none := by
  cases hr : readDec l with
  | none => rfl
  | some n =>
    obtain ⟨rfl, h0, h1⟩ := readDec_some.1 hr
    exact absurd (atoi_itoa h0 h1) (h n)
def ddig (m : Int) : List UInt8 := if m = 0 then [] else decDigits m.natAbs
theorem ddig_step {m : Int} (h : m ≠ 0) : ddig m = ddig (m.tdiv 10) ++ [UInt8.ofNat (48 + m.natAbs % 10)] := by
  have h1 : (m.tdiv 10).natAbs = m.natAbs / 10 := by rw [Int.natAbs_tdiv]; rfl
  unfold ddig
  rw [if_neg h, decDigits]
  split
  · rename_i hlt
    rw [if_pos (by omega)]
    simp [Nat.mod_eq_of_lt hlt]
  · rw [if_neg (by omega), h1]
theorem tmod_abs (m : Int) : (m.tmod 10).natAbs = m.natAbs % 10 := by rw [Int.natAbs_tmod]; rfl
theorem foldD_lt : ∀ (l : List UInt8), foldD 0 l < 10 ^ l.length := by
  intro l
  induction h : l.length generalizing l with
  | zero => have := List.eq_nil_of_length_eq_zero h; subst this; simp [foldD]
  | succ n ih =>
    have hne : l ≠ [] := fun e => by subst e; simp at h
    rw [← List.dropLast_concat_getLast hne, foldD_append]
    have := ih l.dropLast (by simp [h])
    simp only [foldD, List.foldl_cons, List.foldl_nil] at this ⊢
    rw [Nat.pow_succ]
    split
    · rename_i hd
      simp only [isDigB, Bool.and_eq_true, decide_eq_true_eq] at hd
      omega
    · omega
theorem foldD_snoc {l : List UInt8} {i : Nat} {c : UInt8} (h : l[i]? = some c) : foldD 0 (l.take (i + 1)) = if isDigB c then foldD 0 (l.take i) * 10 + (c.toNat - 48) else foldD 0 (l.take i) := by
  rw [List.take_add_one, h, Option.toList_some, foldD_append]; simp [foldD]
theorem cntD_snoc {l : List UInt8} {i : Nat} {c : UInt8} (h : l[i]? = some c) : cntD (l.take (i + 1)) = if isDigB c then cntD (l.take i) + 1 else cntD (l.take i) := by
  rw [List.take_add_one, h, Option.toList_some, cntD, List.countP_append]; simp [cntD, List.countP_cons]; split <;> simp
theorem readDec_spec {l : List UInt8} (hl : l.length ≤ 10) (hk : cntD l ≤ 9) (h : itoa (decVal l) = l) : readDec l = some (decVal l) := by
  have h1 := cnt_itoa (decVal l)
  rw [h] at h1
  have := (nDigits_9 (decVal l).natAbs).1 (by omega)
  exact readDec_some.2 ⟨h, by omega, by omega⟩
theorem readDec_spec_no {l : List UInt8} (h : ¬ (l.length ≤ 10 ∧ cntD l ≤ 9 ∧ itoa (decVal l) = l)) : readDec l = none := by
  cases hr : readDec l with
  | none => rfl
  | some n =>
    obtain ⟨rfl, h0, h1⟩ := readDec_some.1 hr
    have h2 := (nDigits_9 n.natAbs).2 (by omega)
    refine absurd ⟨?_, ?_, ?_⟩ h
    · rw [len_itoa]; split <;> omega
    · rw [cnt_itoa]; exact h2
    · rw [decVal_itoa]
end Go.Own
set_option maxRecDepth 1000000
set_option maxHeartbeats 4000000
namespace Go.Own
attribute [local irreducible] WPc WPL WPS HAny endP
variable [Laid]
open Go.Lib Go.RowKit
theorem Con.lib2 {f : Nat} {fn : Func} {vals : List Value} {Φ : AV → List (Nat × Root) → Prop} (hf : PP.funcs[f]? = some fn) (hn : (fn.name == "runtime.NumGoroutine") = false) (hb : fn.body.isNone = false)
    (h : ∀ w, Laid.ok w → Calls PP f vals.toArray w (fun e w' => ∃ u v, e = .returned (.tuple #[u, v]) ∧ Φ (.tup [.sc u, .sc v]) [] ∧ Below w.heap.size w w')) : Con PP f (vals.map .sc) [] [] Φ := by
  refine ⟨⟨fn, hf, hn, hb⟩, fun β w args hl h1 h2 h3 h4 h5 => ?_⟩
  have := args_of h1 h2
  subst this
  refine (h w hl.ok).mono fun e w' ⟨u, v, he, hv, hbl⟩ => ⟨.tuple #[u, v], .tup [.sc u, .sc v], [], β, he, ?_⟩
  exact { ok := hv, res := .tup _ _ (fun n => #[u, v].getD n undef) rfl (fun n x hx => by
            match n, hx with
            | 0, hx => rfl
            | 1, hx => rfl
            | n + 2, hx => simp at hx) (fun n x hx => by
            match n, hx with
            | 0, hx => simp at hx; subst hx; exact .sc _
            | 1, hx => simp at hx; subst hx; exact .sc _
            | n + 2, hx => simp at hx),
          ob := fun id e k es hl => by simp [lo] at hl, uq := h4, lt := fun b x hb => Nat.lt_of_lt_of_le (h5 b x hb) hbl.size, keep := fun i hi => by simp at hi,
          fr := fun b hb _ => hbl.block b hb, old := fun b x hb _ => by rw [hb]; simp, hs := hbl.size, os := hbl.os, tape := hbl.tape, output := hbl.output,
          to := fun b id p hb _ => ⟨hb, hbl.block b (h5 b _ hb)⟩, back := fun b id p hb _ => hb }
theorem k_Atoi_ok (s : ByteArray) (hmax : s.size ≤ 9223372036854775806) (v : Int) (h : atoiAll s.data.toList = .ok v) : Con PP 146 [.sc (.string s)] [] [] (fun r o => r = .tup [.sc (.int .i64 v), .sc .nilIface]) :=
  Con.lib2 (vals := [.string s]) Go.Proofs.Tryz.func146 (by kernel_rfl) (by kernel_rfl) fun w _ => (Go.Proofs.Tryz.strconv_Atoi_ok s hmax v h w).mono fun e w' ⟨h1, h2⟩ => ⟨_, _, h1, rfl, by
    rcases h2 with rfl | ⟨t, rfl⟩
    · exact Below.refl _ _
    · exact bytesWorld_below _ _ _⟩
theorem k_Atoi_bad [F : Facts.Of] (s : ByteArray) (hmax : s.size ≤ 281474976710656) (h : ∀ v, atoiAll s.data.toList ≠ .ok v) : Con PP 146 [.sc (.string s)] [] [] (fun r o => ∃ y : Int × Nat × Value, True ∧ r = .tup [.sc (.int .i64 y.1), .sc (.iface y.2.1 y.2.2)] ∧ o = []) :=
  Con.lib2 (vals := [.string s]) Go.Proofs.Tryz.func146 (by kernel_rfl) (by kernel_rfl) fun w hw => by
    rcases ha : atoiAll s.data.toList with v | _ | _
    · exact absurd ha (h v)
    · obtain ⟨ev, h1, h2⟩ := (F.facts w hw).syn
      exact (Go.Proofs.Tryz.strconv_Atoi_syntax s hmax (ha.trans rfl) ev w h1 h2).mono fun e w' ⟨N, g1, g2, g3, g4⟩ => ⟨_, _, g1, ⟨(_, _, _), trivial, rfl, rfl⟩, g4⟩
    · obtain ⟨ev, h1, h2⟩ := (F.facts w hw).rng
      exact (Go.Proofs.Tryz.strconv_Atoi_range s hmax ha ev w h1 h2).mono fun e w' ⟨N, g1, g2, g3, g4⟩ => ⟨_, _, g1, ⟨(_, _, _), trivial, rfl, rfl⟩, g4⟩
def rd (s : ByteArray) : Option Int := readDec s.data.toList
theorem dec_ne {v : Int} {s : ByteArray} : dec v = s ↔ itoa v = s.data.toList := by
  constructor
  · rintro rfl; simp [dec]
  · intro h; unfold dec; exact ba_ext (by simp [h])
theorem c_impl_ReadDec [F : Facts.Of] (s : ByteArray) (h1 : s.size ≤ 281474976710656) : Con PP 140 [.sc (.string s)] [] [] (fun r o => r = .tup [.sc (.int .i64 ((rd s).getD 0)), .sc (.bool (rd s).isSome)]) := by
  by_cases hlen : 1 ≤ (trimPrefix s.data.toList [45]).length ∧ (trimPrefix s.data.toList [45]).length ≤ 9
  · have hin : inRange ((trimPrefix s.data.toList [45]).length : Nat) 1 9 = true := by simp [inRange]; omega
    by_cases hok : ∃ v, atoiAll s.data.toList = .ok v
    · obtain ⟨v, hv⟩ := hok
      obtain ⟨b1, b2⟩ := atoiAll_bounds hv
      have hr : rd s = if dec v = s then some v else none := by
        split
        · rename_i h; exact readDec_ok hlen.2 (dec_ne.1 h)
        · rename_i h; exact readDec_off hv (fun e => h (dec_ne.2 e))
      rw [hr]
      have kA := k_Atoi_ok s (by omega) v hv
      refine Con.of tok (nt := 27) Go.Proofs.Tryz.func140 (by kernel_rfl) rfl rfl rfl (Nat.le_of_ble_eq_true rfl) fun G => ?_
      simp only [entSt, tmOf, List.append_nil, List.cons_append, List.nil_append]
      repeat' (first
        | apply WPc.sq
        | (refine WPc.ret (endP.val (.inr rfl) rfl rfl (by simp; rfl) ?_))
        | apply WPc.skip
        | refine WPL.nil ?_
        | (apply WPL.cL (c_strings_TrimPrefix _ _); (case q => (repeat' (first | refine And.intro ?_ ?_ | intro _ | exact cleanOut_nil | (refine Eqv.mk ?_; first | rfl | (simp -implicitDefEqProofs [hin, ByteArray.size]; done)) | (simp -implicitDefEqProofs [hin, ByteArray.size]; done) | (simp -implicitDefEqProofs [hin, ByteArray.size]; rfl) | (simp; done) | (simp; rfl) | rfl))))
        | (apply WPL.cL (c_impl_inRange _ _ _); (case q => (repeat' (first | refine And.intro ?_ ?_ | intro _ | exact cleanOut_nil | (refine Eqv.mk ?_; first | rfl | (simp -implicitDefEqProofs [hin, ByteArray.size]; done)) | (simp -implicitDefEqProofs [hin, ByteArray.size]; done) | (simp -implicitDefEqProofs [hin, ByteArray.size]; rfl) | (simp; done) | (simp; rfl) | rfl))))
        | (apply WPL.cL kA; (case q => (repeat' (first | refine And.intro ?_ ?_ | intro _ | exact cleanOut_nil | (refine Eqv.mk ?_; first | rfl | (simp -implicitDefEqProofs [hin, ByteArray.size]; done)) | (simp -implicitDefEqProofs [hin, ByteArray.size]; done) | (simp -implicitDefEqProofs [hin, ByteArray.size]; rfl) | (simp; done) | (simp; rfl) | rfl))))
        | (apply WPL.cL (c_impl_Dec _ ?g1 ?g2); (case q => (repeat' (first | refine And.intro ?_ ?_ | intro _ | exact cleanOut_nil | (refine Eqv.mk ?_; first | rfl | (simp -implicitDefEqProofs [hin, ByteArray.size]; done)) | (simp -implicitDefEqProofs [hin, ByteArray.size]; done) | (simp -implicitDefEqProofs [hin, ByteArray.size]; rfl) | (simp; done) | (simp; rfl) | rfl))); (case g1 => (first | assumption | omega | decide | (simp; done) | (simp_all; done) | (intros; omega))); (case g2 => (first | assumption | omega | decide | (simp; done) | (simp_all; done) | (intros; omega))))
        | ((first | refine WPc.rq tok rfl fun K hK => ?_ | refine WPL.rn tok _ (by simp [ahead, isFn]; rfl) fun K hK => ?_); simp -implicitDefEqProofs +contextual [-Int.not_le, -Int.not_lt, -Nat.not_le, -Nat.not_lt, -List.all_eq_true, -List.all_eq_false, -List.any_eq_true, -List.any_eq_false, hin, ByteArray.size]; (repeat1' (first | apply hK | apply And.intro | intro _)) <;> clear hK K <;> (try dsimp only [List.drop]))
        | (refine WPc.region ?_; simp only [List.toList_toArray])
        | (refine WPc.condF ?_ ?_; (focus (simp; done)))
        | (refine WPc.cond (by simp [-Bool.not_eq_eq_eq_not]; rfl) (fun hq => ?_) (fun hq => ?_) <;> simp only [hq] <;> (try (exfalso; (simp only [decide_eq_true_eq, decide_eq_false_iff_not] at hq); omega))))
      all_goals simp_all
    · have hr : rd s = none := readDec_bad fun v h => hok ⟨v, h⟩
      rw [hr]
      have kA := k_Atoi_bad s h1 fun v h => hok ⟨v, h⟩
      refine Con.of tok (nt := 27) Go.Proofs.Tryz.func140 (by kernel_rfl) rfl rfl rfl (Nat.le_of_ble_eq_true rfl) fun G => ?_
      simp only [entSt, tmOf, List.append_nil, List.cons_append, List.nil_append]
      repeat' (first
        | apply WPc.sq
        | (refine WPc.ret (endP.val (.inr rfl) rfl rfl (by simp; rfl) ?_))
        | apply WPc.skip
        | refine WPL.nil ?_
        | (apply WPL.cL (c_strings_TrimPrefix _ _); (case q => (repeat' (first | refine And.intro ?_ ?_ | intro _ | exact cleanOut_nil | (refine Eqv.mk ?_; first | rfl | (simp -implicitDefEqProofs [hin, ByteArray.size]; done)) | (simp -implicitDefEqProofs [hin, ByteArray.size]; done) | (simp -implicitDefEqProofs [hin, ByteArray.size]; rfl) | (simp; done) | (simp; rfl) | rfl))))
        | (apply WPL.cL (c_impl_inRange _ _ _); (case q => (repeat' (first | refine And.intro ?_ ?_ | intro _ | exact cleanOut_nil | (refine Eqv.mk ?_; first | rfl | (simp -implicitDefEqProofs [hin, ByteArray.size]; done)) | (simp -implicitDefEqProofs [hin, ByteArray.size]; done) | (simp -implicitDefEqProofs [hin, ByteArray.size]; rfl) | (simp; done) | (simp; rfl) | rfl))))
        | (apply WPL.cR kA; (case q => (repeat' (first | refine And.intro ?_ ?_ | intro _ | exact cleanOut_nil | (refine Eqv.mk ?_; first | rfl | (simp -implicitDefEqProofs [hin, ByteArray.size]; done)) | (simp -implicitDefEqProofs [hin, ByteArray.size]; done) | (simp -implicitDefEqProofs [hin, ByteArray.size]; rfl) | (simp; done) | (simp; rfl) | rfl))); (intro y hy s hs; simp at hs; subst hs))
        | (refine WPL.call0f ?_ ?_ ?_; (focus (simp; done)); (focus (simp; done)))
        | ((first | refine WPc.rq tok rfl fun K hK => ?_ | refine WPL.rn tok _ (by simp [ahead, isFn]; rfl) fun K hK => ?_); simp -implicitDefEqProofs +contextual [-Int.not_le, -Int.not_lt, -Nat.not_le, -Nat.not_lt, -List.all_eq_true, -List.all_eq_false, -List.any_eq_true, -List.any_eq_false, hin, ByteArray.size]; (repeat1' (first | apply hK | apply And.intro | intro _)) <;> clear hK K <;> (try dsimp only [List.drop]))
        | (refine WPc.region ?_; simp only [List.toList_toArray])
        | (refine WPc.condT ?_ ?_; (focus (simp; done)))
        | (refine WPc.condF ?_ ?_; (focus (simp; done))))
      all_goals simp_all
  · have hr : rd s = none := readDec_none_len hlen
    have hin : inRange ((trimPrefix s.data.toList [45]).length : Nat) 1 9 = false := by simp [inRange]; omega
    rw [hr]
    refine Con.of tok (nt := 27) Go.Proofs.Tryz.func140 (by kernel_rfl) rfl rfl rfl (Nat.le_of_ble_eq_true rfl) fun G => ?_
    simp only [entSt, tmOf, List.append_nil, List.cons_append, List.nil_append]
    repeat' (first
      | apply WPc.sq
      | (refine WPc.ret (endP.val (.inr rfl) rfl rfl (by simp; rfl) ?_))
      | refine WPL.nil ?_
      | (apply WPL.cL (c_strings_TrimPrefix _ _); (case q => (repeat' (first | refine And.intro ?_ ?_ | intro _ | exact cleanOut_nil | (refine Eqv.mk ?_; first | rfl | (simp -implicitDefEqProofs [hin, ByteArray.size]; done)) | (simp -implicitDefEqProofs [hin, ByteArray.size]; done) | (simp -implicitDefEqProofs [hin, ByteArray.size]; rfl) | (simp; done) | (simp; rfl) | rfl))))
      | (apply WPL.cL (c_impl_inRange _ _ _); (case q => (repeat' (first | refine And.intro ?_ ?_ | intro _ | exact cleanOut_nil | (refine Eqv.mk ?_; first | rfl | (simp -implicitDefEqProofs [hin, ByteArray.size]; done)) | (simp -implicitDefEqProofs [hin, ByteArray.size]; done) | (simp -implicitDefEqProofs [hin, ByteArray.size]; rfl) | (simp; done) | (simp; rfl) | rfl))))
      | ((first | refine WPc.rq tok rfl fun K hK => ?_ | refine WPL.rn tok _ (by simp [ahead, isFn]; rfl) fun K hK => ?_); simp -implicitDefEqProofs +contextual [-Int.not_le, -Int.not_lt, -Nat.not_le, -Nat.not_lt, -List.all_eq_true, -List.all_eq_false, -List.any_eq_true, -List.any_eq_false, hin, ByteArray.size]; (repeat1' (first | apply hK | apply And.intro | intro _)) <;> clear hK K <;> (try dsimp only [List.drop]))
      | (refine WPc.region ?_; simp only [List.toList_toArray])
      | (refine WPc.condT ?_ ?_; (focus (simp; done))))
    all_goals rfl
end Go.Own
set_option maxRecDepth 1000000
set_option maxHeartbeats 4000000
namespace Go.Own
attribute [local irreducible] WPc WPL WPS HAny endP
variable [Laid]
open Go.Lib Go.RowKit
structure DecI (n m : Int) (out : ByteArray) : Prop where
  eq : decDigits n.natAbs = ddig m ++ out.data.toList
  pos : 0 ≤ n → 0 ≤ m
  neg : n < 0 → m ≤ 0
  le : m.natAbs ≤ n.natAbs
  sz : out.size ≤ 20
def nextD (m : Int) (out : ByteArray) : ByteArray := ⟨#[UInt8.ofNat (48 + m.natAbs % 10)]⟩ ++ out
theorem DecI.next {n m : Int} {out : ByteArray} (h : DecI n m out) (hb : n.natAbs < 18446744073709551616) (hm : m ≠ 0) : DecI n (m.tdiv 10) (nextD m out) := by
  have hd : (m.tdiv 10).natAbs = m.natAbs / 10 := by rw [Int.natAbs_tdiv]; rfl
  have he : decDigits n.natAbs = ddig (m.tdiv 10) ++ (nextD m out).data.toList := by
    rw [h.eq, ddig_step hm, nextD, ByteArray.data_append, Array.toList_append, List.append_assoc]
  refine ⟨he, fun h0 => ?_, fun h0 => ?_, by have := h.le; omega, ?_⟩
  · have := h.pos h0; exact Int.tdiv_nonneg this (by omega)
  · have := h.neg h0
    have : m.tdiv 10 = -((-m).tdiv 10) := by rw [Int.neg_tdiv, Int.neg_neg]
    have h2 : 0 ≤ (-m).tdiv 10 := Int.tdiv_nonneg (by omega) (by omega)
    omega
  · have := congrArg List.length he
    rw [decDigits_length, List.length_append] at this
    have h20 := nDigits_le20 n.natAbs hb
    have : (nextD m out).size = (nextD m out).data.toList.length := Array.length_toList.symm
    omega
theorem digit_byte (m : Int) : (strOfNums [IntKind.u8.wrap (IntKind.i64.wrap (48 + if m.tmod 10 < 0 then IntKind.i64.wrap (-(m.tmod 10)) else m.tmod 10))]) = ⟨#[UInt8.ofNat (48 + m.natAbs % 10)]⟩ := by
  have h := tmod_abs m
  have h2 : m.natAbs % 10 < 10 := Nat.mod_lt _ (by omega)
  have e : (if m.tmod 10 < 0 then IntKind.i64.wrap (-(m.tmod 10)) else m.tmod 10) = ((m.natAbs % 10 : Nat) : Int) := by
    split
    · rw [wrap64 (by omega) (by omega)]; omega
    · omega
  rw [e, wrap64 (by omega) (by omega), IntKind.wrap_u8]
  simp only [strOfNums, List.map_cons, List.map_nil]
  rw [show ((48 + ((m.natAbs % 10 : Nat) : Int)) % 256).toNat = 48 + m.natAbs % 10 by omega]
theorem c_spec_Dec (n : Int) (h0 : -9223372036854775808 ≤ n) (h1 : n ≤ 9223372036854775807) : Con PP 124 [.sc (.int .i64 n)] [] [] (fun r o => r = .sc (.string (dec n))) := by
  by_cases hz : n = 0
  · subst hz
    refine Con.of tok (nt := 31) Go.Proofs.Tryz.func124 (by kernel_rfl) rfl rfl rfl (Nat.le_of_ble_eq_true rfl) fun G => ?_
    simp only [entSt, tmOf, List.append_nil, List.cons_append, List.nil_append]
    repeat' (first
      | apply WPc.sq
      | (refine WPc.ret (endP.val (.inr rfl) rfl rfl (by simp; rfl) ?_))
      | (refine WPc.rq tok rfl fun K hK => ?_; simp -implicitDefEqProofs +contextual [-Int.not_le, -Int.not_lt, -Nat.not_le, -Nat.not_lt, -List.all_eq_true, -List.all_eq_false, -List.any_eq_true, -List.any_eq_false]; (repeat1' (first | apply hK | apply And.intro | intro _)) <;> clear hK K <;> (try dsimp only [List.drop]))
      | (refine WPc.condT ?_ ?_; (focus (simp; done))))
    all_goals (try rfl)
    all_goals (rw [show dec 0 = ⟨#[48]⟩ from by simp [dec, itoa, decDigits]])
  have hdiv : ∀ m out, DecI n m out → IntKind.i64.wrap (m.tdiv 10) = m.tdiv 10 := fun m out hI => by
    have := hI.le
    have h2 : (m.tdiv 10).natAbs = m.natAbs / 10 := by rw [Int.natAbs_tdiv]; rfl
    rcases Int.le_total 0 n with h | h
    · have := hI.pos h
      have := Int.tdiv_nonneg this (show (0 : Int) ≤ 10 by omega)
      exact wrap64 (by omega) (by omega)
    · exact wrap64 (by omega) (by omega)
  refine Con.of tok (nt := 31) Go.Proofs.Tryz.func124 (by kernel_rfl) rfl rfl rfl (Nat.le_of_ble_eq_true rfl) fun G => ?_
  simp only [entSt, tmOf, List.append_nil, List.cons_append, List.nil_append]
  repeat' (first
    | apply WPc.sq
    | apply WPc.block
    | apply WPc.skip
    | (refine WPc.rq tok rfl fun K hK => ?_; simp -implicitDefEqProofs +contextual [-Int.not_le, -Int.not_lt, -Nat.not_le, -Nat.not_lt, -List.all_eq_true, -List.all_eq_false, -List.any_eq_true, -List.any_eq_false, hz]; (repeat1' (first | apply hK | apply And.intro | intro _)) <;> clear hK K <;> (try dsimp only [List.drop]))
    | (refine WPc.condF ?_ ?_; (focus (simp; done))))
  refine WPc.loopK (σ := Int × ByteArray) (fun x => DecI n x.1 x.2) (fun x => x.1.natAbs) (fun x => [(0, .sc (.int .i64 x.1)), (3, .sc (.string x.2))])  [4] (n, ⟨#[]⟩) (by simp) (by simp) (⟨by simp [ddig, hz], by simp, by simp; omega, by simp, by simp [ByteArray.size]⟩) ?_
  rintro ⟨m, out⟩ hI s hs
  simp at hs
  subst hs
  have hs := hI.sz
  dsimp only at hs hI
  by_cases hm : m = 0
  · subst hm
    have s1 : SAdd ⟨#[45]⟩ out := by unfold SAdd; have : (⟨#[45]⟩ : ByteArray).size = 1 := rfl; omega
    have he := hI.eq
    simp only [ddig, if_true, List.nil_append] at he
    have hd : dec n = if n < 0 then ⟨#[45]⟩ ++ out else out := by
      unfold dec itoa
      split
      · rw [he]; exact ba_ext (by simp)
      · rw [show n.toNat = n.natAbs by omega, he]
    rw [hd]
    repeat' (first
      | apply WPc.sq
      | (refine WPc.ret (endP.val (.inr rfl) rfl rfl (by simp; rfl) ?_))
      | apply WPc.skip
      | apply WPc.exit
      | (refine WPc.rq tok rfl fun K hK => ?_; simp -implicitDefEqProofs +contextual [-Int.not_le, -Int.not_lt, -Nat.not_le, -Nat.not_lt, -List.all_eq_true, -List.all_eq_false, -List.any_eq_true, -List.any_eq_false, s1]; (repeat1' (first | apply hK | apply And.intro | intro _)) <;> clear hK K <;> (try dsimp only [List.drop]))
      | (refine WPc.condF ?_ ?_; (focus (simp; done)))
      | (refine WPc.cond (by simp [-Bool.not_eq_eq_eq_not]; rfl) (fun hq => ?_) (fun hq => ?_) <;> simp only [hq] <;> (try (exfalso; (simp only [decide_eq_true_eq, decide_eq_false_iff_not] at hq); omega))))
    · rw [if_pos (by simpa using hq)]
    · rw [if_neg (by simpa using hq)]
  · have s1 : ∀ c : Int, SAdd (strOfNums [c]) out := fun c => by unfold SAdd; rw [strOfNums_size]; simp; omega
    have hb := digit_byte m
    have hn := hI.next (by omega) hm
    have hmm : (m.tdiv 10).natAbs < m.natAbs := by rw [Int.natAbs_tdiv]; show m.natAbs / 10 < _; omega
    repeat' (first
      | apply WPc.sq
      | apply WPc.block
      | apply WPc.skip
      | (refine WPc.rq tok rfl fun K hK => ?_; simp -implicitDefEqProofs +contextual [-Int.not_le, -Int.not_lt, -Nat.not_le, -Nat.not_lt, -List.all_eq_true, -List.all_eq_false, -List.any_eq_true, -List.any_eq_false, hm, s1]; (repeat1' (first | apply hK | apply And.intro | intro _)) <;> clear hK K <;> (try dsimp only [List.drop]))
      | (refine WPc.condT ?_ ?_; (focus (simp; done)))
      | (refine WPc.cond (by simp [-Bool.not_eq_eq_eq_not]; rfl) (fun hq => ?_) (fun hq => ?_) <;> simp only [hq] <;> (try (exfalso; (simp only [decide_eq_true_eq, decide_eq_false_iff_not] at hq); omega))))
    all_goals (first | (have g : m.tmod 10 < 0 := by simpa using hq
                        rw [if_pos g] at hb) | (have g : ¬ m.tmod 10 < 0 := by simpa using hq
                                                rw [if_neg g] at hb))
    all_goals
      refine ⟨(m.tdiv 10, nextD m out), ⟨hn, by first | omega | (simp only; omega) | assumption⟩, rfl, rfl, ?_, ?_⟩ <;> simp (disch := omega) [wrap64, nextD, hb, hdiv _ _ hI]
theorem bt_get {s : ByteArray} {i : Nat} (h : i < s.size) : ∃ c, s.data.toList[i]? = some c ∧ bt s i = (c.toNat : Int) := by
  refine ⟨s[i], ?_, ?_⟩
  · have : i < s.data.toList.length := by simpa using h
    rw [List.getElem?_eq_getElem this]; rfl
  · unfold bt
    simp only [Int.toNat_natCast]
    rw [dif_pos h]
theorem isDigB_bt {c : UInt8} : isDigB c = (decide (48 ≤ (c.toNat : Int)) && decide ((c.toNat : Int) ≤ 57)) := by
  unfold isDigB
  congr 1 <;> exact decide_eq_decide.2 (by omega)
theorem len_list (s : ByteArray) : s.data.toList.length = s.size := Array.length_toList
theorem c_spec_ReadDec (s : ByteArray) (h1 : s.size ≤ 9223372036854775807) : Con PP 100 [.sc (.string s)] [] [] (fun r o => r = .tup [.sc (.int .i64 ((rd s).getD 0)), .sc (.bool (rd s).isSome)]) := by
  refine Con.of tok (nt := 61) Go.Proofs.Tryz.func100 (by kernel_rfl) rfl rfl rfl (Nat.le_of_ble_eq_true rfl) fun G => ?_
  simp only [entSt, tmOf, List.append_nil, List.cons_append, List.nil_append]
  repeat' (first
    | apply WPc.sq
    | apply WPc.block
    | (refine WPc.rq tok rfl fun K hK => ?_; simp -implicitDefEqProofs +contextual [-Int.not_le, -Int.not_lt, -Nat.not_le, -Nat.not_lt, -List.all_eq_true, -List.all_eq_false, -List.any_eq_true, -List.any_eq_false]; (repeat1' (first | apply hK | apply And.intro | intro _)) <;> clear hK K <;> (try dsimp only [List.drop])))
  refine WPc.loopK (σ := Nat) (fun i => i ≤ s.size ∧ i ≤ 11) (fun i => 11 - i) (fun i => [(4, .sc (.int .i64 (foldD 0 (s.data.toList.take i) : Nat))), (5, .sc (.int .i64 (cntD (s.data.toList.take i) : Nat))), (6, .sc (.int .i64 i))])  [0] 0 (by simp [foldD, cntD]) (by simp [foldD, cntD]) (by simp) ?_
  rintro i ⟨hi, hi2⟩ s hs
  simp at hs
  subst hs
  have hf := foldD_lt (s.data.toList.take i)
  have hc : cntD (s.data.toList.take i) ≤ (s.data.toList.take i).length := List.countP_le_length
  have hl : (s.data.toList.take i).length ≤ i := List.length_take_le _ _
  have hp : 10 ^ (s.data.toList.take i).length ≤ 10 ^ i := Nat.pow_le_pow_right (by omega) hl
  have hp2 : 10 ^ i ≤ 10 ^ 11 := Nat.pow_le_pow_right (by omega) hi2
  by_cases hlt : i < s.size ∧ i < 11
  · obtain ⟨hlt, hlt2⟩ := hlt
    obtain ⟨c, hg, hb⟩ := bt_get hlt
    have hcn := c.toNat_lt
    have e1 := foldD_snoc hg
    have e2 := cntD_snoc hg
    have hd : isDigB c = (decide (48 ≤ (c.toNat : Int)) && decide ((c.toNat : Int) ≤ 57)) := isDigB_bt
    have hp3 : 10 ^ i ≤ 10 ^ 10 := Nat.pow_le_pow_right (by omega) (by omega)
    have hw : 48 ≤ (c.toNat : Int) → IntKind.i64.wrap (IntKind.i64.wrap ((foldD 0 (s.data.toList.take i) : Nat) * 10) + IntKind.i64.wrap (IntKind.u8.wrap (c.toNat - 48))) = ((foldD 0 (s.data.toList.take i) * 10 + (c.toNat - 48) : Nat) : Int) := fun h => by
      rw [IntKind.wrap_u8, Int.emod_eq_of_lt (by omega) (by omega), wrap64 (x := _ * 10) (by omega) (by omega), wrap64 (x := _ - 48) (by omega) (by omega), wrap64 (by omega) (by omega)]
      omega
    have hw2 : IntKind.i64.wrap ((cntD (s.data.toList.take i) : Nat) + 1) = ((cntD (s.data.toList.take i) + 1 : Nat) : Int) := wrap64 (by omega) (by omega)
    have hw3 : IntKind.i64.wrap ((i : Int) + 1) = ((i + 1 : Nat) : Int) := wrap64 (by omega) (by omega)
    by_cases h48 : 48 ≤ (c.toNat : Int)
    · by_cases h57 : (c.toNat : Int) ≤ 57
      · have hdt : isDigB c = true := by rw [hd]; simp [h48, h57]
        rw [if_pos hdt] at e1 e2
        repeat' (first
          | apply WPc.sq
          | apply WPc.block
          | apply WPc.skip
          | (refine WPc.rq tok rfl fun K hK => ?_; simp -implicitDefEqProofs +contextual [-Int.not_le, -Int.not_lt, -Nat.not_le, -Nat.not_lt, -List.all_eq_true, -List.all_eq_false, -List.any_eq_true, -List.any_eq_false, hlt, hb, h48, h57, show (i : Int) < 11 by omega]; (repeat1' (first | apply hK | apply And.intro | intro _)) <;> clear hK K <;> (try dsimp only [List.drop]))
          | (refine WPc.condT ?_ ?_; (focus (simp; done))))
        refine ⟨i + 1, ⟨⟨by omega, by omega⟩, by omega⟩, rfl, rfl, ?_, ?_⟩
        · simp only [FitT, List.cons_append, List.nil_append, lk_cons, pick_cons, pick_nil, hw h48, hw2, hw3, e1, e2]
          simp
        · simp
      · have hdt : isDigB c = false := by rw [hd]; simp [h57]
        rw [hdt] at e1 e2
        simp only [Bool.false_eq_true, if_false] at e1 e2
        repeat' (first
          | apply WPc.sq
          | apply WPc.block
          | apply WPc.skip
          | (refine WPc.rq tok rfl fun K hK => ?_; simp -implicitDefEqProofs +contextual [-Int.not_le, -Int.not_lt, -Nat.not_le, -Nat.not_lt, -List.all_eq_true, -List.all_eq_false, -List.any_eq_true, -List.any_eq_false, hlt, hb, h48, h57, show (i : Int) < 11 by omega]; (repeat1' (first | apply hK | apply And.intro | intro _)) <;> clear hK K <;> (try dsimp only [List.drop]))
          | (refine WPc.condT ?_ ?_; (focus (simp; done)))
          | (refine WPc.condF ?_ ?_; (focus (simp; done))))
        refine ⟨i + 1, ⟨⟨by omega, by omega⟩, by omega⟩, rfl, rfl, ?_, ?_⟩
        · simp only [FitT, List.cons_append, List.nil_append, lk_cons, pick_cons, pick_nil, hw3, e1, e2]
          simp
        · simp
    · have hdt : isDigB c = false := by rw [hd]; simp [h48]
      rw [hdt] at e1 e2
      simp only [Bool.false_eq_true, if_false] at e1 e2
      repeat' (first
        | apply WPc.sq
        | apply WPc.block
        | apply WPc.skip
        | (refine WPc.rq tok rfl fun K hK => ?_; simp -implicitDefEqProofs +contextual [-Int.not_le, -Int.not_lt, -Nat.not_le, -Nat.not_lt, -List.all_eq_true, -List.all_eq_false, -List.any_eq_true, -List.any_eq_false, hlt, hb, h48, show (i : Int) < 11 by omega]; (repeat1' (first | apply hK | apply And.intro | intro _)) <;> clear hK K <;> (try dsimp only [List.drop]))
        | (refine WPc.condT ?_ ?_; (focus (simp; done)))
        | (refine WPc.condF ?_ ?_; (focus (simp; done))))
      refine ⟨i + 1, ⟨⟨by omega, by omega⟩, by omega⟩, rfl, rfl, ?_, ?_⟩
      · simp only [FitT, List.cons_append, List.nil_append, lk_cons, pick_cons, pick_nil, hw3, e1, e2]
        simp
      · simp
  · have hneg : IntKind.i64.wrap (-((foldD 0 (s.data.toList.take i) : Nat) : Int)) = -((foldD 0 (s.data.toList.take i) : Nat) : Int) := wrap64 (by omega) (by omega)
    have hh : s.data.toList.head? = some 45 ↔ 0 < s.size ∧ bt s 0 = 45 := by
      constructor
      · intro h
        have h0 : 0 < s.size := by
          rw [← len_list]; cases hs : s.data.toList with
          | nil => rw [hs] at h; simp at h
          | cons => simp
        obtain ⟨c, hg, hb⟩ := bt_get h0
        rw [List.head?_eq_getElem?, hg] at h
        injection h with h
        subst h
        exact ⟨h0, hb⟩
      · rintro ⟨h0, hb0⟩
        obtain ⟨c, hg, hb⟩ := bt_get h0
        rw [List.head?_eq_getElem?, hg]
        simp only [Int.natCast_zero] at hb
        rw [hb0] at hb
        congr 1
        apply UInt8.toNat_inj.1
        show c.toNat = 45
        omega
    have hall : s.size ≤ 10 → s.data.toList.take i = s.data.toList := fun h => List.take_of_length_le (by rw [len_list]; omega)
    have hdv : decVal s.data.toList = if s.data.toList.head? = some 45 then -(foldD 0 s.data.toList : Int) else foldD 0 s.data.toList := rfl
    have key : ∀ v : Int, (s.size ≤ 10 → v = decVal s.data.toList) → rd s = if cntD (s.data.toList.take i) ≤ 9 ∧ s.size ≤ 10 ∧ dec v = s then some v else none := fun v hv => by
      split
      · rename_i h
        obtain ⟨g1, g2, g3⟩ := h
        rw [hall g2] at g1
        rw [hv g2] at g3 ⊢
        exact readDec_spec (by rw [len_list]; omega) g1 (dec_ne.1 g3)
      · rename_i h
        refine readDec_spec_no fun ⟨g1, g2, g3⟩ => h ?_
        rw [len_list] at g1
        exact ⟨by rw [hall g1]; exact g2, g1, by rw [hv g1]; exact dec_ne.2 g3⟩
    have hnot : ¬ ((i : Int) < s.size ∧ (i : Int) < 11) := by omega
    by_cases hmin : 0 < s.size ∧ bt s 0 = 45
    · have hk := key (-((foldD 0 (s.data.toList.take i) : Nat) : Int)) (fun h => by rw [hall h, hdv, if_pos (hh.2 hmin)])
      rw [hk]
      repeat' (first
        | apply WPc.sq
        | (refine WPc.ret (endP.val (.inr rfl) rfl rfl (by simp; rfl) ?_))
        | apply WPc.skip
        | apply WPc.exit
        | refine WPL.nil ?_
        | (apply WPL.cL (c_spec_Dec _ ?g1 ?g2); (case q => (repeat' (first | refine And.intro ?_ ?_ | intro _ | exact cleanOut_nil | (refine Eqv.mk ?_; first | rfl | (simp -implicitDefEqProofs [hmin.1, hmin.2, hneg]; done)) | (simp -implicitDefEqProofs [hmin.1, hmin.2, hneg]; done) | (simp -implicitDefEqProofs [hmin.1, hmin.2, hneg]; rfl) | (simp; done) | (simp; rfl) | rfl))); (case g1 => (first | assumption | omega | decide)); (case g2 => (first | assumption | omega | decide)))
        | (refine WPL.call0f ?_ ?_ ?_; (focus (simp; done)); (focus (simp; done)))
        | ((first | refine WPc.rq tok rfl fun K hK => ?_ | refine WPL.rn tok _ (by simp [ahead, isFn]; rfl) fun K hK => ?_); simp -implicitDefEqProofs +contextual [-Int.not_le, -Int.not_lt, -Nat.not_le, -Nat.not_lt, -List.all_eq_true, -List.all_eq_false, -List.any_eq_true, -List.any_eq_false, hmin.1, hmin.2, hneg]; (repeat1' (first | apply hK | apply And.intro | intro _)) <;> clear hK K <;> (try dsimp only [List.drop]))
        | (refine WPc.region ?_; simp only [List.toList_toArray])
        | (refine WPc.condT ?_ ?_; (focus (simp; done)))
        | (refine WPc.condF ?_ ?_; (focus (simp; done)))
        | (refine WPc.cond (by simp [-Bool.not_eq_eq_eq_not]; rfl) (fun hq => ?_) (fun hq => ?_) <;> simp only [hq] <;> (try (exfalso; (simp only [decide_eq_true_eq, decide_eq_false_iff_not] at hq); omega))))
      all_goals (first | (rw [if_pos ⟨by omega, by omega, by simp_all⟩]; rfl) | (rw [if_neg (by intro ⟨g1, g2, g3⟩; first | omega | simp_all)]; rfl))
    · have hk := key ((foldD 0 (s.data.toList.take i) : Nat) : Int) (fun h => by rw [hall h, hdv, if_neg (fun e => hmin (hh.1 e))])
      rw [hk]
      by_cases h0 : 0 < s.size
      · have hb0 : ¬ bt s 0 = 45 := fun e => hmin ⟨h0, e⟩
        repeat' (first
          | apply WPc.sq
          | (refine WPc.ret (endP.val (.inr rfl) rfl rfl (by simp; rfl) ?_))
          | apply WPc.skip
          | apply WPc.exit
          | refine WPL.nil ?_
          | (apply WPL.cL (c_spec_Dec _ ?g1 ?g2); (case q => (repeat' (first | refine And.intro ?_ ?_ | intro _ | exact cleanOut_nil | (refine Eqv.mk ?_; first | rfl | (simp -implicitDefEqProofs [h0, hb0]; done)) | (simp -implicitDefEqProofs [h0, hb0]; done) | (simp -implicitDefEqProofs [h0, hb0]; rfl) | (simp; done) | (simp; rfl) | rfl))); (case g1 => (first | assumption | omega | decide)); (case g2 => (first | assumption | omega | decide)))
          | (refine WPL.call0f ?_ ?_ ?_; (focus (simp; done)); (focus (simp; done)))
          | ((first | refine WPc.rq tok rfl fun K hK => ?_ | refine WPL.rn tok _ (by simp [ahead, isFn]; rfl) fun K hK => ?_); simp -implicitDefEqProofs +contextual [-Int.not_le, -Int.not_lt, -Nat.not_le, -Nat.not_lt, -List.all_eq_true, -List.all_eq_false, -List.any_eq_true, -List.any_eq_false, h0, hb0]; (repeat1' (first | apply hK | apply And.intro | intro _)) <;> clear hK K <;> (try dsimp only [List.drop]))
          | (refine WPc.region ?_; simp only [List.toList_toArray])
          | (refine WPc.condT ?_ ?_; (focus (simp; done)))
          | (refine WPc.condF ?_ ?_; (focus (simp; done)))
          | (refine WPc.cond (by simp [-Bool.not_eq_eq_eq_not]; rfl) (fun hq => ?_) (fun hq => ?_) <;> simp only [hq] <;> (try (exfalso; (simp only [decide_eq_true_eq, decide_eq_false_iff_not] at hq); omega))))
        all_goals (first | (rw [if_pos ⟨by omega, by omega, by simp_all⟩]; rfl) | (rw [if_neg (by intro ⟨g1, g2, g3⟩; first | omega | simp_all)]; rfl))
      · repeat' (first
          | apply WPc.sq
          | (refine WPc.ret (endP.val (.inr rfl) rfl rfl (by simp; rfl) ?_))
          | apply WPc.skip
          | apply WPc.exit
          | refine WPL.nil ?_
          | (apply WPL.cL (c_spec_Dec _ ?g1 ?g2); (case q => (repeat' (first | refine And.intro ?_ ?_ | intro _ | exact cleanOut_nil | (refine Eqv.mk ?_; first | rfl | (simp -implicitDefEqProofs [h0]; done)) | (simp -implicitDefEqProofs [h0]; done) | (simp -implicitDefEqProofs [h0]; rfl) | (simp; done) | (simp; rfl) | rfl))); (case g1 => (first | assumption | omega | decide)); (case g2 => (first | assumption | omega | decide)))
          | (refine WPL.call0f ?_ ?_ ?_; (focus (simp; done)); (focus (simp; done)))
          | ((first | refine WPc.rq tok rfl fun K hK => ?_ | refine WPL.rn tok _ (by simp [ahead, isFn]; rfl) fun K hK => ?_); simp -implicitDefEqProofs +contextual [-Int.not_le, -Int.not_lt, -Nat.not_le, -Nat.not_lt, -List.all_eq_true, -List.all_eq_false, -List.any_eq_true, -List.any_eq_false, h0]; (repeat1' (first | apply hK | apply And.intro | intro _)) <;> clear hK K <;> (try dsimp only [List.drop]))
          | (refine WPc.region ?_; simp only [List.toList_toArray])
          | (refine WPc.condT ?_ ?_; (focus (simp; done)))
          | (refine WPc.condF ?_ ?_; (focus (simp; done)))
          | (refine WPc.cond (by simp [-Bool.not_eq_eq_eq_not]; rfl) (fun hq => ?_) (fun hq => ?_) <;> simp only [hq] <;> (try (exfalso; (simp only [decide_eq_true_eq, decide_eq_false_iff_not] at hq); omega))))
        all_goals (first | (rw [if_pos ⟨by omega, by omega, by simp_all⟩]; rfl) | (rw [if_neg (by intro ⟨g1, g2, g3⟩; first | omega | simp_all)]; rfl))
def allB (p : Int → Bool) (s : ByteArray) : Bool := (List.range s.size).all fun i => p (bt s i)
def sym (s : ByteArray) : Bool := allB isSym s && inRange s.size 1 16 && !isDigit (bt s 0) && !(rd s).isSome
theorem c_impl_symOk [F : Facts.Of] (s : ByteArray) (h1 : s.size ≤ 281474976710656) : Con PP 122 [.sc (.string s)] [] [] (fun r o => r = .sc (.bool (sym s))) := by
  refine Con.of tok (nt := 38) Go.Proofs.Tryz.func122 (by kernel_rfl) rfl rfl rfl (Nat.le_of_ble_eq_true rfl) fun G => ?_
  simp only [entSt, tmOf, List.append_nil, List.cons_append, List.nil_append]
  repeat' (first
    | apply WPc.sq
    | apply WPc.block
    | (refine WPc.rq tok rfl fun K hK => ?_; simp -implicitDefEqProofs +contextual [-Int.not_le, -Int.not_lt, -Nat.not_le, -Nat.not_lt, -List.all_eq_true, -List.all_eq_false, -List.any_eq_true, -List.any_eq_false]; (repeat1' (first | apply hK | apply And.intro | intro _)) <;> clear hK K <;> (try dsimp only [List.drop])))
  refine WPc.loopK (σ := Nat) (fun i => i ≤ s.size ∧ ((List.range s.size).take i).all (fun i => isSym (bt s i)) = true) (fun i => s.size - i) (fun i => [(3, .sc (.int .i64 i))])  [0] 0 (by simp) (by simp) (by simp) ?_
  rintro i ⟨hi, hall⟩ s hs
  simp at hs
  subst hs
  by_cases hlt : i < s.size
  · have hv : (List.range s.size)[i]? = some i := List.getElem?_range hlt
    repeat' (first
      | apply WPc.sq
      | apply WPc.block
      | (refine WPc.ret (endP.val (.inr rfl) rfl rfl (by simp; rfl) ?_))
      | apply WPc.skip
      | refine WPL.nil ?_
      | (apply WPL.cL (c_impl_isSymByte _ ?g1 ?g2); (case q => (repeat' (first | refine And.intro ?_ ?_ | intro _ | exact cleanOut_nil | (refine Eqv.mk ?_; first | rfl | (simp -implicitDefEqProofs [hlt]; done)) | (simp -implicitDefEqProofs [hlt]; done) | (simp -implicitDefEqProofs [hlt]; rfl) | (simp; done) | (simp; rfl) | rfl))); (case g1 => (first | assumption | omega | (simp; done))); (case g2 => (first | assumption | omega | (simp; done))))
      | ((first | refine WPc.rq tok rfl fun K hK => ?_ | refine WPL.rn tok _ (by simp [ahead, isFn]; rfl) fun K hK => ?_); simp -implicitDefEqProofs +contextual [-Int.not_le, -Int.not_lt, -Nat.not_le, -Nat.not_lt, -List.all_eq_true, -List.all_eq_false, -List.any_eq_true, -List.any_eq_false, hlt]; (repeat1' (first | apply hK | apply And.intro | intro _)) <;> clear hK K <;> (try dsimp only [List.drop]))
      | (refine WPc.region ?_; simp only [List.toList_toArray])
      | (refine WPc.condT ?_ ?_; (focus (simp; done)))
      | (refine WPc.cond (by simp [-Bool.not_eq_eq_eq_not]; rfl) (fun hq => ?_) (fun hq => ?_) <;> simp only [hq] <;> (try (exfalso; (simp only [decide_eq_true_eq, decide_eq_false_iff_not] at hq); omega))))
    · have : allB isSym s = false := all_at hv (by simp_all)
      simp [sym, this]
    all_goals
      refine ⟨i + 1, ⟨⟨by omega, all_next hv (by simp_all) hall⟩, by first | omega | (simp only; omega) | assumption⟩, rfl, rfl, ?_, ?_⟩ <;> simp (disch := omega) [wrap64]
  · rw [List.take_of_length_le (by simp; omega)] at hall
    have ha : allB isSym s = true := hall
    by_cases hr : inRange s.size 1 16 = true
    · have h0 : 0 < s.size := by simp [inRange] at hr; omega
      repeat' (first
        | apply WPc.sq
        | (refine WPc.ret (endP.val (.inr rfl) rfl rfl (by simp; rfl) ?_))
        | apply WPc.skip
        | apply WPc.exit
        | refine WPL.nil ?_
        | (apply WPL.cL (c_impl_inRange _ _ _); (case q => (repeat' (first | refine And.intro ?_ ?_ | intro _ | exact cleanOut_nil | (refine Eqv.mk ?_; first | rfl | (simp -implicitDefEqProofs [hlt, hr, h0]; done)) | (simp -implicitDefEqProofs [hlt, hr, h0]; done) | (simp -implicitDefEqProofs [hlt, hr, h0]; rfl) | (simp; done) | (simp; rfl) | rfl))))
        | (apply WPL.cL (c_impl_ReadDec _ ?g1); (case q => (repeat' (first | refine And.intro ?_ ?_ | intro _ | exact cleanOut_nil | (refine Eqv.mk ?_; first | rfl | (simp -implicitDefEqProofs [hlt, hr, h0]; done)) | (simp -implicitDefEqProofs [hlt, hr, h0]; done) | (simp -implicitDefEqProofs [hlt, hr, h0]; rfl) | (simp; done) | (simp; rfl) | rfl))); (case g1 => (first | assumption | omega | (simp; done))))
        | ((first | refine WPc.rq tok rfl fun K hK => ?_ | refine WPL.rn tok _ (by simp [ahead, isFn]; rfl) fun K hK => ?_); simp -implicitDefEqProofs +contextual [-Int.not_le, -Int.not_lt, -Nat.not_le, -Nat.not_lt, -List.all_eq_true, -List.all_eq_false, -List.any_eq_true, -List.any_eq_false, hlt, hr, h0]; (repeat1' (first | apply hK | apply And.intro | intro _)) <;> clear hK K <;> (try dsimp only [List.drop]))
        | (refine WPc.region ?_; simp only [List.toList_toArray])
        | (refine WPc.condF ?_ ?_; (focus (simp; done)))
        | (refine WPc.cond (by simp [-Bool.not_eq_eq_eq_not]; rfl) (fun hq => ?_) (fun hq => ?_) <;> simp only [hq] <;> (try (exfalso; (simp only [decide_eq_true_eq, decide_eq_false_iff_not] at hq); omega))))
      all_goals (simp_all [sym, isDigit])
    · repeat' (first
        | apply WPc.sq
        | (refine WPc.ret (endP.val (.inr rfl) rfl rfl (by simp; rfl) ?_))
        | apply WPc.exit
        | refine WPL.nil ?_
        | (apply WPL.cL (c_impl_inRange _ _ _); (case q => (repeat' (first | refine And.intro ?_ ?_ | intro _ | exact cleanOut_nil | (refine Eqv.mk ?_; first | rfl | (simp -implicitDefEqProofs [hlt, hr]; done)) | (simp -implicitDefEqProofs [hlt, hr]; done) | (simp -implicitDefEqProofs [hlt, hr]; rfl) | (simp; done) | (simp; rfl) | rfl))))
        | ((first | refine WPc.rq tok rfl fun K hK => ?_ | refine WPL.rn tok _ (by simp [ahead, isFn]; rfl) fun K hK => ?_); simp -implicitDefEqProofs +contextual [-Int.not_le, -Int.not_lt, -Nat.not_le, -Nat.not_lt, -List.all_eq_true, -List.all_eq_false, -List.any_eq_true, -List.any_eq_false, hlt, hr]; (repeat1' (first | apply hK | apply And.intro | intro _)) <;> clear hK K <;> (try dsimp only [List.drop]))
        | (refine WPc.region ?_; simp only [List.toList_toArray])
        | (refine WPc.condT ?_ ?_; (focus (simp; done)))
        | (refine WPc.condF ?_ ?_; (focus (simp; done))))
      all_goals (simp_all [sym])
theorem c_spec_l2Sym (s : ByteArray) (h1 : s.size ≤ 9223372036854775807) : Con PP 54 [.sc (.string s)] [] [] (fun r o => r = .sc (.bool (sym s))) := by
  by_cases hr : inRange s.size 1 16 = true
  · have h0 : 0 < s.size := by simp [inRange] at hr; omega
    refine Con.of tok (nt := 33) Go.Proofs.Tryz.func54 (by kernel_rfl) rfl rfl rfl (Nat.le_of_ble_eq_true rfl) fun G => ?_
    simp only [entSt, tmOf, List.append_nil, List.cons_append, List.nil_append]
    repeat' (first
      | apply WPc.sq
      | apply WPc.block
      | (refine WPc.ret (endP.val (.inr rfl) rfl rfl (by simp; rfl) ?_))
      | apply WPc.skip
      | refine WPL.nil ?_
      | (apply WPL.cL (c_spec_l1In _ _ _); (case q => (repeat' (first | refine And.intro ?_ ?_ | intro _ | exact cleanOut_nil | (refine Eqv.mk ?_; first | rfl | (simp -implicitDefEqProofs [hr, h0]; done)) | (simp -implicitDefEqProofs [hr, h0]; done) | (simp -implicitDefEqProofs [hr, h0]; rfl) | (simp; done) | (simp; rfl) | rfl))))
      | (apply WPL.cL (c_spec_l2Digit _); (case q => (repeat' (first | refine And.intro ?_ ?_ | intro _ | exact cleanOut_nil | (refine Eqv.mk ?_; first | rfl | (simp -implicitDefEqProofs [hr, h0]; done)) | (simp -implicitDefEqProofs [hr, h0]; done) | (simp -implicitDefEqProofs [hr, h0]; rfl) | (simp; done) | (simp; rfl) | rfl))))
      | ((first | refine WPc.rq tok rfl fun K hK => ?_ | refine WPL.rn tok _ (by simp [ahead, isFn]; rfl) fun K hK => ?_); simp -implicitDefEqProofs +contextual [-Int.not_le, -Int.not_lt, -Nat.not_le, -Nat.not_lt, -List.all_eq_true, -List.all_eq_false, -List.any_eq_true, -List.any_eq_false, hr, h0]; (repeat1' (first | apply hK | apply And.intro | intro _)) <;> clear hK K <;> (try dsimp only [List.drop]))
      | (refine WPc.region ?_; simp only [List.toList_toArray])
      | (refine WPc.cond (by simp [-Bool.not_eq_eq_eq_not]; rfl) (fun hq => ?_) (fun hq => ?_) <;> simp only [hq] <;> (try (exfalso; (simp only [decide_eq_true_eq, decide_eq_false_iff_not] at hq); omega))))
    · simp_all [sym]
    refine WPc.loopK (σ := Nat) (fun i => i ≤ s.size ∧ ((List.range s.size).take i).all (fun i => isSym (bt s i)) = true) (fun i => s.size - i) (fun i => [(3, .sc (.int .i64 i))])  [0] 0 (by simp) (by simp) (by simp) ?_
    rintro i ⟨hi, hall⟩ s hs
    simp at hs
    subst hs
    by_cases hlt : i < s.size
    · have hv : (List.range s.size)[i]? = some i := List.getElem?_range hlt
      repeat' (first
        | apply WPc.sq
        | apply WPc.block
        | (refine WPc.ret (endP.val (.inr rfl) rfl rfl (by simp; rfl) ?_))
        | apply WPc.skip
        | refine WPL.nil ?_
        | (apply WPL.cL (c_spec_l2Sign _ ?g1 ?g2); (case q => (repeat' (first | refine And.intro ?_ ?_ | intro _ | exact cleanOut_nil | (refine Eqv.mk ?_; first | rfl | (simp -implicitDefEqProofs [hlt]; done)) | (simp -implicitDefEqProofs [hlt]; done) | (simp -implicitDefEqProofs [hlt]; rfl) | (simp; done) | (simp; rfl) | rfl))); (case g1 => (first | assumption | omega | (simp; done))); (case g2 => (first | assumption | omega | (simp; done))))
        | ((first | refine WPc.rq tok rfl fun K hK => ?_ | refine WPL.rn tok _ (by simp [ahead, isFn]; rfl) fun K hK => ?_); simp -implicitDefEqProofs +contextual [-Int.not_le, -Int.not_lt, -Nat.not_le, -Nat.not_lt, -List.all_eq_true, -List.all_eq_false, -List.any_eq_true, -List.any_eq_false, hlt]; (repeat1' (first | apply hK | apply And.intro | intro _)) <;> clear hK K <;> (try dsimp only [List.drop]))
        | (refine WPc.region ?_; simp only [List.toList_toArray])
        | (refine WPc.condT ?_ ?_; (focus (simp; done)))
        | (refine WPc.cond (by simp [-Bool.not_eq_eq_eq_not]; rfl) (fun hq => ?_) (fun hq => ?_) <;> simp only [hq] <;> (try (exfalso; (simp only [decide_eq_true_eq, decide_eq_false_iff_not] at hq); omega))))
      · have : allB isSym s = false := all_at hv (by simp_all)
        simp [sym, this]
      all_goals
        refine ⟨i + 1, ⟨⟨by omega, all_next hv (by simp_all) hall⟩, by first | omega | (simp only; omega) | assumption⟩, rfl, rfl, ?_, ?_⟩ <;> simp (disch := omega) [wrap64]
    · rw [List.take_of_length_le (by simp; omega)] at hall
      have ha : allB isSym s = true := hall
      repeat' (first
        | apply WPc.sq
        | (refine WPc.ret (endP.val (.inr rfl) rfl rfl (by simp; rfl) ?_))
        | apply WPc.exit
        | refine WPL.nil ?_
        | (apply WPL.cL (c_spec_ReadDec _ ?g1); (case q => (repeat' (first | refine And.intro ?_ ?_ | intro _ | exact cleanOut_nil | (refine Eqv.mk ?_; first | rfl | (simp -implicitDefEqProofs [hlt]; done)) | (simp -implicitDefEqProofs [hlt]; done) | (simp -implicitDefEqProofs [hlt]; rfl) | (simp; done) | (simp; rfl) | rfl))); (case g1 => (first | assumption | omega | (simp; done))))
        | ((first | refine WPc.rq tok rfl fun K hK => ?_ | refine WPL.rn tok _ (by simp [ahead, isFn]; rfl) fun K hK => ?_); simp -implicitDefEqProofs +contextual [-Int.not_le, -Int.not_lt, -Nat.not_le, -Nat.not_lt, -List.all_eq_true, -List.all_eq_false, -List.any_eq_true, -List.any_eq_false, hlt]; (repeat1' (first | apply hK | apply And.intro | intro _)) <;> clear hK K <;> (try dsimp only [List.drop]))
        | (refine WPc.region ?_; simp only [List.toList_toArray])
        | (refine WPc.condF ?_ ?_; (focus (simp; done))))
      all_goals (simp_all [sym])
  · refine Con.of tok (nt := 33) Go.Proofs.Tryz.func54 (by kernel_rfl) rfl rfl rfl (Nat.le_of_ble_eq_true rfl) fun G => ?_
    simp only [entSt, tmOf, List.append_nil, List.cons_append, List.nil_append]
    repeat' (first
      | apply WPc.sq
      | (refine WPc.ret (endP.val (.inr rfl) rfl rfl (by simp; rfl) ?_))
      | refine WPL.nil ?_
      | (apply WPL.cL (c_spec_l1In _ _ _); (case q => (repeat' (first | refine And.intro ?_ ?_ | intro _ | exact cleanOut_nil | (refine Eqv.mk ?_; first | rfl | (simp -implicitDefEqProofs [hr]; done)) | (simp -implicitDefEqProofs [hr]; done) | (simp -implicitDefEqProofs [hr]; rfl) | (simp; done) | (simp; rfl) | rfl))))
      | (refine WPL.call0f ?_ ?_ ?_; (focus (simp; done)); (focus (simp; done)))
      | ((first | refine WPc.rq tok rfl fun K hK => ?_ | refine WPL.rn tok _ (by simp [ahead, isFn]; rfl) fun K hK => ?_); simp -implicitDefEqProofs +contextual [-Int.not_le, -Int.not_lt, -Nat.not_le, -Nat.not_lt, -List.all_eq_true, -List.all_eq_false, -List.any_eq_true, -List.any_eq_false, hr]; (repeat1' (first | apply hK | apply And.intro | intro _)) <;> clear hK K <;> (try dsimp only [List.drop]))
      | (refine WPc.region ?_; simp only [List.toList_toArray])
      | (refine WPc.condT ?_ ?_; (focus (simp; done))))
    all_goals simp_all [sym]
def isName (s : ByteArray) : Bool := decide (s = ⟨#[37, 116]⟩) || sym s && !isW wWord s && decide (arity s < 0)
theorem c_impl_IsName [F : Facts.Of] (s : ByteArray) (h1 : s.size < 4294967000) : Con PP 132 [.sc (.string s)] [] [] (fun r o => r = .sc (.bool (isName s))) := by
  refine Con.of tok (nt := 17) Go.Proofs.Tryz.func132 (by kernel_rfl) rfl rfl rfl (Nat.le_of_ble_eq_true rfl) fun G => ?_
  simp only [entSt, tmOf, List.append_nil, List.cons_append, List.nil_append]
  repeat' (first
    | apply WPc.sq
    | (refine WPc.ret (endP.val (.inr rfl) rfl rfl (by simp; rfl) ?_))
    | apply WPc.skip
    | refine WPL.nil ?_
    | (apply WPL.cL (c_impl_symOk _ ?g1); (case q => (repeat' (first | refine And.intro ?_ ?_ | intro _ | exact cleanOut_nil | (refine Eqv.mk ?_; first | rfl | (simp -implicitDefEqProofs; done)) | (simp -implicitDefEqProofs; done) | (simp -implicitDefEqProofs; rfl) | rfl))); (case g1 => (first | assumption | omega | decide | (simp; done) | (simp_all; done) | (intros; omega))))
    | (apply WPL.cL (c_impl_isOneOf _ _ ?g1 ?g2); (case q => (repeat' (first | refine And.intro ?_ ?_ | intro _ | exact cleanOut_nil | (refine Eqv.mk ?_; first | rfl | (simp -implicitDefEqProofs; done)) | (simp -implicitDefEqProofs; done) | (simp -implicitDefEqProofs; rfl) | rfl))); (case g1 => (first | assumption | omega | decide | (simp; done) | (simp_all; done) | (intros; omega))); (case g2 => (first | assumption | omega | decide | (simp; done) | (simp_all; done) | (intros; omega))))
    | (apply WPL.cL (c_impl_Arity _ ?g1); (case q => (repeat' (first | refine And.intro ?_ ?_ | intro _ | exact cleanOut_nil | (refine Eqv.mk ?_; first | rfl | (simp -implicitDefEqProofs; done)) | (simp -implicitDefEqProofs; done) | (simp -implicitDefEqProofs; rfl) | rfl))); (case g1 => (first | assumption | omega | decide | (simp; done) | (simp_all; done) | (intros; omega))))
    | (refine WPL.call0f ?_ ?_ ?_; (focus (simp; done)); (focus (simp; done)))
    | ((first | refine WPc.rq tok rfl fun K hK => ?_ | refine WPL.rn tok _ (by simp [ahead, isFn]; rfl) fun K hK => ?_); simp -implicitDefEqProofs +contextual [-Int.not_le, -Int.not_lt, -Nat.not_le, -Nat.not_lt, -List.all_eq_true, -List.all_eq_false, -List.any_eq_true, -List.any_eq_false]; (repeat1' (first | apply hK | apply And.intro | intro _)) <;> clear hK K <;> (try dsimp only [List.drop]))
    | (refine WPc.region ?_; simp only [List.toList_toArray])
    | (refine WPc.cond (by simp [-Bool.not_eq_eq_eq_not]; rfl) (fun hq => ?_) (fun hq => ?_) <;> simp only [hq] <;> (try (exfalso; (simp only [decide_eq_true_eq, decide_eq_false_iff_not] at hq); omega))))
  all_goals (simp_all [isName]; try (intros; omega))
theorem c_spec_IsName (s : ByteArray) (h1 : s.size < 4294967000) : Con PP 97 [.sc (.string s)] [] [] (fun r o => r = .sc (.bool (isName s))) := by
  refine Con.of tok (nt := 19) Go.Proofs.Tryz.func97 (by kernel_rfl) rfl rfl rfl (Nat.le_of_ble_eq_true rfl) fun G => ?_
  simp only [entSt, tmOf, List.append_nil, List.cons_append, List.nil_append]
  repeat' (first
    | apply WPc.sq
    | (refine WPc.ret (endP.val (.inr rfl) rfl rfl (by simp; rfl) ?_))
    | refine WPL.nil ?_
    | (apply WPL.cL (c_spec_l2Sym _ ?g1); (case q => (repeat' (first | refine And.intro ?_ ?_ | intro _ | exact cleanOut_nil | (refine Eqv.mk ?_; first | rfl | (simp -implicitDefEqProofs; done)) | (simp -implicitDefEqProofs; done) | (simp -implicitDefEqProofs; rfl) | rfl))); (case g1 => (first | assumption | omega | decide | (simp; done) | (simp_all; done) | (intros; omega))))
    | (apply WPL.cL (c_spec_l3Word _); (case q => (repeat' (first | refine And.intro ?_ ?_ | intro _ | exact cleanOut_nil | (refine Eqv.mk ?_; first | rfl | (simp -implicitDefEqProofs; done)) | (simp -implicitDefEqProofs; done) | (simp -implicitDefEqProofs; rfl) | rfl))))
    | (apply WPL.cL (c_spec_Arity _); (case q => (repeat' (first | refine And.intro ?_ ?_ | intro _ | exact cleanOut_nil | (refine Eqv.mk ?_; first | rfl | (simp -implicitDefEqProofs; done)) | (simp -implicitDefEqProofs; done) | (simp -implicitDefEqProofs; rfl) | rfl))))
    | (refine WPL.call0f ?_ ?_ ?_; (focus (simp; done)); (focus (simp; done)))
    | ((first | refine WPc.rq tok rfl fun K hK => ?_ | refine WPL.rn tok _ (by simp [ahead, isFn]; rfl) fun K hK => ?_); simp -implicitDefEqProofs +contextual [-Int.not_le, -Int.not_lt, -Nat.not_le, -Nat.not_lt, -List.all_eq_true, -List.all_eq_false, -List.any_eq_true, -List.any_eq_false]; (repeat1' (first | apply hK | apply And.intro | intro _)) <;> clear hK K <;> (try dsimp only [List.drop]))
    | (refine WPc.region ?_; simp only [List.toList_toArray]))
  all_goals (simp_all [isName]; try (intros; omega))
end Go.Own
set_option maxRecDepth 1000000
set_option maxHeartbeats 4000000
namespace Go.Own
attribute [local irreducible] WPc WPL WPS HAny endP
variable [Laid]
open Go.Lib Go.RowKit
structure Cl where
  k : Int
  s : ByteArray
  a : Int
  b : Int
  names : List ByteArray
  vals : List V
  deriving DecidableEq
def Cl.cs (c : Cl) : List C := [.sc (.int .i64 c.k), .sc (.string c.s), .sc (.int .i64 c.a), .sc (.int .i64 c.b), .fz (c.names.map sC), .fz (c.vals.map V.cs)]
def Cl.av (c : Cl) : AV := .agg [.sc (.int .i64 c.k), .sc (.string c.s), .sc (.int .i64 c.a), .sc (.int .i64 c.b), .fz (c.names.map sC), .fz (c.vals.map V.cs)]
@[simp] theorem V.len (c : V) : c.cs.length = 3 := rfl
@[simp] theorem V.frz (c : V) : c.cs.map Own.frz = c.cs := rfl
@[simp] theorem V.pln (c : V) : c.cs.all plainC = true := rfl
@[simp] theorem V.lenA (l : List V) : lenAll 3 (l.map V.cs) = true := lenAll_map V.len l
@[simp] theorem V.frzA (l : List V) : frzAll (l.map V.cs) = l.map V.cs := frzAll_map V.frz l
@[simp] theorem V.plnA (l : List V) : plainAll (l.map V.cs) = true := plainAll_map V.pln l
@[simp] theorem sC.len (c : ByteArray) : (sC c).length = 1 := rfl
@[simp] theorem sC.frz (c : ByteArray) : (sC c).map Own.frz = sC c := rfl
@[simp] theorem sC.pln (c : ByteArray) : (sC c).all plainC = true := rfl
@[simp] theorem sC.lenA (l : List ByteArray) : lenAll 1 (l.map sC) = true := lenAll_map sC.len l
@[simp] theorem sC.frzA (l : List ByteArray) : frzAll (l.map sC) = l.map sC := frzAll_map sC.frz l
@[simp] theorem sC.plnA (l : List ByteArray) : plainAll (l.map sC) = true := plainAll_map sC.pln l
@[simp] theorem Cl.len (c : Cl) : c.cs.length = 6 := rfl
@[simp] theorem Cl.frz (c : Cl) : c.cs.map Own.frz = c.cs := rfl
@[simp] theorem Cl.pln (c : Cl) : c.cs.all plainC = true := rfl
@[simp] theorem Cl.lenA (l : List Cl) : lenAll 6 (l.map Cl.cs) = true := lenAll_map Cl.len l
@[simp] theorem Cl.frzA (l : List Cl) : frzAll (l.map Cl.cs) = l.map Cl.cs := frzAll_map Cl.frz l
@[simp] theorem Cl.plnA (l : List Cl) : plainAll (l.map Cl.cs) = true := plainAll_map Cl.pln l
def V.sm (v : V) : Prop := v.s.size < 4294967000
structure Cl.sm (c : Cl) : Prop where
  s : c.s.size < 4294967000
  names : ∀ x, x ∈ c.names → x.size < 4294967000
  vals : ∀ v, v ∈ c.vals → v.sm
def cellAt (h : List Cl) (n kind : Int) : Bool := decide (0 ≤ n) && (match h[n.toNat]? with
  | some c => decide (c.k = kind)
  | none => false)
def valueOk (h : List Cl) (v : V) : Bool :=
  if v.k = 4 then decide (v.n = 0) && sym v.s
  else decide (v.s = zs) && (if v.k = 1 then inRange v.n (-1000000) 1000000 else if v.k = 2 then inRange v.n 0 1 else if v.k = 3 then decide (v.n = 0)
    else decide (cellKind v.k ≠ 0) && cellAt h v.n (cellKind v.k))
theorem c_spec_l6Points (v : V) : Con PP 96 [v.av] [] [] (fun r o => r = .sc (.bool (inRange v.k 5 7))) := by
  refine Con.of tok (nt := 6) Go.Proofs.Tryz.func96 (by kernel_rfl) rfl rfl rfl (Nat.le_of_ble_eq_true rfl) fun G => ?_
  simp only [entSt, tmOf, List.append_nil, List.cons_append, List.nil_append, V.av]
  repeat' (first
    | apply WPc.sq
    | (refine WPc.ret (endP.val (.inr rfl) rfl rfl (by simp; rfl) ?_))
    | refine WPL.nil ?_
    | (apply WPL.cL (c_spec_l1In _ _ _); (case q => (repeat' (first | refine And.intro ?_ ?_ | intro _ | exact cleanOut_nil | (refine Eqv.mk ?_; first | rfl | (simp -implicitDefEqProofs; done)) | (simp -implicitDefEqProofs; done) | (simp -implicitDefEqProofs; rfl) | rfl))))
    | ((first | refine WPc.rq tok rfl fun K hK => ?_ | refine WPL.rn tok _ (by simp [ahead, isFn]; rfl) fun K hK => ?_); simp -implicitDefEqProofs +contextual [-Int.not_le, -Int.not_lt, -Nat.not_le, -Nat.not_lt, -List.all_eq_true, -List.all_eq_false, -List.any_eq_true, -List.any_eq_false]; (repeat1' (first | apply hK | apply And.intro | intro _)) <;> clear hK K <;> (try dsimp only [List.drop]))
    | (refine WPc.region ?_; simp only [List.toList_toArray]))
  all_goals rfl
theorem c_spec_l6Cell (h : List Cl) (n kind : Int) : Con PP 55 [.fz (h.map Cl.cs), .sc (.int .i64 n), .sc (.int .i64 kind)] [] [] (fun r o => r = .sc (.bool (cellAt h n kind))) := by
  by_cases h0 : 0 ≤ n
  · by_cases hlt : n.toNat < h.length
    · have g1 : n < (h.length : Int) := by omega
      refine Con.of tok (nt := 24) Go.Proofs.Tryz.func55 (by kernel_rfl) rfl rfl rfl (Nat.le_of_ble_eq_true rfl) fun G => ?_
      simp only [entSt, tmOf, List.append_nil, List.cons_append, List.nil_append]
      repeat' (first
        | apply WPc.sq
        | (refine WPc.ret (endP.val (.inr rfl) rfl rfl (by simp; rfl) ?_))
        | (refine WPc.rq tok rfl fun K hK => ?_; simp -implicitDefEqProofs +contextual [-Int.not_le, -Int.not_lt, -Nat.not_le, -Nat.not_lt, -List.all_eq_true, -List.all_eq_false, -List.any_eq_true, -List.any_eq_false, h0, g1, Cl.cs, hlt]; (repeat1' (first | apply hK | apply And.intro | intro _)) <;> clear hK K <;> (try dsimp only [List.drop])))
      all_goals simp_all [cellAt]
    · have g1 : ¬ n < (h.length : Int) := by omega
      have g2 : h[n.toNat]? = none := by simp; omega
      refine Con.of tok (nt := 24) Go.Proofs.Tryz.func55 (by kernel_rfl) rfl rfl rfl (Nat.le_of_ble_eq_true rfl) fun G => ?_
      simp only [entSt, tmOf, List.append_nil, List.cons_append, List.nil_append]
      repeat' (first
        | apply WPc.sq
        | (refine WPc.ret (endP.val (.inr rfl) rfl rfl (by simp; rfl) ?_))
        | (refine WPc.rq tok rfl fun K hK => ?_; simp -implicitDefEqProofs +contextual [-Int.not_le, -Int.not_lt, -Nat.not_le, -Nat.not_lt, -List.all_eq_true, -List.all_eq_false, -List.any_eq_true, -List.any_eq_false, h0, g1]; (repeat1' (first | apply hK | apply And.intro | intro _)) <;> clear hK K <;> (try dsimp only [List.drop])))
      all_goals simp_all [cellAt]
  · have g : cellAt h n kind = false := by simp [cellAt, h0]
    rw [g]
    refine Con.of tok (nt := 24) Go.Proofs.Tryz.func55 (by kernel_rfl) rfl rfl rfl (Nat.le_of_ble_eq_true rfl) fun G => ?_
    simp only [entSt, tmOf, List.append_nil, List.cons_append, List.nil_append]
    repeat' (first
      | apply WPc.sq
      | (refine WPc.ret (endP.val (.inr rfl) rfl rfl (by simp; rfl) ?_))
      | (refine WPc.rq tok rfl fun K hK => ?_; simp -implicitDefEqProofs +contextual [-Int.not_le, -Int.not_lt, -Nat.not_le, -Nat.not_lt, -List.all_eq_true, -List.all_eq_false, -List.any_eq_true, -List.any_eq_false, h0]; (repeat1' (first | apply hK | apply And.intro | intro _)) <;> clear hK K <;> (try dsimp only [List.drop])))
    all_goals rfl
theorem c_spec_ValueOk (h : List Cl) (v : V) (hs : v.sm) : Con PP 12 [.fz (h.map Cl.cs), v.av] [] [] (fun r o => r = .sc (.bool (valueOk h v))) := by
  unfold V.sm at hs
  refine Con.of tok (nt := 58) Go.Proofs.Tryz.func12 (by kernel_rfl) rfl rfl rfl (Nat.le_of_ble_eq_true rfl) fun G => ?_
  simp only [entSt, tmOf, List.append_nil, List.cons_append, List.nil_append, V.av]
  repeat' (first
    | apply WPc.sq
    | apply WPc.block
    | (refine WPc.ret (endP.val (.inr rfl) rfl rfl (by simp; rfl) ?_))
    | apply WPc.skip
    | refine WPL.nil ?_
    | (apply WPL.cL (c_spec_l1In _ _ _); (case q => (repeat' (first | refine And.intro ?_ ?_ | intro _ | exact cleanOut_nil | (refine Eqv.mk ?_; first | rfl | (simp -implicitDefEqProofs; done)) | (simp -implicitDefEqProofs; done) | (simp -implicitDefEqProofs; rfl) | rfl))))
    | (apply WPL.cL (c_spec_l2Sym _ ?g1); (case q => (repeat' (first | refine And.intro ?_ ?_ | intro _ | exact cleanOut_nil | (refine Eqv.mk ?_; first | rfl | (simp -implicitDefEqProofs; done)) | (simp -implicitDefEqProofs; done) | (simp -implicitDefEqProofs; rfl) | rfl))); (case g1 => (first | assumption | omega)))
    | (apply WPL.cL (c_spec_l6Cell _ _ _); (case q => (repeat' (first | refine And.intro ?_ ?_ | intro _ | exact cleanOut_nil | (refine Eqv.mk ?_; first | rfl | (simp -implicitDefEqProofs; done)) | (simp -implicitDefEqProofs; done) | (simp -implicitDefEqProofs; rfl) | rfl))))
    | (refine WPL.call0f ?_ ?_ ?_; (focus (simp; done)); (focus (simp; done)))
    | ((first | refine WPc.rq tok rfl fun K hK => ?_ | refine WPL.rn tok _ (by simp [ahead, isFn]; rfl) fun K hK => ?_); simp -implicitDefEqProofs +contextual [-Int.not_le, -Int.not_lt, -Nat.not_le, -Nat.not_lt, -List.all_eq_true, -List.all_eq_false, -List.any_eq_true, -List.any_eq_false]; (repeat1' (first | apply hK | apply And.intro | intro _)) <;> clear hK K <;> (try dsimp only [List.drop]))
    | (refine WPc.region ?_; simp only [List.toList_toArray])
    | (refine WPc.condT ?_ ?_; (focus (simp; done)))
    | (refine WPc.condF ?_ ?_; (focus (simp; done)))
    | (refine WPc.cond (by simp [-Bool.not_eq_eq_eq_not]; rfl) (fun hq => ?_) (fun hq => ?_) <;> simp only [hq] <;> (try (exfalso; (simp only [decide_eq_true_eq, decide_eq_false_iff_not] at hq); omega))))
  all_goals simp_all [valueOk, cellKind]
theorem c_impl_ValueOk [F : Facts.Of] (h : List Cl) (v : V) (hs : v.sm) : Con PP 85 [.fz (h.map Cl.cs), v.av] [] [] (fun r o => r = .sc (.bool (valueOk h v))) := by
  unfold V.sm at hs
  refine Con.lenOf 0 Go.Proofs.Tryz.func85 (by kernel_rfl) (by kernel_rfl) rfl fun hlen => ?_
  simp at hlen
  have hw : IntKind.i64.wrap ((h.length : Int) - 1) = h.length - 1 := wrap64 (by omega) (by omega)
  by_cases hin : inRange v.n 0 (h.length - 1) = true
  · have h0 : 0 ≤ v.n ∧ v.n.toNat < h.length := by simp [inRange] at hin; omega
    obtain ⟨h0, h1⟩ := h0
    refine Con.of tok (nt := 74) Go.Proofs.Tryz.func85 (by kernel_rfl) rfl rfl rfl (Nat.le_of_ble_eq_true rfl) fun G => ?_
    simp only [entSt, tmOf, List.append_nil, List.cons_append, List.nil_append, V.av]
    repeat' (first
      | apply WPc.sq
      | apply WPc.block
      | (refine WPc.ret (endP.val (.inr rfl) rfl rfl (by simp; rfl) ?_))
      | apply WPc.skip
      | refine WPL.nil ?_
      | (apply WPL.cL (c_impl_inRange _ _ _); (case q => (repeat' (first | refine And.intro ?_ ?_ | intro _ | exact cleanOut_nil | (refine Eqv.mk ?_; first | rfl | (simp -implicitDefEqProofs [hw, hin, h0, h1, Cl.cs]; done)) | (simp -implicitDefEqProofs [hw, hin, h0, h1, Cl.cs]; done) | (simp -implicitDefEqProofs [hw, hin, h0, h1, Cl.cs]; rfl) | (simp; done) | (simp; rfl) | rfl))))
      | (apply WPL.cL (c_impl_symOk _ ?g1); (case q => (repeat' (first | refine And.intro ?_ ?_ | intro _ | exact cleanOut_nil | (refine Eqv.mk ?_; first | rfl | (simp -implicitDefEqProofs [hw, hin, h0, h1, Cl.cs]; done)) | (simp -implicitDefEqProofs [hw, hin, h0, h1, Cl.cs]; done) | (simp -implicitDefEqProofs [hw, hin, h0, h1, Cl.cs]; rfl) | (simp; done) | (simp; rfl) | rfl))); (case g1 => (first | assumption | omega)))
      | (apply WPS.cL (hc := (c_impl_inRange _ _ _)); (case ho => exact rfl); (case q => (repeat' (first | refine And.intro ?_ ?_ | intro _ | exact cleanOut_nil | (refine Eqv.mk ?_; first | rfl | (simp -implicitDefEqProofs [hw, hin, h0, h1, Cl.cs]; done)) | (simp -implicitDefEqProofs [hw, hin, h0, h1, Cl.cs]; done) | (simp -implicitDefEqProofs [hw, hin, h0, h1, Cl.cs]; rfl) | (simp; done) | (simp; rfl) | rfl))))
      | (apply WPS.cL (hc := (c_impl_cellKind _)); (case ho => exact rfl); (case q => (repeat' (first | refine And.intro ?_ ?_ | intro _ | exact cleanOut_nil | (refine Eqv.mk ?_; first | rfl | (simp -implicitDefEqProofs [hw, hin, h0, h1, Cl.cs]; done)) | (simp -implicitDefEqProofs [hw, hin, h0, h1, Cl.cs]; done) | (simp -implicitDefEqProofs [hw, hin, h0, h1, Cl.cs]; rfl) | (simp; done) | (simp; rfl) | rfl))))
      | (apply WPS.callf (ho := rfl); (case hg => (simp; done)); (case hd => (simp; done)))
      | (refine WPL.call0f ?_ ?_ ?_; (focus (simp; done)); (focus (simp; done)))
      | ((first | refine WPc.rq tok rfl fun K hK => ?_ | refine WPL.rn tok _ (by simp [ahead, isFn]; rfl) fun K hK => ?_ | refine WPS.rn tok _ (by simp [aheadS]; rfl) fun K hK => ?_); simp -implicitDefEqProofs +contextual [-Int.not_le, -Int.not_lt, -Nat.not_le, -Nat.not_lt, -List.all_eq_true, -List.all_eq_false, -List.any_eq_true, -List.any_eq_false, hw, hin, h0, h1, Cl.cs]; (repeat1' (first | apply hK | apply And.intro | intro _)) <;> clear hK K <;> (try dsimp only [List.drop]))
      | (refine WPc.sched (id := 13) tok [] [(0, []), (1, []), (2, []), (3, []), (4, []), (5, []), (6, []), (7, []), (8, []), (9, []), (10, []), (11, []), (12, []), (13, []), (14, []), (15, []), (16, []), (17, []), (18, []), (19, []), (20, []), (21, []), (22, []), (23, [])] (by kernel_rfl) ?_)
      | (refine WPS.nil ?_)
      | (refine WPc.region ?_; simp only [List.toList_toArray])
      | (refine WPc.condT ?_ ?_; (focus (simp; done)))
      | (refine WPc.cond (by simp [-Bool.not_eq_eq_eq_not]; rfl) (fun hq => ?_) (fun hq => ?_) <;> simp only [hq] <;> (try (exfalso; (simp only [decide_eq_true_eq, decide_eq_false_iff_not] at hq); omega))))
    all_goals simp_all [valueOk, cellKind, cellAt]
  · have h0 : cellAt h v.n (cellKind v.k) = false := by
      unfold cellAt
      by_cases g : 0 ≤ v.n
      · have : h[v.n.toNat]? = none := by simp [inRange] at hin; simp; omega
        rw [this]; simp
      · simp [g]
    refine Con.of tok (nt := 74) Go.Proofs.Tryz.func85 (by kernel_rfl) rfl rfl rfl (Nat.le_of_ble_eq_true rfl) fun G => ?_
    simp only [entSt, tmOf, List.append_nil, List.cons_append, List.nil_append, V.av]
    repeat' (first
      | apply WPc.sq
      | apply WPc.block
      | (refine WPc.ret (endP.val (.inr rfl) rfl rfl (by simp; rfl) ?_))
      | apply WPc.skip
      | refine WPL.nil ?_
      | (apply WPL.cL (c_impl_inRange _ _ _); (case q => (repeat' (first | refine And.intro ?_ ?_ | intro _ | exact cleanOut_nil | (refine Eqv.mk ?_; first | rfl | (simp -implicitDefEqProofs [hw, hin]; done)) | (simp -implicitDefEqProofs [hw, hin]; done) | (simp -implicitDefEqProofs [hw, hin]; rfl) | (simp; done) | (simp; rfl) | rfl))))
      | (apply WPL.cL (c_impl_symOk _ ?g1); (case q => (repeat' (first | refine And.intro ?_ ?_ | intro _ | exact cleanOut_nil | (refine Eqv.mk ?_; first | rfl | (simp -implicitDefEqProofs [hw, hin]; done)) | (simp -implicitDefEqProofs [hw, hin]; done) | (simp -implicitDefEqProofs [hw, hin]; rfl) | (simp; done) | (simp; rfl) | rfl))); (case g1 => (first | assumption | omega)))
      | (apply WPS.cL (hc := (c_impl_inRange _ _ _)); (case ho => exact rfl); (case q => (repeat' (first | refine And.intro ?_ ?_ | intro _ | exact cleanOut_nil | (refine Eqv.mk ?_; first | rfl | (simp -implicitDefEqProofs [hw, hin]; done)) | (simp -implicitDefEqProofs [hw, hin]; done) | (simp -implicitDefEqProofs [hw, hin]; rfl) | (simp; done) | (simp; rfl) | rfl))))
      | (apply WPS.callf (ho := rfl); (case hg => (simp; done)); (case hd => (simp; done)))
      | (refine WPL.call0f ?_ ?_ ?_; (focus (simp; done)); (focus (simp; done)))
      | ((first | refine WPc.rq tok rfl fun K hK => ?_ | refine WPL.rn tok _ (by simp [ahead, isFn]; rfl) fun K hK => ?_ | refine WPS.rn tok _ (by simp [aheadS]; rfl) fun K hK => ?_); simp -implicitDefEqProofs +contextual [-Int.not_le, -Int.not_lt, -Nat.not_le, -Nat.not_lt, -List.all_eq_true, -List.all_eq_false, -List.any_eq_true, -List.any_eq_false, hw, hin]; (repeat1' (first | apply hK | apply And.intro | intro _)) <;> clear hK K <;> (try dsimp only [List.drop]))
      | (refine WPc.sched (id := 13) tok [] [(0, []), (1, []), (2, []), (3, []), (4, []), (5, []), (6, []), (7, []), (8, []), (9, []), (10, []), (11, []), (12, []), (13, []), (14, []), (15, []), (16, []), (17, []), (18, []), (19, []), (20, []), (21, []), (22, []), (23, [])] (by kernel_rfl) ?_)
      | (refine WPS.nil ?_)
      | (refine WPc.region ?_; simp only [List.toList_toArray])
      | (refine WPc.condT ?_ ?_; (focus (simp; done)))
      | (refine WPc.cond (by simp [-Bool.not_eq_eq_eq_not]; rfl) (fun hq => ?_) (fun hq => ?_) <;> simp only [hq] <;> (try (exfalso; (simp only [decide_eq_true_eq, decide_eq_false_iff_not] at hq); omega))))
    all_goals simp_all [valueOk, cellKind]
end Go.Own
set_option maxRecDepth 1000000
set_option maxHeartbeats 4000000
namespace Go.Own
attribute [local irreducible] WPc WPL WPS HAny endP
variable [Laid]
open Go.Lib Go.RowKit
theorem c_impl_valuesOk [F : Facts.Of] (h : List Cl) (vs : List V) (hs : ∀ v, v ∈ vs → v.sm) : Con PP 47 [.fz (h.map Cl.cs), .fz (vs.map V.cs)] [] [] (fun r o => r = .sc (.bool (vs.all (valueOk h)))) := by
  refine Con.lenOf 1 Go.Proofs.Tryz.func47 (by kernel_rfl) (by kernel_rfl) rfl fun hlen => ?_
  simp at hlen
  refine Con.of tok (nt := 18) Go.Proofs.Tryz.func47 (by kernel_rfl) rfl rfl rfl (Nat.le_of_ble_eq_true rfl) fun G => ?_
  simp only [entSt, tmOf, List.append_nil, List.cons_append, List.nil_append]
  repeat' (first
    | apply WPc.sq
    | apply WPc.block
    | (refine WPc.rq tok rfl fun K hK => ?_; simp -implicitDefEqProofs +contextual [-Int.not_le, -Int.not_lt, -Nat.not_le, -Nat.not_lt, -List.all_eq_true, -List.all_eq_false, -List.any_eq_true, -List.any_eq_false]; (repeat1' (first | apply hK | apply And.intro | intro _)) <;> clear hK K <;> (try dsimp only [List.drop])))
  refine WPc.loopK (σ := Nat) (fun i => i ≤ vs.length ∧ (vs.take i).all (valueOk h) = true) (fun i => vs.length - i) (fun i => [(9, .sc (.int .i64 i))])  [0, 7, 8] 0 (by simp) (by simp) (by simp) ?_
  rintro i ⟨hi, hall⟩ s hs
  simp at hs
  subst hs
  by_cases hlt : i < vs.length
  · have hv := List.getElem?_eq_getElem hlt
    have hs1 := hs _ (List.getElem_mem hlt)
    repeat' (first
      | apply WPc.sq
      | apply WPc.block
      | (refine WPc.ret (endP.val (.inr rfl) rfl rfl (by simp; rfl) ?_))
      | apply WPc.skip
      | refine WPL.nil ?_
      | (apply WPL.cL (c_impl_ValueOk _ ⟨_, _, _⟩ ?g1); (case q => (repeat' (first | refine And.intro ?_ ?_ | intro _ | exact cleanOut_nil | (refine Eqv.mk ?_; first | rfl | (simp -implicitDefEqProofs [V.cs, hlt]; done)) | (simp -implicitDefEqProofs [V.cs, hlt]; done) | (simp -implicitDefEqProofs [V.cs, hlt]; rfl) | (simp; done) | (simp; rfl) | rfl))); (case g1 => (first | assumption | (exact hs1))))
      | ((first | refine WPc.rq tok rfl fun K hK => ?_ | refine WPL.rn tok _ (by simp [ahead, isFn]; rfl) fun K hK => ?_); simp -implicitDefEqProofs +contextual [-Int.not_le, -Int.not_lt, -Nat.not_le, -Nat.not_lt, -List.all_eq_true, -List.all_eq_false, -List.any_eq_true, -List.any_eq_false, V.cs, hlt]; (repeat1' (first | apply hK | apply And.intro | intro _)) <;> clear hK K <;> (try dsimp only [List.drop]))
      | (refine WPc.region ?_; simp only [List.toList_toArray])
      | (refine WPc.condT ?_ ?_; (focus (simp; done)))
      | (refine WPc.cond (by simp [-Bool.not_eq_eq_eq_not]; rfl) (fun hq => ?_) (fun hq => ?_) <;> simp only [hq] <;> (try (exfalso; (simp only [decide_eq_true_eq, decide_eq_false_iff_not] at hq); omega))))
    · rw [all_at hv (by simp_all)]
    all_goals
      refine ⟨i + 1, ⟨⟨by omega, all_next hv (by simp_all) hall⟩, by first | omega | (simp only; omega) | assumption⟩, rfl, rfl, ?_, ?_⟩ <;> simp (disch := omega) [wrap64]
  · repeat' (first
      | apply WPc.sq
      | (refine WPc.ret (endP.val (.inr rfl) rfl rfl (by simp; rfl) ?_))
      | apply WPc.exit
      | (refine WPc.rq tok rfl fun K hK => ?_; simp -implicitDefEqProofs +contextual [-Int.not_le, -Int.not_lt, -Nat.not_le, -Nat.not_lt, -List.all_eq_true, -List.all_eq_false, -List.any_eq_true, -List.any_eq_false, hlt]; (repeat1' (first | apply hK | apply And.intro | intro _)) <;> clear hK K <;> (try dsimp only [List.drop]))
      | (refine WPc.condF ?_ ?_; (focus (simp; done))))
    rw [← hall, List.take_of_length_le (by omega)]
theorem c_impl_allNames [F : Facts.Of] (vs : List ByteArray) (hs : ∀ v, v ∈ vs → v.size < 4294967000) : Con PP 120 [.fz (vs.map sC)] [] [] (fun r o => r = .sc (.bool (vs.all isName))) := by
  refine Con.lenOf 0 Go.Proofs.Tryz.func120 (by kernel_rfl) (by kernel_rfl) rfl fun hlen => ?_
  simp at hlen
  refine Con.of tok (nt := 15) Go.Proofs.Tryz.func120 (by kernel_rfl) rfl rfl rfl (Nat.le_of_ble_eq_true rfl) fun G => ?_
  simp only [entSt, tmOf, List.append_nil, List.cons_append, List.nil_append]
  repeat' (first
    | apply WPc.sq
    | apply WPc.block
    | (refine WPc.rq tok rfl fun K hK => ?_; simp -implicitDefEqProofs +contextual [-Int.not_le, -Int.not_lt, -Nat.not_le, -Nat.not_lt, -List.all_eq_true, -List.all_eq_false, -List.any_eq_true, -List.any_eq_false]; (repeat1' (first | apply hK | apply And.intro | intro _)) <;> clear hK K <;> (try dsimp only [List.drop])))
  refine WPc.loopK (σ := Nat) (fun i => i ≤ vs.length ∧ (vs.take i).all isName = true) (fun i => vs.length - i) (fun i => [(7, .sc (.int .i64 i))])  [5, 6] 0 (by simp) (by simp) (by simp) ?_
  rintro i ⟨hi, hall⟩ s hs
  simp at hs
  subst hs
  by_cases hlt : i < vs.length
  · have hv := List.getElem?_eq_getElem hlt
    have hs1 := hs _ (List.getElem_mem hlt)
    repeat' (first
      | apply WPc.sq
      | apply WPc.block
      | (refine WPc.ret (endP.val (.inr rfl) rfl rfl (by simp; rfl) ?_))
      | apply WPc.skip
      | refine WPL.nil ?_
      | (apply WPL.cL (c_impl_IsName _ ?g1); (case q => (repeat' (first | refine And.intro ?_ ?_ | intro _ | exact cleanOut_nil | (refine Eqv.mk ?_; first | rfl | (simp -implicitDefEqProofs [sC, hlt]; done)) | (simp -implicitDefEqProofs [sC, hlt]; done) | (simp -implicitDefEqProofs [sC, hlt]; rfl) | (simp; done) | (simp; rfl) | rfl))); (case g1 => (first | assumption | (exact hs1))))
      | ((first | refine WPc.rq tok rfl fun K hK => ?_ | refine WPL.rn tok _ (by simp [ahead, isFn]; rfl) fun K hK => ?_); simp -implicitDefEqProofs +contextual [-Int.not_le, -Int.not_lt, -Nat.not_le, -Nat.not_lt, -List.all_eq_true, -List.all_eq_false, -List.any_eq_true, -List.any_eq_false, sC, hlt]; (repeat1' (first | apply hK | apply And.intro | intro _)) <;> clear hK K <;> (try dsimp only [List.drop]))
      | (refine WPc.region ?_; simp only [List.toList_toArray])
      | (refine WPc.condT ?_ ?_; (focus (simp; done)))
      | (refine WPc.cond (by simp [-Bool.not_eq_eq_eq_not]; rfl) (fun hq => ?_) (fun hq => ?_) <;> simp only [hq] <;> (try (exfalso; (simp only [decide_eq_true_eq, decide_eq_false_iff_not] at hq); omega))))
    · rw [all_at hv (by simp_all)]
    all_goals
      refine ⟨i + 1, ⟨⟨by omega, all_next hv (by simp_all) hall⟩, by first | omega | (simp only; omega) | assumption⟩, rfl, rfl, ?_, ?_⟩ <;> simp (disch := omega) [wrap64]
  · repeat' (first
      | apply WPc.sq
      | (refine WPc.ret (endP.val (.inr rfl) rfl rfl (by simp; rfl) ?_))
      | apply WPc.exit
      | (refine WPc.rq tok rfl fun K hK => ?_; simp -implicitDefEqProofs +contextual [-Int.not_le, -Int.not_lt, -Nat.not_le, -Nat.not_lt, -List.all_eq_true, -List.all_eq_false, -List.any_eq_true, -List.any_eq_false, hlt]; (repeat1' (first | apply hK | apply And.intro | intro _)) <;> clear hK K <;> (try dsimp only [List.drop]))
      | (refine WPc.condF ?_ ?_; (focus (simp; done))))
    rw [← hall, List.take_of_length_le (by omega)]
def cellOk (c : Cl) : Bool :=
  if c.k = 1 then decide (c.s = zs) && decide (c.a = 0) && decide (c.b = 0) && decide (c.names = []) && decide (c.vals.length = 2)
  else if c.k = 2 then decide (c.s = zs) && decide (0 ≤ c.a) && decide (0 ≤ c.b) && c.names.all isName && decide (c.vals.length = c.names.length)
  else if c.k = 3 then decide (c.s ≠ zs) && inRange c.a 0 1000 && decide (c.b = 0) && decide (c.names = []) && decide (c.vals.length ≤ 8)
  else false
theorem c_impl_cellOk [F : Facts.Of] (c : Cl) (hs : c.sm) : Con PP 83 [c.av] [] [] (fun r o => r = .sc (.bool (cellOk c))) := by
  have h1 := hs.names
  cases hn : c.names.all isName
  all_goals
    refine Con.of tok (nt := 88) Go.Proofs.Tryz.func83 (by kernel_rfl) rfl rfl rfl (Nat.le_of_ble_eq_true rfl) fun G => ?_
    simp only [entSt, tmOf, List.append_nil, List.cons_append, List.nil_append, Cl.av]
  · repeat' (first
      | apply WPc.sq
      | apply WPc.block
      | (refine WPc.ret (endP.val (.inr rfl) rfl rfl (by simp; rfl) ?_))
      | apply WPc.skip
      | refine WPL.nil ?_
      | (apply WPL.cL (c_impl_allNames _ ?g1); (case q => (repeat' (first | refine And.intro ?_ ?_ | intro _ | exact cleanOut_nil | (refine Eqv.mk ?_; first | rfl | (simp -implicitDefEqProofs [hn]; done)) | (simp -implicitDefEqProofs [hn]; done) | (simp -implicitDefEqProofs [hn]; rfl) | (simp; done) | (simp; rfl) | rfl))); (case g1 => (first | assumption | (exact h1))))
      | (apply WPL.cL (c_impl_inRange _ _ _); (case q => (repeat' (first | refine And.intro ?_ ?_ | intro _ | exact cleanOut_nil | (refine Eqv.mk ?_; first | rfl | (simp -implicitDefEqProofs [hn]; done)) | (simp -implicitDefEqProofs [hn]; done) | (simp -implicitDefEqProofs [hn]; rfl) | (simp; done) | (simp; rfl) | rfl))))
      | (refine WPL.call0f ?_ ?_ ?_; (focus (simp; done)); (focus (simp; done)))
      | ((first | refine WPc.rq tok rfl fun K hK => ?_ | refine WPL.rn tok _ (by simp [ahead, isFn]; rfl) fun K hK => ?_); simp -implicitDefEqProofs +contextual [-Int.not_le, -Int.not_lt, -Nat.not_le, -Nat.not_lt, -List.all_eq_true, -List.all_eq_false, -List.any_eq_true, -List.any_eq_false, hn]; (repeat1' (first | apply hK | apply And.intro | intro _)) <;> clear hK K <;> (try dsimp only [List.drop]))
      | (refine WPc.region ?_; simp only [List.toList_toArray])
      | (refine WPc.cond (by simp [-Bool.not_eq_eq_eq_not]; rfl) (fun hq => ?_) (fun hq => ?_) <;> simp only [hq] <;> (try (exfalso; (simp only [decide_eq_true_eq, decide_eq_false_iff_not] at hq); omega))))
    all_goals (simp_all [cellOk, -List.all_eq_true, -List.all_eq_false]; try (intros; omega))
  · repeat' (first
      | apply WPc.sq
      | apply WPc.block
      | (refine WPc.ret (endP.val (.inr rfl) rfl rfl (by simp; rfl) ?_))
      | apply WPc.skip
      | refine WPL.nil ?_
      | (apply WPL.cL (c_impl_allNames _ ?g1); (case q => (repeat' (first | refine And.intro ?_ ?_ | intro _ | exact cleanOut_nil | (refine Eqv.mk ?_; first | rfl | (simp -implicitDefEqProofs [hn]; done)) | (simp -implicitDefEqProofs [hn]; done) | (simp -implicitDefEqProofs [hn]; rfl) | (simp; done) | (simp; rfl) | rfl))); (case g1 => (first | assumption | (exact h1))))
      | (apply WPL.cL (c_impl_inRange _ _ _); (case q => (repeat' (first | refine And.intro ?_ ?_ | intro _ | exact cleanOut_nil | (refine Eqv.mk ?_; first | rfl | (simp -implicitDefEqProofs [hn]; done)) | (simp -implicitDefEqProofs [hn]; done) | (simp -implicitDefEqProofs [hn]; rfl) | (simp; done) | (simp; rfl) | rfl))))
      | (refine WPL.call0f ?_ ?_ ?_; (focus (simp; done)); (focus (simp; done)))
      | ((first | refine WPc.rq tok rfl fun K hK => ?_ | refine WPL.rn tok _ (by simp [ahead, isFn]; rfl) fun K hK => ?_); simp -implicitDefEqProofs +contextual [-Int.not_le, -Int.not_lt, -Nat.not_le, -Nat.not_lt, -List.all_eq_true, -List.all_eq_false, -List.any_eq_true, -List.any_eq_false, hn]; (repeat1' (first | apply hK | apply And.intro | intro _)) <;> clear hK K <;> (try dsimp only [List.drop]))
      | (refine WPc.region ?_; simp only [List.toList_toArray])
      | (refine WPc.cond (by simp [-Bool.not_eq_eq_eq_not]; rfl) (fun hq => ?_) (fun hq => ?_) <;> simp only [hq] <;> (try (exfalso; (simp only [decide_eq_true_eq, decide_eq_false_iff_not] at hq); omega))))
    all_goals (simp_all [cellOk, -List.all_eq_true, -List.all_eq_false]; try (intros; omega))
def okAt (h : List Cl) (i : Nat) (c : Cl) : Bool := cellOk c && c.vals.all (valueOk h) && (decide (c.k = 3) || c.vals.all (isBelow i))
def okI (h : List Cl) (i : Nat) : Bool := match h[i]? with
  | some c => okAt h i c
  | none => true
def heapOk (h : List Cl) : Bool := decide (h.length ≤ 300) && (List.range h.length).all (okI h)
theorem heapOk_no {h : List Cl} {i : Nat} (hi : i < h.length) (ho : okI h i = false) : heapOk h = false := by
  have hv : (List.range h.length)[i]? = some i := List.getElem?_range hi
  rw [heapOk, all_at hv ho, Bool.and_false]
theorem okI_eq {h : List Cl} {i : Nat} (hi : i < h.length) : okI h i = okAt h i h[i] := by simp [okI, hi]
theorem c_impl_HeapOk [F : Facts.Of] (h : List Cl) (hs : ∀ c, c ∈ h → c.sm) : Con PP 46 [.fz (h.map Cl.cs)] [] [] (fun r o => r = .sc (.bool (heapOk h))) := by
  by_cases h300 : h.length ≤ 300
  · refine Con.of tok (nt := 38) Go.Proofs.Tryz.func46 (by kernel_rfl) rfl rfl rfl (Nat.le_of_ble_eq_true rfl) fun G => ?_
    simp only [entSt, tmOf, List.append_nil, List.cons_append, List.nil_append]
    repeat' (first
      | apply WPc.sq
      | apply WPc.block
      | apply WPc.skip
      | (refine WPc.rq tok rfl fun K hK => ?_; simp -implicitDefEqProofs +contextual [-Int.not_le, -Int.not_lt, -Nat.not_le, -Nat.not_lt, -List.all_eq_true, -List.all_eq_false, -List.any_eq_true, -List.any_eq_false, h300]; (repeat1' (first | apply hK | apply And.intro | intro _)) <;> clear hK K <;> (try dsimp only [List.drop]))
      | (refine WPc.cond (by simp [-Bool.not_eq_eq_eq_not]; rfl) (fun hq => ?_) (fun hq => ?_) <;> simp only [hq] <;> (try (exfalso; (simp only [decide_eq_true_eq, decide_eq_false_iff_not] at hq); omega))))
    refine WPc.loopK (σ := Nat) (fun i => i ≤ h.length ∧ ((List.range h.length).take i).all (okI h) = true) (fun i => h.length - i) (fun i => [(10, .sc (.int .i64 i))])  [0, 8, 9] 0 (by simp) (by simp) (by simp) ?_
    rintro i ⟨hi, hall⟩ s hs
    simp at hs
    subst hs
    by_cases hlt : i < h.length
    · have hv : (List.range h.length)[i]? = some i := List.getElem?_range hlt
      have hs1 := hs _ (List.getElem_mem hlt)
      have hs2 := hs1.vals
      have ho := okI_eq hlt
      obtain ⟨p, g3⟩ : ∃ p, (h[i].k = 3) = p := ⟨_, rfl⟩
      have hp : p = True ∨ p = False := Classical.propComplete p
      cases g1 : cellOk h[i] <;> cases g2 : h[i].vals.all (valueOk h) <;> rcases hp with rfl | rfl <;> cases g4 : h[i].vals.all (isBelow i)
      all_goals
        repeat' (first
          | apply WPc.sq
          | apply WPc.block
          | (refine WPc.ret (endP.val (.inr rfl) rfl rfl (by simp; rfl) ?_))
          | apply WPc.skip
          | refine WPL.nil ?_
          | (apply WPL.cL (c_impl_cellOk ⟨_, _, _, _, _, _⟩ ?g1); (case q => (repeat' (first | refine And.intro ?_ ?_ | intro _ | exact cleanOut_nil | (refine Eqv.mk ?_; first | rfl | (simp -implicitDefEqProofs [Cl.cs, hlt, g1, g2, g3, g4]; done)) | (simp -implicitDefEqProofs [Cl.cs, hlt, g1, g2, g3, g4]; done) | (simp -implicitDefEqProofs [Cl.cs, hlt, g1, g2, g3, g4]; rfl) | (simp; done) | (simp; rfl) | rfl))); (case g1 => (first | assumption | (exact hs1) | (exact hs2))))
          | (apply WPL.cL (c_impl_valuesOk _ _ ?g1); (case q => (repeat' (first | refine And.intro ?_ ?_ | intro _ | exact cleanOut_nil | (refine Eqv.mk ?_; first | rfl | (simp -implicitDefEqProofs [Cl.cs, hlt, g1, g2, g3, g4]; done)) | (simp -implicitDefEqProofs [Cl.cs, hlt, g1, g2, g3, g4]; done) | (simp -implicitDefEqProofs [Cl.cs, hlt, g1, g2, g3, g4]; rfl) | (simp; done) | (simp; rfl) | rfl))); (case g1 => (first | assumption | (exact hs1) | (exact hs2))))
          | (apply WPL.cL (c_impl_areBelow _ _); (case q => (repeat' (first | refine And.intro ?_ ?_ | intro _ | exact cleanOut_nil | (refine Eqv.mk ?_; first | rfl | (simp -implicitDefEqProofs [Cl.cs, hlt, g1, g2, g3, g4]; done)) | (simp -implicitDefEqProofs [Cl.cs, hlt, g1, g2, g3, g4]; done) | (simp -implicitDefEqProofs [Cl.cs, hlt, g1, g2, g3, g4]; rfl) | (simp; done) | (simp; rfl) | rfl))))
          | (refine WPL.call0f ?_ ?_ ?_; (focus (simp; done)); (focus (simp; done)))
          | ((first | refine WPc.rq tok rfl fun K hK => ?_ | refine WPL.rn tok _ (by simp [ahead, isFn]; rfl) fun K hK => ?_); simp -implicitDefEqProofs +contextual [-Int.not_le, -Int.not_lt, -Nat.not_le, -Nat.not_lt, -List.all_eq_true, -List.all_eq_false, -List.any_eq_true, -List.any_eq_false, Cl.cs, hlt, g1, g2, g3, g4]; (repeat1' (first | apply hK | apply And.intro | intro _)) <;> clear hK K <;> (try dsimp only [List.drop]))
          | (refine WPc.region ?_; simp only [List.toList_toArray])
          | (refine WPc.condT ?_ ?_; (focus (simp; done)))
          | (refine WPc.condF ?_ ?_; (focus (simp; done))))
      all_goals (simp only [okAt, g1, g2, g3, g4, Bool.and_true, Bool.and_false, Bool.true_and, Bool.false_and, Bool.or_true, Bool.or_false, Bool.true_or, Bool.false_or, decide_true, decide_false] at ho)
      all_goals (first
        | (rw [heapOk_no hlt ho]; done)
        | (refine ⟨i + 1, ⟨⟨hlt, all_next hv ho hall⟩, ?_⟩, rfl, rfl, ?_, ?_⟩ <;> (first | omega | (simp (disch := omega) [wrap64]; done))))
    · repeat' (first
        | apply WPc.sq
        | (refine WPc.ret (endP.val (.inr rfl) rfl rfl (by simp; rfl) ?_))
        | apply WPc.exit
        | (refine WPc.rq tok rfl fun K hK => ?_; simp -implicitDefEqProofs +contextual [-Int.not_le, -Int.not_lt, -Nat.not_le, -Nat.not_lt, -List.all_eq_true, -List.all_eq_false, -List.any_eq_true, -List.any_eq_false, hlt]; (repeat1' (first | apply hK | apply And.intro | intro _)) <;> clear hK K <;> (try dsimp only [List.drop]))
        | (refine WPc.condF ?_ ?_; (focus (simp; done))))
      rw [List.take_of_length_le (by simp; omega)] at hall
      simp [heapOk, hall, h300]
  · have hno : heapOk h = false := by simp [heapOk, h300]
    rw [hno]
    refine Con.of tok (nt := 38) Go.Proofs.Tryz.func46 (by kernel_rfl) rfl rfl rfl (Nat.le_of_ble_eq_true rfl) fun G => ?_
    simp only [entSt, tmOf, List.append_nil, List.cons_append, List.nil_append]
    repeat' (first
      | apply WPc.sq
      | (refine WPc.ret (endP.val (.inr rfl) rfl rfl (by simp; rfl) ?_))
      | (refine WPc.rq tok rfl fun K hK => ?_; simp -implicitDefEqProofs +contextual [-Int.not_le, -Int.not_lt, -Nat.not_le, -Nat.not_lt, -List.all_eq_true, -List.all_eq_false, -List.any_eq_true, -List.any_eq_false, h300]; (repeat1' (first | apply hK | apply And.intro | intro _)) <;> clear hK K <;> (try dsimp only [List.drop]))
      | (refine WPc.cond (by simp [-Bool.not_eq_eq_eq_not]; rfl) (fun hq => ?_) (fun hq => ?_) <;> simp only [hq] <;> (try (exfalso; (simp only [decide_eq_true_eq, decide_eq_false_iff_not] at hq); omega))))
    all_goals rfl
theorem isBelow_eq (i : Nat) (v : V) : isBelow i v = !(inRange v.k 5 7 && decide ((i : Int) ≤ v.n)) := by
  unfold isBelow cellKind inRange
  by_cases h5 : v.k = 5
  · simp [h5]
  · by_cases h6 : v.k = 6
    · simp [h6]
    · by_cases h7 : v.k = 7
      · simp [h7]
      · simp only [h5, h6, h7, if_false]
        have : ¬ (5 ≤ v.k ∧ v.k ≤ 7) := by omega
        by_cases h1 : 5 ≤ v.k <;> by_cases h2 : v.k ≤ 7 <;> simp [h1, h2] <;> omega
def qAt (h : List Cl) (i : Nat) (c : Cl) (v : V) : Bool := valueOk h v && (decide (c.k = 3) || isBelow i v)
theorem all_and {α : Type} (p q : α → Bool) : ∀ l : List α, (l.all fun x => p x && q x) = (l.all p && l.all q)
  | [] => rfl
  | x :: xs => by
    simp only [List.all_cons, all_and p q xs]
    cases p x <;> cases q x <;> cases xs.all p <;> cases xs.all q <;> rfl
theorem all_or {α : Type} (b : Bool) (q : α → Bool) : ∀ l : List α, (l.all fun x => b || q x) = (b || l.all q)
  | [] => by simp
  | x :: xs => by
    simp only [List.all_cons, all_or b q xs]
    cases b <;> simp
theorem okAt_eq (h : List Cl) (i : Nat) (c : Cl) : okAt h i c = (cellOk c && c.vals.all (qAt h i c)) := by
  rw [okAt, show qAt h i c = fun v => valueOk h v && (decide (c.k = 3) || isBelow i v) from rfl, all_and, all_or, Bool.and_assoc]
theorem okAt_no {h : List Cl} {i m : Nat} {c : Cl} {v : V} (hv : c.vals[m]? = some v) (hq : qAt h i c v = false) : okAt h i c = false := by
  rw [okAt_eq, all_at hv hq, Bool.and_false]
theorem c_spec_l6CellOk (h : List Cl) (i : Nat) (c : Cl) (hc : h[i]? = some c) (hs : c.sm) : Con PP 53 [.fz (h.map Cl.cs), .sc (.int .i64 i)] [] [] (fun r o => r = .sc (.bool (okAt h i c))) := by
  obtain ⟨hlt, rfl⟩ := List.getElem?_eq_some_iff.1 hc
  have hs2 := hs.vals
  have hs3 := hs.names
  refine Con.of tok (nt := 144) Go.Proofs.Tryz.func53 (by kernel_rfl) rfl rfl rfl (Nat.le_of_ble_eq_true rfl) fun G => ?_
  simp only [entSt, tmOf, List.append_nil, List.cons_append, List.nil_append]
  refine WPc.lenAt 0 (xs := h.map Cl.cs) (by simp) (r := h[i].cs) (j := 5) (ys := h[i].vals.map V.cs) (List.mem_iff_getElem?.2 ⟨i, by simp [hlt]⟩) rfl fun hlen => ?_
  refine WPc.lenAt 0 (xs := h.map Cl.cs) (by simp) (r := h[i].cs) (j := 4) (ys := h[i].names.map sC) (List.mem_iff_getElem?.2 ⟨i, by simp [hlt]⟩) rfl fun hlen2 => ?_
  simp at hlen hlen2
  repeat' (first
    | apply WPc.sq
    | apply WPc.block
    | (refine WPc.rq tok rfl fun K hK => ?_; simp -implicitDefEqProofs +contextual [-Int.not_le, -Int.not_lt, -Nat.not_le, -Nat.not_lt, -List.all_eq_true, -List.all_eq_false, -List.any_eq_true, -List.any_eq_false, Cl.cs, hlt]; (repeat1' (first | apply hK | apply And.intro | intro _)) <;> clear hK K <;> (try dsimp only [List.drop])))
  refine WPc.loopK (σ := Nat) (fun m => m ≤ h[i].vals.length ∧ (h[i].vals.take m).all (qAt h i h[i]) = true) (fun m => h[i].vals.length - m) (fun m => [(6, .sc (.int .i64 m))])  [0, 1, 5] 0 (by simp) (by simp) (by simp) ?_
  rintro m ⟨hm, hall⟩ s hs
  simp at hs
  subst hs
  by_cases hml : m < h[i].vals.length
  · have hv := List.getElem?_eq_getElem hml
    have hs1 := hs2 _ (List.getElem_mem hml)
    have hb := isBelow_eq i h[i].vals[m]
    have hqd : qAt h i h[i] h[i].vals[m] = (valueOk h h[i].vals[m] && (decide (h[i].k = 3) || isBelow i h[i].vals[m])) := rfl
    obtain ⟨p, g3⟩ : ∃ p, (h[i].k = 3) = p := ⟨_, rfl⟩
    have hp : p = True ∨ p = False := Classical.propComplete p
    cases g1 : valueOk h h[i].vals[m] <;> rcases hp with rfl | rfl <;> cases g4 : inRange h[i].vals[m].k 5 7
    all_goals
      repeat' (first
        | apply WPc.sq
        | apply WPc.block
        | (refine WPc.ret (endP.val (.inr rfl) rfl rfl (by simp; rfl) ?_))
        | apply WPc.skip
        | refine WPL.nil ?_
        | (apply WPL.cL (c_spec_ValueOk _ ⟨_, _, _⟩ ?g1); (case q => (repeat' (first | refine And.intro ?_ ?_ | intro _ | exact cleanOut_nil | (refine Eqv.mk ?_; first | rfl | (simp -implicitDefEqProofs [Cl.cs, V.cs, hlt, hml, g1, g3, g4]; done)) | (simp -implicitDefEqProofs [Cl.cs, V.cs, hlt, hml, g1, g3, g4]; done) | (simp -implicitDefEqProofs [Cl.cs, V.cs, hlt, hml, g1, g3, g4]; rfl) | (simp; done) | (simp; rfl) | rfl))); (case g1 => (first | assumption | (exact hs1))))
        | (apply WPL.cL (c_spec_l6Points ⟨_, _, _⟩); (case q => (repeat' (first | refine And.intro ?_ ?_ | intro _ | exact cleanOut_nil | (refine Eqv.mk ?_; first | rfl | (simp -implicitDefEqProofs [Cl.cs, V.cs, hlt, hml, g1, g3, g4]; done)) | (simp -implicitDefEqProofs [Cl.cs, V.cs, hlt, hml, g1, g3, g4]; done) | (simp -implicitDefEqProofs [Cl.cs, V.cs, hlt, hml, g1, g3, g4]; rfl) | (simp; done) | (simp; rfl) | rfl))))
        | (refine WPL.call0f ?_ ?_ ?_; (focus (simp; done)); (focus (simp; done)))
        | ((first | refine WPc.rq tok rfl fun K hK => ?_ | refine WPL.rn tok _ (by simp [ahead, isFn]; rfl) fun K hK => ?_); simp -implicitDefEqProofs +contextual [-Int.not_le, -Int.not_lt, -Nat.not_le, -Nat.not_lt, -List.all_eq_true, -List.all_eq_false, -List.any_eq_true, -List.any_eq_false, Cl.cs, V.cs, hlt, hml, g1, g3, g4]; (repeat1' (first | apply hK | apply And.intro | intro _)) <;> clear hK K <;> (try dsimp only [List.drop]))
        | (refine WPc.region ?_; simp only [List.toList_toArray])
        | (refine WPc.condT ?_ ?_; (focus (simp; done)))
        | (refine WPc.condF ?_ ?_; (focus (simp; done)))
        | (refine WPc.cond (by simp [-Bool.not_eq_eq_eq_not]; rfl) (fun hq => ?_) (fun hq => ?_) <;> simp only [hq] <;> (try (exfalso; (simp only [decide_eq_true_eq, decide_eq_false_iff_not] at hq); omega))))
    all_goals (simp only [g1, g3, g4, hb, Bool.and_true, Bool.and_false, Bool.true_and, Bool.false_and, Bool.or_true, Bool.or_false, Bool.true_or, Bool.false_or, decide_true, decide_false, Bool.not_false, Bool.not_true] at hqd)
    all_goals (try simp only [hq, Bool.not_false, Bool.not_true] at hqd)
    all_goals (first
      | (rw [okAt_no hv hqd]; done)
      | (refine ⟨m + 1, ⟨⟨hml, all_next hv hqd hall⟩, ?_⟩, rfl, rfl, ?_, ?_⟩ <;> (first | omega | (simp (disch := omega) [wrap64]; done))))
  · rw [List.take_of_length_le (by omega)] at hall
    have hok : okAt h i h[i] = cellOk h[i] := by rw [okAt_eq, hall, Bool.and_true]
    rw [hok]
    obtain ⟨p1, g1⟩ : ∃ p, (h[i].k = 1) = p := ⟨_, rfl⟩
    obtain ⟨p2, g2⟩ : ∃ p, (h[i].k = 2) = p := ⟨_, rfl⟩
    obtain ⟨p3, g3⟩ : ∃ p, (h[i].k = 3) = p := ⟨_, rfl⟩
    have hp1 : p1 = True ∨ p1 = False := Classical.propComplete p1
    have hp2 : p2 = True ∨ p2 = False := Classical.propComplete p2
    have hp3 : p3 = True ∨ p3 = False := Classical.propComplete p3
    rcases hp1 with rfl | rfl
    · repeat' (first
        | apply WPc.sq
        | apply WPc.block
        | (refine WPc.ret (endP.val (.inr rfl) rfl rfl (by simp; rfl) ?_))
        | apply WPc.exit
        | (refine WPc.rq tok rfl fun K hK => ?_; simp -implicitDefEqProofs +contextual [-Int.not_le, -Int.not_lt, -Nat.not_le, -Nat.not_lt, -List.all_eq_true, -List.all_eq_false, -List.any_eq_true, -List.any_eq_false, Cl.cs, hlt, hml, g1]; (repeat1' (first | apply hK | apply And.intro | intro _)) <;> clear hK K <;> (try dsimp only [List.drop]))
        | (refine WPc.condT ?_ ?_; (focus (simp; done)))
        | (refine WPc.condF ?_ ?_; (focus (simp; done))))
      all_goals (unfold cellOk; simp_all)
      all_goals (first | omega | (intros; omega))
    · rcases hp2 with rfl | rfl
      · repeat' (first
          | apply WPc.sq
          | apply WPc.block
          | apply WPc.exit
          | (refine WPc.rq tok rfl fun K hK => ?_; simp -implicitDefEqProofs +contextual [-Int.not_le, -Int.not_lt, -Nat.not_le, -Nat.not_lt, -List.all_eq_true, -List.all_eq_false, -List.any_eq_true, -List.any_eq_false, Cl.cs, hlt, hml, g1, g2]; (repeat1' (first | apply hK | apply And.intro | intro _)) <;> clear hK K <;> (try dsimp only [List.drop]))
          | (refine WPc.condT ?_ ?_; (focus (simp; done)))
          | (refine WPc.condF ?_ ?_; (focus (simp; done))))
        refine WPc.loopK (σ := Nat) (fun k => k ≤ h[i].names.length ∧ (h[i].names.take k).all isName = true) (fun k => h[i].names.length - k) (fun k => [(7, .sc (.int .i64 k))])  [5] 0 (by simp) (by simp) (by simp) ?_
        rintro k ⟨hk, hnn⟩ s hs
        simp at hs
        subst hs
        by_cases hkl : k < h[i].names.length
        · have hv := List.getElem?_eq_getElem hkl
          have hs1 := hs3 _ (List.getElem_mem hkl)
          cases hnm : isName h[i].names[k]
          all_goals
            repeat' (first
              | apply WPc.sq
              | apply WPc.block
              | (refine WPc.ret (endP.val (.inr rfl) rfl rfl (by simp; rfl) ?_))
              | apply WPc.skip
              | refine WPL.nil ?_
              | (apply WPL.cL (c_spec_IsName _ ?g1); (case q => (repeat' (first | refine And.intro ?_ ?_ | intro _ | exact cleanOut_nil | (refine Eqv.mk ?_; first | rfl | (simp -implicitDefEqProofs [sC, hkl, hnm]; done)) | (simp -implicitDefEqProofs [sC, hkl, hnm]; done) | (simp -implicitDefEqProofs [sC, hkl, hnm]; rfl) | (simp; done) | (simp; rfl) | rfl))); (case g1 => (first | assumption | (exact hs1))))
              | ((first | refine WPc.rq tok rfl fun K hK => ?_ | refine WPL.rn tok _ (by simp [ahead, isFn]; rfl) fun K hK => ?_); simp -implicitDefEqProofs +contextual [-Int.not_le, -Int.not_lt, -Nat.not_le, -Nat.not_lt, -List.all_eq_true, -List.all_eq_false, -List.any_eq_true, -List.any_eq_false, sC, hkl, hnm]; (repeat1' (first | apply hK | apply And.intro | intro _)) <;> clear hK K <;> (try dsimp only [List.drop]))
              | (refine WPc.region ?_; simp only [List.toList_toArray])
              | (refine WPc.condT ?_ ?_; (focus (simp; done)))
              | (refine WPc.condF ?_ ?_; (focus (simp; done))))
          · unfold cellOk; rw [if_neg (by rw [g1]; simp), if_pos (by rw [g2]; trivial), all_at hv hnm]; simp
          all_goals
            refine ⟨k + 1, ⟨⟨hkl, all_next hv hnm hnn⟩, ?_⟩, rfl, rfl, ?_, ?_⟩ <;> (first | omega | (simp (disch := omega) [wrap64]; done))
        · rw [List.take_of_length_le (by omega)] at hnn
          repeat' (first
            | apply WPc.sq
            | (refine WPc.ret (endP.val (.inr rfl) rfl rfl (by simp; rfl) ?_))
            | apply WPc.exit
            | (refine WPc.rq tok rfl fun K hK => ?_; simp -implicitDefEqProofs +contextual [-Int.not_le, -Int.not_lt, -Nat.not_le, -Nat.not_lt, -List.all_eq_true, -List.all_eq_false, -List.any_eq_true, -List.any_eq_false, Cl.cs, hkl]; (repeat1' (first | apply hK | apply And.intro | intro _)) <;> clear hK K <;> (try dsimp only [List.drop]))
            | (refine WPc.condF ?_ ?_; (focus (simp; done))))
          all_goals (unfold cellOk; rw [if_neg (by rw [g1]; simp), if_pos (by rw [g2]; trivial)]; rw [hnn]; simp_all)
          all_goals (first | omega | (intros; omega))
      · rcases hp3 with rfl | rfl
        · repeat' (first
            | apply WPc.sq
            | apply WPc.block
            | (refine WPc.ret (endP.val (.inr rfl) rfl rfl (by simp; rfl) ?_))
            | apply WPc.exit
            | refine WPL.nil ?_
            | (apply WPL.cL (c_spec_l1In _ _ _); (case q => (repeat' (first | refine And.intro ?_ ?_ | intro _ | exact cleanOut_nil | (refine Eqv.mk ?_; first | rfl | (simp -implicitDefEqProofs [Cl.cs, hlt, hml, g1, g2, g3]; done)) | (simp -implicitDefEqProofs [Cl.cs, hlt, hml, g1, g2, g3]; done) | (simp -implicitDefEqProofs [Cl.cs, hlt, hml, g1, g2, g3]; rfl) | (simp; done) | (simp; rfl) | rfl))))
            | (refine WPL.call0f ?_ ?_ ?_; (focus (simp; done)); (focus (simp; done)))
            | ((first | refine WPc.rq tok rfl fun K hK => ?_ | refine WPL.rn tok _ (by simp [ahead, isFn]; rfl) fun K hK => ?_); simp -implicitDefEqProofs +contextual [-Int.not_le, -Int.not_lt, -Nat.not_le, -Nat.not_lt, -List.all_eq_true, -List.all_eq_false, -List.any_eq_true, -List.any_eq_false, Cl.cs, hlt, hml, g1, g2, g3]; (repeat1' (first | apply hK | apply And.intro | intro _)) <;> clear hK K <;> (try dsimp only [List.drop]))
            | (refine WPc.region ?_; simp only [List.toList_toArray])
            | (refine WPc.condT ?_ ?_; (focus (simp; done)))
            | (refine WPc.condF ?_ ?_; (focus (simp; done))))
          all_goals (unfold cellOk; simp_all)
          all_goals (first | omega | (intros; omega))
        · repeat' (first
            | apply WPc.sq
            | apply WPc.block
            | (refine WPc.ret (endP.val (.inr rfl) rfl rfl (by simp; rfl) ?_))
            | apply WPc.skip
            | apply WPc.exit
            | (refine WPc.rq tok rfl fun K hK => ?_; simp -implicitDefEqProofs +contextual [-Int.not_le, -Int.not_lt, -Nat.not_le, -Nat.not_lt, -List.all_eq_true, -List.all_eq_false, -List.any_eq_true, -List.any_eq_false, Cl.cs, hlt, hml, g1, g2, g3]; (repeat1' (first | apply hK | apply And.intro | intro _)) <;> clear hK K <;> (try dsimp only [List.drop]))
            | (refine WPc.condF ?_ ?_; (focus (simp; done))))
          all_goals (unfold cellOk; simp_all)
theorem c_spec_HeapOk (h : List Cl) (hs : ∀ c, c ∈ h → c.sm) : Con PP 11 [.fz (h.map Cl.cs)] [] [] (fun r o => r = .sc (.bool (heapOk h))) := by
  by_cases h300 : h.length ≤ 300
  · refine Con.of tok (nt := 17) Go.Proofs.Tryz.func11 (by kernel_rfl) rfl rfl rfl (Nat.le_of_ble_eq_true rfl) fun G => ?_
    simp only [entSt, tmOf, List.append_nil, List.cons_append, List.nil_append]
    repeat' (first
      | apply WPc.sq
      | apply WPc.block
      | apply WPc.skip
      | (refine WPc.rq tok rfl fun K hK => ?_; simp -implicitDefEqProofs +contextual [-Int.not_le, -Int.not_lt, -Nat.not_le, -Nat.not_lt, -List.all_eq_true, -List.all_eq_false, -List.any_eq_true, -List.any_eq_false, h300]; (repeat1' (first | apply hK | apply And.intro | intro _)) <;> clear hK K <;> (try dsimp only [List.drop]))
      | (refine WPc.cond (by simp [-Bool.not_eq_eq_eq_not]; rfl) (fun hq => ?_) (fun hq => ?_) <;> simp only [hq] <;> (try (exfalso; (simp only [decide_eq_true_eq, decide_eq_false_iff_not] at hq); omega))))
    refine WPc.loopK (σ := Nat) (fun i => i ≤ h.length ∧ ((List.range h.length).take i).all (okI h) = true) (fun i => h.length - i) (fun i => [(3, .sc (.int .i64 i))])  [0] 0 (by simp) (by simp) (by simp) ?_
    rintro i ⟨hi, hall⟩ s hs
    simp at hs
    subst hs
    by_cases hlt : i < h.length
    · have hv : (List.range h.length)[i]? = some i := List.getElem?_range hlt
      have hs1 := hs _ (List.getElem_mem hlt)
      have hc := List.getElem?_eq_getElem hlt
      have ho := okI_eq hlt
      have kC := c_spec_l6CellOk h i h[i] hc hs1
      cases g1 : okAt h i h[i]
      all_goals
        rw [g1] at ho kC
        repeat' (first
          | apply WPc.sq
          | apply WPc.block
          | (refine WPc.ret (endP.val (.inr rfl) rfl rfl (by simp; rfl) ?_))
          | apply WPc.skip
          | refine WPL.nil ?_
          | (apply WPL.cL kC; (case q => (repeat' (first | refine And.intro ?_ ?_ | intro _ | exact cleanOut_nil | (refine Eqv.mk ?_; first | rfl | (simp -implicitDefEqProofs [hlt, g1]; done)) | (simp -implicitDefEqProofs [hlt, g1]; done) | (simp -implicitDefEqProofs [hlt, g1]; rfl) | (simp; done) | (simp; rfl) | rfl))))
          | ((first | refine WPc.rq tok rfl fun K hK => ?_ | refine WPL.rn tok _ (by simp [ahead, isFn]; rfl) fun K hK => ?_); simp -implicitDefEqProofs +contextual [-Int.not_le, -Int.not_lt, -Nat.not_le, -Nat.not_lt, -List.all_eq_true, -List.all_eq_false, -List.any_eq_true, -List.any_eq_false, hlt, g1]; (repeat1' (first | apply hK | apply And.intro | intro _)) <;> clear hK K <;> (try dsimp only [List.drop]))
          | (refine WPc.region ?_; simp only [List.toList_toArray])
          | (refine WPc.condT ?_ ?_; (focus (simp; done)))
          | (refine WPc.condF ?_ ?_; (focus (simp; done))))
      all_goals (first
        | (rw [heapOk_no hlt ho]; done)
        | (refine ⟨i + 1, ⟨⟨hlt, all_next hv ho hall⟩, ?_⟩, rfl, rfl, ?_, ?_⟩ <;> (first | omega | (simp (disch := omega) [wrap64]; done))))
    · repeat' (first
        | apply WPc.sq
        | (refine WPc.ret (endP.val (.inr rfl) rfl rfl (by simp; rfl) ?_))
        | apply WPc.exit
        | (refine WPc.rq tok rfl fun K hK => ?_; simp -implicitDefEqProofs +contextual [-Int.not_le, -Int.not_lt, -Nat.not_le, -Nat.not_lt, -List.all_eq_true, -List.all_eq_false, -List.any_eq_true, -List.any_eq_false, hlt]; (repeat1' (first | apply hK | apply And.intro | intro _)) <;> clear hK K <;> (try dsimp only [List.drop]))
        | (refine WPc.condF ?_ ?_; (focus (simp; done))))
      rw [List.take_of_length_le (by simp; omega)] at hall
      simp [heapOk, hall, h300]
  · have hno : heapOk h = false := by simp [heapOk, h300]
    rw [hno]
    refine Con.of tok (nt := 17) Go.Proofs.Tryz.func11 (by kernel_rfl) rfl rfl rfl (Nat.le_of_ble_eq_true rfl) fun G => ?_
    simp only [entSt, tmOf, List.append_nil, List.cons_append, List.nil_append]
    repeat' (first
      | apply WPc.sq
      | (refine WPc.ret (endP.val (.inr rfl) rfl rfl (by simp; rfl) ?_))
      | (refine WPc.rq tok rfl fun K hK => ?_; simp -implicitDefEqProofs +contextual [-Int.not_le, -Int.not_lt, -Nat.not_le, -Nat.not_lt, -List.all_eq_true, -List.all_eq_false, -List.any_eq_true, -List.any_eq_false, h300]; (repeat1' (first | apply hK | apply And.intro | intro _)) <;> clear hK K <;> (try dsimp only [List.drop]))
      | (refine WPc.cond (by simp [-Bool.not_eq_eq_eq_not]; rfl) (fun hq => ?_) (fun hq => ?_) <;> simp only [hq] <;> (try (exfalso; (simp only [decide_eq_true_eq, decide_eq_false_iff_not] at hq); omega))))
    all_goals rfl
end Go.Own
set_option maxRecDepth 1000000
set_option maxHeartbeats 4000000
namespace Go.Own
attribute [local irreducible] WPc WPL WPS HAny endP
variable [Laid]
open Go.Lib Go.RowKit
theorem c_slices_Clone_Cell (h : List Cl) (hb : h.length * 88 ≤ 140737488355328) : Con PP 86 [.fz (h.map Cl.cs)] [] [] (fun r o => r = .sl 5 6 [] 0 h.length ∧ o = [(5, 88, 6, h.map Cl.cs)]) := by
  refine Con.of tok (nt := 8) Go.Proofs.Tryz.func86 (by kernel_rfl) rfl rfl rfl (Nat.le_of_ble_eq_true rfl) fun G => ?_
  simp only [entSt, tmOf, List.append_nil, List.cons_append, List.nil_append]
  refine WPc.len 0 (by simp; rfl) fun hlen => ?_
  simp at hlen
  apply WPc.sq
  refine WPc.rk tok fun K hK => ?_; simp -implicitDefEqProofs; refine hK _ ?_; clear hK
  apply WPc.sq
  apply WPc.sq
  refine WPc.region ?_; simp only [List.toList_toArray]
  refine WPL.rk tok 1 fun K hK => ?_; simp -implicitDefEqProofs; refine hK _ ?_; clear hK
  refine WPL.stp rfl (Stp.nilEq (e := 88) tok rfl rfl (by simp; rfl) (by simp)) ?_
  rintro _ ⟨b, hnil, rfl⟩
  refine WPL.nil ?_
  refine WPc.cond (b := b) (by simp) (fun h1 => ?_) (fun h1 => ?_)
  · have hh : h = [] := by
      cases h with
      | nil => rfl
      | cons c cs => have := hnil (by simp); rw [this] at h1; cases h1
    subst hh
    apply WPc.sq
    refine WPc.rk tok fun K hK => ?_; simp -implicitDefEqProofs; refine hK _ ?_; clear hK
    refine WPc.adopt 2 5 88 6 (by simp [putSt]) (by simp [putSt]) (by decide) (by simp) ?_
    refine WPc.ret (by unfold endP; exact ⟨.inr rfl, rfl, rfl, _, _, [(5, 88, 6, [])], by simp [adoptSt, putSt, putT]; rfl, by simp, ⟨⟨[], by simp [adoptSt, putSt, putT], .inl rfl⟩, trivial⟩, ⟨rfl, rfl⟩, by simp⟩)
  · apply WPc.skip
    refine WPc.sq (WPc.rk tok fun K hK => ?_)
    have hb2 : (h.length : Int) ≤ 9223372036854775807 := by omega
    simp -implicitDefEqProofs [Cl.len, hb, hlen, hb2]
    refine hK _ ?_; clear hK
    refine WPc.ret (by unfold endP; exact ⟨.inr rfl, rfl, rfl, .sl 5 6 [] 0 h.length, .sl 5 6 [] 0 h.length, [(5, 88, 6, h.map Cl.cs)], by simp, by simp, ⟨⟨h.map Cl.cs, by simp, .inl rfl⟩, trivial⟩, ⟨rfl, rfl⟩, by simp⟩)
theorem c_slices_Clone_Value (h : List V) (hb : h.length * 32 ≤ 140737488355328) : Con PP 88 [.fz (h.map V.cs)] [] [] (fun r o => r = .sl 5 3 [] 0 h.length ∧ o = [(5, 29, 3, h.map V.cs)]) := by
  refine Con.of tok (nt := 8) Go.Proofs.Tryz.func88 (by kernel_rfl) rfl rfl rfl (Nat.le_of_ble_eq_true rfl) fun G => ?_
  simp only [entSt, tmOf, List.append_nil, List.cons_append, List.nil_append]
  refine WPc.len 0 (by simp; rfl) fun hlen => ?_
  simp at hlen
  apply WPc.sq
  refine WPc.rk tok fun K hK => ?_; simp -implicitDefEqProofs; refine hK _ ?_; clear hK
  apply WPc.sq
  apply WPc.sq
  refine WPc.region ?_; simp only [List.toList_toArray]
  refine WPL.rk tok 1 fun K hK => ?_; simp -implicitDefEqProofs; refine hK _ ?_; clear hK
  refine WPL.stp rfl (Stp.nilEq (e := 29) tok rfl rfl (by simp; rfl) (by simp)) ?_
  rintro _ ⟨b, hnil, rfl⟩
  refine WPL.nil ?_
  refine WPc.cond (b := b) (by simp) (fun h1 => ?_) (fun h1 => ?_)
  · have hh : h = [] := by
      cases h with
      | nil => rfl
      | cons c cs => have := hnil (by simp); rw [this] at h1; cases h1
    subst hh
    apply WPc.sq
    refine WPc.rk tok fun K hK => ?_; simp -implicitDefEqProofs; refine hK _ ?_; clear hK
    refine WPc.adopt 2 5 29 3 (by simp [putSt]) (by simp [putSt]) (by decide) (by simp) ?_
    refine WPc.ret (by unfold endP; exact ⟨.inr rfl, rfl, rfl, _, _, [(5, 29, 3, [])], by simp [adoptSt, putSt, putT]; rfl, by simp, ⟨⟨[], by simp [adoptSt, putSt, putT], .inl rfl⟩, trivial⟩, ⟨rfl, rfl⟩, by simp⟩)
  · apply WPc.skip
    refine WPc.sq (WPc.rk tok fun K hK => ?_)
    have hb2 : (h.length : Int) ≤ 9223372036854775807 := by omega
    simp -implicitDefEqProofs [V.len, hb, hlen, hb2]
    refine hK _ ?_; clear hK
    refine WPc.ret (by unfold endP; exact ⟨.inr rfl, rfl, rfl, .sl 5 3 [] 0 h.length, .sl 5 3 [] 0 h.length, [(5, 29, 3, h.map V.cs)], by simp, by simp, ⟨⟨h.map V.cs, by simp, .inl rfl⟩, trivial⟩, ⟨rfl, rfl⟩, by simp⟩)
theorem c_slices_Clone_string (h : List ByteArray) (hb : h.length * 16 ≤ 140737488355328) : Con PP 87 [.fz (h.map sC)] [] [] (fun r o => r = .sl 5 1 [] 0 h.length ∧ o = [(5, 9, 1, h.map sC)]) := by
  refine Con.of tok (nt := 8) Go.Proofs.Tryz.func87 (by kernel_rfl) rfl rfl rfl (Nat.le_of_ble_eq_true rfl) fun G => ?_
  simp only [entSt, tmOf, List.append_nil, List.cons_append, List.nil_append]
  refine WPc.len 0 (by simp; rfl) fun hlen => ?_
  simp at hlen
  apply WPc.sq
  refine WPc.rk tok fun K hK => ?_; simp -implicitDefEqProofs; refine hK _ ?_; clear hK
  apply WPc.sq
  apply WPc.sq
  refine WPc.region ?_; simp only [List.toList_toArray]
  refine WPL.rk tok 1 fun K hK => ?_; simp -implicitDefEqProofs; refine hK _ ?_; clear hK
  refine WPL.stp rfl (Stp.nilEq (e := 9) tok rfl rfl (by simp; rfl) (by simp)) ?_
  rintro _ ⟨b, hnil, rfl⟩
  refine WPL.nil ?_
  refine WPc.cond (b := b) (by simp) (fun h1 => ?_) (fun h1 => ?_)
  · have hh : h = [] := by
      cases h with
      | nil => rfl
      | cons c cs => have := hnil (by simp); rw [this] at h1; cases h1
    subst hh
    apply WPc.sq
    refine WPc.rk tok fun K hK => ?_; simp -implicitDefEqProofs; refine hK _ ?_; clear hK
    refine WPc.adopt 2 5 9 1 (by simp [putSt]) (by simp [putSt]) (by decide) (by simp) ?_
    refine WPc.ret (by unfold endP; exact ⟨.inr rfl, rfl, rfl, _, _, [(5, 9, 1, [])], by simp [adoptSt, putSt, putT]; rfl, by simp, ⟨⟨[], by simp [adoptSt, putSt, putT], .inl rfl⟩, trivial⟩, ⟨rfl, rfl⟩, by simp⟩)
  · apply WPc.skip
    refine WPc.sq (WPc.rk tok fun K hK => ?_)
    have hb2 : (h.length : Int) ≤ 9223372036854775807 := by omega
    simp -implicitDefEqProofs [sC.len, hb, hlen, hb2]
    refine hK _ ?_; clear hK
    refine WPc.ret (by unfold endP; exact ⟨.inr rfl, rfl, rfl, .sl 5 1 [] 0 h.length, .sl 5 1 [] 0 h.length, [(5, 9, 1, h.map sC)], by simp, by simp, ⟨⟨h.map sC, by simp, .inl rfl⟩, trivial⟩, ⟨rfl, rfl⟩, by simp⟩)
def Cl.ow (c : Cl) : List C := [.sc (.int .i64 c.k), .sc (.string c.s), .sc (.int .i64 c.a), .sc (.int .i64 c.b), .sl 9 1 (c.names.map sC), .sl 29 3 (c.vals.map V.cs)]
def heapR (h : List Cl) : Root := (88, 6, h.map Cl.ow)
structure Cl.rm (c : Cl) : Prop where
  names : c.names.length ≤ 1000000000
  vals : c.vals.length ≤ 1000000000
def mixed (h : List Cl) (i : Nat) : List (List C) := (h.take i).map Cl.ow ++ (h.drop i).map Cl.cs
theorem mixed_len (h : List Cl) (i : Nat) : (mixed h i).length = h.length := by simp [mixed]; omega
theorem mixed_get {h : List Cl} {i : Nat} (hi : i < h.length) : (mixed h i)[i]? = some h[i].cs := by
  unfold mixed
  rw [List.getElem?_append_right (by simp; omega)]
  simp [Nat.min_eq_left (Nat.le_of_lt hi), hi]
theorem mixed_ge {h : List Cl} {i : Nat} (hi : i < h.length) (p : i < (mixed h i).length) : (mixed h i)[i] = h[i].cs := by
  have := mixed_get hi
  rw [List.getElem?_eq_getElem p] at this
  exact Option.some.inj this
theorem mixed_zero (h : List Cl) : mixed h 0 = h.map Cl.cs := by simp [mixed]
theorem mixed_all (h : List Cl) : mixed h h.length = h.map Cl.ow := by simp [mixed]
theorem mixed_next {h : List Cl} {i : Nat} (hi : i < h.length) :
    ((mixed h i).modify i fun r => r.set 4 (.sl 9 1 (h[i].names.map sC))).modify i (fun r => r.set 5 (.sl 29 3 (h[i].vals.map V.cs))) = mixed h (i + 1) := by
  apply List.ext_getElem?
  intro j
  simp only [List.getElem?_modify]
  by_cases hj : i = j
  · subst hj
    rw [mixed_get hi]
    have : (mixed h (i + 1))[i]? = some h[i].ow := by
      unfold mixed
      rw [List.getElem?_append_left (by simp; omega)]
      simp [hi]
    rw [this]
    simp [Cl.cs, Cl.ow]
  · simp only [hj, if_false]
    simp only [Option.map_eq_map, Option.map_id']
    unfold mixed
    by_cases hlt : j < i
    · rw [List.getElem?_append_left (by simp; omega), List.getElem?_append_left (by simp; omega)]
      simp [hlt, show j < i + 1 by omega]
    · rw [List.getElem?_append_right (by simp; omega), List.getElem?_append_right (by simp; omega)]
      simp [Nat.min_eq_left (Nat.le_of_lt hi), Nat.min_eq_left (show i + 1 ≤ h.length by omega)]
      congr 1
      congr 1
      omega
theorem c_impl_copyHeap (h : List Cl) (h1 : h.length ≤ 1000000000) (h2 : ∀ c, c ∈ h → c.rm) : Con PP 48 [.fz (h.map Cl.cs)] [] [] (fun r o => r = .sl 7 6 [] 0 h.length ∧ o = [(7, heapR h)]) := by
  refine Con.of tok (nt := 31) Go.Proofs.Tryz.func48 (by kernel_rfl) rfl rfl rfl (Nat.le_of_ble_eq_true rfl) fun G => ?_
  simp only [entSt, tmOf, List.append_nil, List.cons_append, List.nil_append]
  repeat' (first
    | apply WPc.sq
    | apply WPc.block
    | refine WPL.nil ?_
    | (apply WPL.cU (c_slices_Clone_Cell _ ?g1); (case q => (repeat' (first | refine And.intro ?_ ?_ | intro _ | exact cleanOut_nil | (refine Eqv.mk ?_; first | rfl | (simp -implicitDefEqProofs; done)) | (simp -implicitDefEqProofs; done) | (simp -implicitDefEqProofs; rfl) | rfl))); (case g1 => omega))
    | ((first | refine WPc.rq tok rfl fun K hK => ?_ | refine WPL.rn tok _ (by simp [ahead, isFn]; rfl) fun K hK => ?_); simp -implicitDefEqProofs +contextual [-Int.not_le, -Int.not_lt, -Nat.not_le, -Nat.not_lt, -List.all_eq_true, -List.all_eq_false, -List.any_eq_true, -List.any_eq_false]; (repeat1' (first | apply hK | apply And.intro | intro _)) <;> clear hK K <;> (try dsimp only [List.drop]))
    | (refine WPc.region ?_; simp only [List.toList_toArray]))
  refine WPc.loopV (σ := Nat) (fun i => i ≤ h.length) (fun i => h.length - i) (fun i => [(10, .sc (.int .i64 i))]) (fun i => [(7, 88, 6, mixed h i)]) [3, 8, 9] 0 (by simp [mixed_zero]) (by simp [mixed_zero]) (by simp) ?_
  rintro i hi s hs
  simp at hs
  subst hs
  by_cases hlt : i < h.length
  · have hr := h2 _ (List.getElem_mem hlt)
    have hr1 := hr.names
    have hr2 := hr.vals
    have hg := mixed_ge hlt
    have hl := mixed_len h i
    have hn := mixed_next hlt
    repeat' (first
      | apply WPc.sq
      | apply WPc.block
      | apply WPc.skip
      | (apply WPS.cU (hc := (c_slices_Clone_string _ ?g1)); (case ho => exact rfl); (case q => (repeat' (first | refine And.intro ?_ ?_ | intro _ | exact cleanOut_nil | (refine Eqv.mk ?_; first | rfl | (simp -implicitDefEqProofs [hg, hl, Cl.cs, hlt]; done)) | (simp -implicitDefEqProofs [hg, hl, Cl.cs, hlt]; done) | (simp -implicitDefEqProofs [hg, hl, Cl.cs, hlt]; rfl) | (simp; done) | (simp; rfl) | rfl))); (case g1 => omega))
      | (apply WPS.cU (hc := (c_slices_Clone_Value _ ?g1)); (case ho => exact rfl); (case q => (repeat' (first | refine And.intro ?_ ?_ | intro _ | exact cleanOut_nil | (refine Eqv.mk ?_; first | rfl | (simp -implicitDefEqProofs [hg, hl, Cl.cs, hlt]; done)) | (simp -implicitDefEqProofs [hg, hl, Cl.cs, hlt]; done) | (simp -implicitDefEqProofs [hg, hl, Cl.cs, hlt]; rfl) | (simp; done) | (simp; rfl) | rfl))); (case g1 => omega))
      | ((first | refine WPc.rq tok rfl fun K hK => ?_ | refine WPS.rn tok _ (by simp [aheadS]; rfl) fun K hK => ?_); simp -implicitDefEqProofs +contextual [-Int.not_le, -Int.not_lt, -Nat.not_le, -Nat.not_lt, -List.all_eq_true, -List.all_eq_false, -List.any_eq_true, -List.any_eq_false, hg, hl, Cl.cs, hlt]; (repeat1' (first | apply hK | apply And.intro | intro _)) <;> clear hK K <;> (try dsimp only [List.drop]))
      | (refine WPc.sched (id := 5) tok [(6, [21, 1021, 2021]), (9, [24, 1024, 2024]), (12, [7, 21, 1007, 1021, 2007, 2021]), (15, [7, 24, 1007, 1024, 2007, 2024])] [(0, [21, 24, 1021, 1024, 2021, 2024]), (1, [21, 24, 1021, 1024, 2021, 2024]), (2, [7, 21, 24, 1007, 1021, 1024, 2007, 2021, 2024]), (3, [7, 21, 24, 1007, 1021, 1024, 2007, 2021, 2024]), (4, []), (5, []), (7, [21, 1021, 2021]), (8, [21, 1021, 2021]), (6, [21, 1021, 2021]), (9, [24, 1024, 2024]), (10, []), (11, []), (12, [7, 21, 1007, 1021, 2007, 2021]), (13, []), (14, []), (15, [7, 24, 1007, 1024, 2007, 2024])] (by kernel_rfl) ?_)
      | (refine WPS.nil ?_)
      | (refine WPS.eff tok fun K hK => ?_; simp -implicitDefEqProofs +contextual [-Int.not_le, -Int.not_lt, -Nat.not_le, -Nat.not_lt, -List.all_eq_true, -List.all_eq_false, -List.any_eq_true, -List.any_eq_false, hg, hl, Cl.cs, hlt]; (repeat1' (first | apply hK | apply And.intro | intro _)) <;> clear hK K)
      | (refine WPc.condT ?_ ?_; (focus (simp; done))))
    refine ⟨i + 1, ⟨hlt, by first | omega | (simp only; omega) | assumption⟩, rfl, rfl, ?_, ?_⟩ <;> simp (disch := omega) [wrap64, hn]
  · obtain rfl : i = h.length := by omega
    repeat' (first
      | apply WPc.sq
      | (refine WPc.ret (endP.own [(7, heapR h)] (.inr rfl) rfl rfl (by simp; rfl) ?_ ?_ (by simp)))
      | apply WPc.exit
      | (refine WPc.rq tok rfl fun K hK => ?_; simp -implicitDefEqProofs +contextual [-Int.not_le, -Int.not_lt, -Nat.not_le, -Nat.not_lt, -List.all_eq_true, -List.all_eq_false, -List.any_eq_true, -List.any_eq_false]; (repeat1' (first | apply hK | apply And.intro | intro _)) <;> clear hK K <;> (try dsimp only [List.drop]))
      | (refine WPc.condF ?_ ?_; (focus (simp; done))))
    · simp [heapR, mixed_all]
    · exact ⟨rfl, rfl⟩
end Go.Own
set_option maxRecDepth 1000000
set_option maxHeartbeats 4000000
namespace Go.Own
attribute [local irreducible] WPc WPL WPS HAny endP
variable [Laid]
open Go.Lib Go.RowKit
def tookH (h : List Cl) (i : Nat) : List (List C) := (h.take i).map Cl.ow
theorem tookH_zero (h : List Cl) : tookH h 0 = [] := by simp [tookH]
theorem tookH_all (h : List Cl) : tookH h h.length = h.map Cl.ow := by simp [tookH]
theorem tookH_len {h : List Cl} {i : Nat} (hi : i ≤ h.length) : (tookH h i).length = i := by simp [tookH]; omega
theorem tookH_next {h : List Cl} {i : Nat} (hi : i < h.length) : tookH h i ++ [h[i].ow] = tookH h (i + 1) := by
  unfold tookH
  rw [List.take_add_one, List.getElem?_eq_getElem hi, List.map_append]
  rfl
theorem c_spec_l8CopyCells (h : List Cl) (h1 : h.length ≤ 1000000000) (h2 : ∀ c, c ∈ h → c.rm) : Con PP 50 [.fz (h.map Cl.cs)] [] [] (fun r o => r = .sl 6 6 [] 0 h.length ∧ o = [(6, heapR h)]) := by
  refine Con.of tok (nt := 32) Go.Proofs.Tryz.func50 (by kernel_rfl) rfl rfl rfl (Nat.le_of_ble_eq_true rfl) fun G => ?_
  simp only [entSt, tmOf, List.append_nil, List.cons_append, List.nil_append]
  repeat' (first
    | apply WPc.sq
    | apply WPc.block
    | (refine WPc.rq tok rfl fun K hK => ?_; simp -implicitDefEqProofs +contextual [-Int.not_le, -Int.not_lt, -Nat.not_le, -Nat.not_lt, -List.all_eq_true, -List.all_eq_false, -List.any_eq_true, -List.any_eq_false]; (repeat1' (first | apply hK | apply And.intro | intro _)) <;> clear hK K <;> (try dsimp only [List.drop])))
  refine WPc.loopV (σ := Nat) (fun i => i ≤ h.length) (fun i => h.length - i) (fun i => [(3, .sl 6 6 [] 0 i), (4, .sc (.int .i64 i))]) (fun i => [(6, 88, 6, tookH h i)]) [0] 0 (by simp [tookH_zero]) (by simp [tookH_zero]) (by simp) ?_
  rintro i hi s hs
  simp at hs
  subst hs
  by_cases hlt : i < h.length
  · have hr := h2 _ (List.getElem_mem hlt)
    have hr1 := hr.names
    have hr2 := hr.vals
    have hb1 : h[i].names.length * 16 ≤ 140737488355328 := by omega
    have hb2 : h[i].names.length ≤ 9223372036854775807 := by omega
    have hb3 : h[i].vals.length * 32 ≤ 140737488355328 := by omega
    have hb4 : h[i].vals.length ≤ 9223372036854775807 := by omega
    have hb5 : (i + 1) * 88 ≤ 140737488355328 := by omega
    have hb6 : i + 1 ≤ 9223372036854775807 := by omega
    have hl := tookH_len hi
    have hnx := tookH_next hlt
    repeat' (first
      | (refine WPL.detAt 29 5 900001 [] 0 4 ?_ ?_; (focus (simp; done)); refine fun K hK => ?_; simp -implicitDefEqProofs +contextual [-Int.not_le, -Int.not_lt, -Nat.not_le, -Nat.not_lt, -List.all_eq_true, -List.all_eq_false, -List.any_eq_true, -List.any_eq_false, Cl.cs, hlt, hb1, hb2, hb3, hb4, hb5, hb6, hl]; (repeat1' (first | apply hK | apply And.intro | intro _)) <;> clear hK K)
      | (refine WPL.detAt 29 5 900002 [] 0 5 ?_ ?_; (focus (simp; done)); refine fun K hK => ?_; simp -implicitDefEqProofs +contextual [-Int.not_le, -Int.not_lt, -Nat.not_le, -Nat.not_lt, -List.all_eq_true, -List.all_eq_false, -List.any_eq_true, -List.any_eq_false, Cl.cs, hlt, hb1, hb2, hb3, hb4, hb5, hb6, hl]; (repeat1' (first | apply hK | apply And.intro | intro _)) <;> clear hK K)
      | ((first | refine WPL.rnTo tok 29 _ (by simp [isFn]; rfl) fun K hK => ?_ | refine WPc.rq tok rfl fun K hK => ?_ | refine WPL.rn tok _ (by simp [ahead, isFn]; rfl) fun K hK => ?_); simp -implicitDefEqProofs +contextual [-Int.not_le, -Int.not_lt, -Nat.not_le, -Nat.not_lt, -List.all_eq_true, -List.all_eq_false, -List.any_eq_true, -List.any_eq_false, Cl.cs, hlt, hb1, hb2, hb3, hb4, hb5, hb6, hl]; (repeat1' (first | apply hK | apply And.intro | intro _)) <;> clear hK K <;> (try dsimp only [List.drop]))
      | apply WPc.sq
      | apply WPc.block
      | apply WPc.skip
      | refine WPL.nil ?_
      | (refine WPc.region ?_; simp only [List.toList_toArray])
      | (refine WPc.condT ?_ ?_; (focus (simp; done))))
    refine ⟨i + 1, ⟨hlt, by first | omega | (simp only; omega) | assumption⟩, rfl, rfl, ?_, ?_⟩ <;> simp (disch := omega) [wrap64, ← hnx, Cl.ow]
  · obtain rfl : i = h.length := by omega
    repeat' (first
      | apply WPc.sq
      | (refine WPc.ret (endP.own [(6, heapR h)] (.inr rfl) rfl rfl (by simp; rfl) ?_ ?_ (by simp)))
      | apply WPc.exit
      | (refine WPc.rq tok rfl fun K hK => ?_; simp -implicitDefEqProofs +contextual [-Int.not_le, -Int.not_lt, -Nat.not_le, -Nat.not_lt, -List.all_eq_true, -List.all_eq_false, -List.any_eq_true, -List.any_eq_false]; (repeat1' (first | apply hK | apply And.intro | intro _)) <;> clear hK K <;> (try dsimp only [List.drop]))
      | (refine WPc.condF ?_ ?_; (focus (simp; done))))
    · simp [heapR, tookH_all]
    · exact ⟨rfl, rfl⟩
end Go.Own
set_option maxRecDepth 1000000
set_option maxHeartbeats 4000000
namespace Go.Own
attribute [local irreducible] WPc WPL WPS HAny endP
variable [Laid]
open Go.Lib Go.RowKit
def boolV (b : Bool) : V := ⟨2, if b = true then 1 else 0, zs⟩
def noV : V := ⟨0, 0, zs⟩
theorem c_impl_boolOf (b : Bool) : Con PP 90 [.sc (.bool b)] [] [] (fun r o => r = (boolV b).av) := by
  refine Con.of tok (nt := 6) Go.Proofs.Tryz.func90 (by kernel_rfl) rfl rfl rfl (Nat.le_of_ble_eq_true rfl) fun G => ?_
  simp only [entSt, tmOf, List.append_nil, List.cons_append, List.nil_append]
  repeat' (first
    | apply WPc.sq
    | (refine WPc.ret (endP.val (.inr rfl) rfl rfl (by simp; rfl) ?_))
    | apply WPc.skip
    | (refine WPc.rq tok rfl fun K hK => ?_; simp -implicitDefEqProofs +contextual [-Int.not_le, -Int.not_lt, -Nat.not_le, -Nat.not_lt, -List.all_eq_true, -List.all_eq_false, -List.any_eq_true, -List.any_eq_false]; (repeat1' (first | apply hK | apply And.intro | intro _)) <;> clear hK K <;> (try dsimp only [List.drop]))
    | (refine WPc.cond (by simp [-Bool.not_eq_eq_eq_not]; rfl) (fun hq => ?_) (fun hq => ?_) <;> simp only [hq] <;> (try (exfalso; (simp only [decide_eq_true_eq, decide_eq_false_iff_not] at hq); omega))))
  all_goals (subst b; rfl)
theorem c_spec_l7Bool (b : Bool) : Con PP 94 [.sc (.bool b)] [] [] (fun r o => r = (boolV b).av) := by
  refine Con.of tok (nt := 6) Go.Proofs.Tryz.func94 (by kernel_rfl) rfl rfl rfl (Nat.le_of_ble_eq_true rfl) fun G => ?_
  simp only [entSt, tmOf, List.append_nil, List.cons_append, List.nil_append]
  repeat' (first
    | apply WPc.sq
    | (refine WPc.ret (endP.val (.inr rfl) rfl rfl (by simp; rfl) ?_))
    | apply WPc.skip
    | (refine WPc.rq tok rfl fun K hK => ?_; simp -implicitDefEqProofs +contextual [-Int.not_le, -Int.not_lt, -Nat.not_le, -Nat.not_lt, -List.all_eq_true, -List.all_eq_false, -List.any_eq_true, -List.any_eq_false]; (repeat1' (first | apply hK | apply And.intro | intro _)) <;> clear hK K <;> (try dsimp only [List.drop]))
    | (refine WPc.cond (by simp [-Bool.not_eq_eq_eq_not]; rfl) (fun hq => ?_) (fun hq => ?_) <;> simp only [hq] <;> (try (exfalso; (simp only [decide_eq_true_eq, decide_eq_false_iff_not] at hq); omega))))
  all_goals (subst b; rfl)
def partAt (h : List Cl) (v : V) (k : Nat) : V := match h[v.n.toNat]? with
  | some c => (c.vals[k]?).getD noV
  | none => noV
def partV (h : List Cl) (v : V) (k : Nat) : V × Int := if v.k = 5 then (partAt h v k, 0) else (noV, 2)
theorem c_impl_part (h : List Cl) (v : V) (k : Nat) (hok : v.k = 5 → 0 ≤ v.n ∧ ∃ hlt : v.n.toNat < h.length, k < h[v.n.toNat].vals.length) :
    Con PP 89 [.fz (h.map Cl.cs), v.av, .sc (.int .i64 k)] [] [] (fun r o => r = .tup [(partV h v k).1.av, .sc (.int .i64 (partV h v k).2)]) := by
  by_cases hk : v.k = 5
  · obtain ⟨h0, hlt, hkl⟩ := hok hk
    have e1 : (partV h v k).1 = h[v.n.toNat].vals[k] := by simp [partV, partAt, hk, hlt, hkl]
    have e2 : (partV h v k).2 = 0 := by simp [partV, hk]
    rw [e1, e2]
    have hk' : (v.k = 5) = True := by simp [hk]
    refine Con.of tok (nt := 21) Go.Proofs.Tryz.func89 (by kernel_rfl) rfl rfl rfl (Nat.le_of_ble_eq_true rfl) fun G => ?_
    simp only [entSt, tmOf, List.append_nil, List.cons_append, List.nil_append, V.av]
    repeat' (first
      | apply WPc.sq
      | (refine WPc.ret (endP.val (.inr rfl) rfl rfl (by simp; rfl) ?_))
      | apply WPc.skip
      | (refine WPc.rq tok rfl fun K hK => ?_; simp -implicitDefEqProofs +contextual [-Int.not_le, -Int.not_lt, -Nat.not_le, -Nat.not_lt, -List.all_eq_true, -List.all_eq_false, -List.any_eq_true, -List.any_eq_false, hk', h0, hlt, hkl, Cl.cs, V.cs]; (repeat1' (first | apply hK | apply And.intro | intro _)) <;> clear hK K <;> (try dsimp only [List.drop]))
      | (refine WPc.condF ?_ ?_; (focus (simp; done))))
    all_goals simp_all [V.av]
  · have hk' : (v.k = 5) = False := by simp [hk]
    refine Con.of tok (nt := 21) Go.Proofs.Tryz.func89 (by kernel_rfl) rfl rfl rfl (Nat.le_of_ble_eq_true rfl) fun G => ?_
    simp only [entSt, tmOf, List.append_nil, List.cons_append, List.nil_append, V.av]
    repeat' (first
      | apply WPc.sq
      | (refine WPc.ret (endP.val (.inr rfl) rfl rfl (by simp; rfl) ?_))
      | (refine WPc.rq tok rfl fun K hK => ?_; simp -implicitDefEqProofs +contextual [-Int.not_le, -Int.not_lt, -Nat.not_le, -Nat.not_lt, -List.all_eq_true, -List.all_eq_false, -List.any_eq_true, -List.any_eq_false, hk']; (repeat1' (first | apply hK | apply And.intro | intro _)) <;> clear hK K <;> (try dsimp only [List.drop]))
      | (refine WPc.condT ?_ ?_; (focus (simp; done))))
    all_goals simp_all [partV, V.av, noV]
def numR (n : Int) : V × Int := if inRange n (-1000000) 1000000 = true then (⟨1, n, zs⟩, 0) else (noV, 3)
def arithV (s : ByteArray) (a b : V) : V × Int :=
  if a.k = 1 ∧ b.k = 1 then
    if s = ⟨#[60]⟩ then (boolV (decide (a.n < b.n)), 0)
    else if s = ⟨#[61]⟩ then (boolV (decide (a.n = b.n)), 0)
    else if s = ⟨#[43]⟩ then numR (IntKind.i64.wrap (a.n + b.n))
    else if s = ⟨#[45]⟩ then numR (IntKind.i64.wrap (a.n - b.n))
    else numR (IntKind.i64.wrap (a.n * b.n))
  else (noV, 2)
theorem c_impl_arith (s : ByteArray) (a b : V) : Con PP 92 [.sc (.string s), a.av, b.av] [] [] (fun r o => r = .tup [(arithV s a b).1.av, .sc (.int .i64 (arithV s a b).2)]) := by
  refine Con.of tok (nt := 60) Go.Proofs.Tryz.func92 (by kernel_rfl) rfl rfl rfl (Nat.le_of_ble_eq_true rfl) fun G => ?_
  simp only [entSt, tmOf, List.append_nil, List.cons_append, List.nil_append, V.av]
  repeat' (first
    | apply WPc.sq
    | apply WPc.block
    | (refine WPc.ret (endP.val (.inr rfl) rfl rfl (by simp; rfl) ?_))
    | apply WPc.skip
    | refine WPL.nil ?_
    | (apply WPL.cL (c_impl_boolOf _); (case q => (repeat' (first | refine And.intro ?_ ?_ | intro _ | exact cleanOut_nil | (refine Eqv.mk ?_; first | rfl | (simp -implicitDefEqProofs [V.av, boolV]; done)) | (simp -implicitDefEqProofs [V.av, boolV]; done) | (simp -implicitDefEqProofs [V.av, boolV]; rfl) | (simp; done) | (simp; rfl) | rfl))))
    | (apply WPL.cL (c_impl_inRange _ _ _); (case q => (repeat' (first | refine And.intro ?_ ?_ | intro _ | exact cleanOut_nil | (refine Eqv.mk ?_; first | rfl | (simp -implicitDefEqProofs [V.av, boolV]; done)) | (simp -implicitDefEqProofs [V.av, boolV]; done) | (simp -implicitDefEqProofs [V.av, boolV]; rfl) | (simp; done) | (simp; rfl) | rfl))))
    | ((first | refine WPc.rq tok rfl fun K hK => ?_ | refine WPL.rn tok _ (by simp [ahead, isFn]; rfl) fun K hK => ?_); simp -implicitDefEqProofs +contextual [-Int.not_le, -Int.not_lt, -Nat.not_le, -Nat.not_lt, -List.all_eq_true, -List.all_eq_false, -List.any_eq_true, -List.any_eq_false, V.av, boolV]; (repeat1' (first | apply hK | apply And.intro | intro _)) <;> clear hK K <;> (try dsimp only [List.drop]))
    | (refine WPc.region ?_; simp only [List.toList_toArray])
    | (refine WPc.condT ?_ ?_; (focus (simp; done)))
    | (refine WPc.cond (by simp [-Bool.not_eq_eq_eq_not]; rfl) (fun hq => ?_) (fun hq => ?_) <;> simp only [hq] <;> (try (exfalso; (simp only [decide_eq_true_eq, decide_eq_false_iff_not] at hq); omega))))
  all_goals simp_all [arithV, noV, numR, V.av, boolV]
def numsV (s : ByteArray) (a b : Int) : V × Int :=
  if s = ⟨#[45]⟩ then numR (IntKind.i64.wrap (a - b))
  else if s = ⟨#[42]⟩ then numR (IntKind.i64.wrap (a * b))
  else if s = ⟨#[60]⟩ then (boolV (decide (a < b)), 0)
  else if s = ⟨#[61]⟩ then (boolV (decide (a = b)), 0)
  else numR (IntKind.i64.wrap (a + b))
theorem c_spec_l7Nums (s : ByteArray) (a b : Int) : Con PP 93 [.sc (.string s), .sc (.int .i64 a), .sc (.int .i64 b)] [] [] (fun r o => r = .tup [(numsV s a b).1.av, .sc (.int .i64 (numsV s a b).2)]) := by
  refine Con.of tok (nt := 41) Go.Proofs.Tryz.func93 (by kernel_rfl) rfl rfl rfl (Nat.le_of_ble_eq_true rfl) fun G => ?_
  simp only [entSt, tmOf, List.append_nil, List.cons_append, List.nil_append]
  repeat' (first
    | apply WPc.sq
    | apply WPc.block
    | (refine WPc.ret (endP.val (.inr rfl) rfl rfl (by simp; rfl) ?_))
    | apply WPc.skip
    | refine WPL.nil ?_
    | (apply WPL.cL (c_spec_l7Bool _); (case q => (repeat' (first | refine And.intro ?_ ?_ | intro _ | exact cleanOut_nil | (refine Eqv.mk ?_; first | rfl | (simp -implicitDefEqProofs [V.av, boolV]; done)) | (simp -implicitDefEqProofs [V.av, boolV]; done) | (simp -implicitDefEqProofs [V.av, boolV]; rfl) | (simp; done) | (simp; rfl) | rfl))))
    | (apply WPL.cL (c_spec_l1In _ _ _); (case q => (repeat' (first | refine And.intro ?_ ?_ | intro _ | exact cleanOut_nil | (refine Eqv.mk ?_; first | rfl | (simp -implicitDefEqProofs [V.av, boolV]; done)) | (simp -implicitDefEqProofs [V.av, boolV]; done) | (simp -implicitDefEqProofs [V.av, boolV]; rfl) | (simp; done) | (simp; rfl) | rfl))))
    | ((first | refine WPc.rq tok rfl fun K hK => ?_ | refine WPL.rn tok _ (by simp [ahead, isFn]; rfl) fun K hK => ?_); simp -implicitDefEqProofs +contextual [-Int.not_le, -Int.not_lt, -Nat.not_le, -Nat.not_lt, -List.all_eq_true, -List.all_eq_false, -List.any_eq_true, -List.any_eq_false, V.av, boolV]; (repeat1' (first | apply hK | apply And.intro | intro _)) <;> clear hK K <;> (try dsimp only [List.drop]))
    | (refine WPc.region ?_; simp only [List.toList_toArray])
    | (refine WPc.cond (by simp [-Bool.not_eq_eq_eq_not]; rfl) (fun hq => ?_) (fun hq => ?_) <;> simp only [hq] <;> (try (exfalso; (simp only [decide_eq_true_eq, decide_eq_false_iff_not] at hq); omega))))
  all_goals simp_all [numsV, noV, numR, V.av, boolV]
end Go.Own
namespace Go.Own
variable {P : Program} {tt : Nat → Option TI} {w0 : World} {β0 : Blk} {st st' : St} {β : Blk} {a : Act} {w w' : World} {o : Oper} {T : List Nat}
@[simp] theorem updG_app {G : Nat → Value} {g t : Nat} {u : Value} : updG G g u t = if t = g then u else G t := rfl
theorem RL.sameB [Laid] (h : RL w0 β0 st β a w) (hr : Rel w0 β0 st' β a w) : RL w0 β0 st' β a w := ⟨hr, h.lw, h.to, h.back, h.lt0⟩
def ghS (st : St) (t g i : Nat) (u : Value) : Option St :=
  match lk st.tm t with
  | .agg cs => match cs[i]? with
    | some v => if st.nt ≤ g ∧ t < g then some { st with G := updG st.G g u, tm := putT ((g, v) :: st.tm) t (.agg (cs.set i (.sc u))) } else none
    | none => none
  | _ => none
theorem VR.set_agg {cs : List AV} {u : Value} {i : Nat} {x y : AV} (h : VR β w (.agg cs) u) (hi : cs[i]? = some x) : ∃ v : Value, v.oneCell' = true ∧ VR β w x v ∧ VR β w (.agg (cs.set i (.sc v))) u ∧ (VR β w y v → VR β w (.agg (cs.set i y)) u) := by
  cases h with
  | agg _ us f hl hu h1 hx =>
    have hil := (List.getElem?_eq_some_iff.1 hi).1
    have key : ∀ z, VR β w z (f i) → VR β w (.agg (cs.set i z)) (.agg us) := fun z hz => by
      refine .agg _ us f (by simpa using hl) (fun n y hy => ?_) (fun n y hy => ?_) (fun n y hy => ?_) <;> rw [List.getElem?_set] at hy <;> by_cases hn : i = n
      · subst hn; exact hu i x hi
      · simp only [hn, if_false] at hy; exact hu n y hy
      · subst hn; exact h1 i x hi
      · simp only [hn, if_false] at hy; exact h1 n y hy
      · subst hn
        simp only [if_true, hil] at hy
        injection hy with hy
        exact hy ▸ hz
      · simp only [hn, if_false] at hy; exact hx n y hy
    exact ⟨f i, h1 i x hi, hx i x hi, key _ (.sc _), key y⟩
theorem Rel.ghS (hr : Rel w0 β0 st β a w) {t g i : Nat} {f : Value → St} (h : ∀ u, Own.ghS st t g i u = some (f u)) : ∃ u : Value, u.oneCell' = true ∧ Rel w0 β0 (f u) β a w := by
  have h' := h
  unfold Own.ghS at h'
  cases hv : lk st.tm t with
  | agg cs =>
    simp only [hv] at h'
    cases hi : cs[i]? with
    | none => have := h' undef; simp [hi] at this
    | some x =>
      simp only [hi] at h'
      by_cases hq : st.nt ≤ g ∧ t < g
      · simp only [hq, and_self, if_true, Option.some.injEq] at h'
        have hvr := hr.tm t
        rw [hv] at hvr
        obtain ⟨u, h1, h2, h3, _⟩ := hvr.set_agg (y := .un) hi
        refine ⟨u, h1, ?_⟩
        rw [← h' u]
        refine ⟨hr.nt, hr.df, fun n => ?_, hr.ob, hr.uq, hr.lt, hr.fr, hr.old, hr.hs, hr.os, hr.tape, hr.output⟩
        have hnt := hr.nt
        have e1 : ∀ n, n ≠ g → a.tmps.getD n (updG st.G g u n) = a.tmps.getD n (st.G n) := fun n hn => by simp [updG, hn]
        simp only [lk_put, lk]
        split
        · rename_i e
          subst e
          rw [e1 t (by omega)]
          exact h3
        · split
          · rename_i e
            subst e
            have : a.tmps.getD g (updG st.G g u g) = u := by
              rw [Array.getD_eq_getD_getElem?, Array.getElem?_eq_none (by omega)]
              simp [updG]
            rw [this]
            exact h2
          · rename_i e
            rw [e1 n (fun h => e h.symm)]
            exact hr.tm n
      · have := h' undef; rw [if_neg hq] at this; simp at this
  | _ => have := h' undef; simp [hv] at this
def unS (st : St) (t g i : Nat) : Option (Value × St) :=
  match lk st.tm t with
  | .agg cs => match cs[i]? with
    | some (.sc u) => if st.nt ≤ g then some (u, { st with tm := putT st.tm t (.agg (cs.set i (lk st.tm g))) }) else none
    | _ => none
  | _ => none
theorem VR.set_agg2 {cs : List AV} {u v : Value} {i : Nat} {y : AV} (h : VR β w (.agg cs) u) (hi : cs[i]? = some (.sc v)) (hy : VR β w y v) : VR β w (.agg (cs.set i y)) u := by
  obtain ⟨v', _, h2, _, h4⟩ := h.set_agg (y := y) hi
  obtain rfl := h2.sc_inv
  exact h4 hy
theorem Rel.unS (hr : Rel w0 β0 st β a w) {t g i : Nat} {u : Value} (h : Own.unS st t g i = some (u, st')) (hG : st.G g = u) : Rel w0 β0 st' β a w := by
  unfold Own.unS at h
  split at h
  · rename_i cs hv
    split at h
    · rename_i u' hi
      split at h
      · rename_i hq
        simp only [Option.some.injEq, Prod.mk.injEq] at h
        obtain ⟨rfl, rfl⟩ := h
        refine ⟨hr.nt, hr.df, fun n => ?_, hr.ob, hr.uq, hr.lt, hr.fr, hr.old, hr.hs, hr.os, hr.tape, hr.output⟩
        have hnt := hr.nt
        simp only [lk_put]
        split
        · rename_i e
          subst e
          have hvr := hr.tm t
          rw [hv] at hvr
          have hg := hr.tm g
          have : a.tmps.getD g (st.G g) = u' := by
            rw [Array.getD_eq_getD_getElem?, Array.getElem?_eq_none (by omega)]
            simpa using hG
          rw [this] at hg
          exact hvr.set_agg2 hi hg
        · exact hr.tm n
      · simp at h
    · simp at h
  · simp at h
theorem Rel.drop (hr : Rel w0 β0 st β a w) {g : Nat} {G0 : Nat → Value} {u : Value} (hG : st.G = updG G0 g u) : Rel w0 β0 { st with G := G0, tm := (g, .un) :: st.tm } β a w := by
  refine ⟨hr.nt, hr.df, fun n => ?_, hr.ob, hr.uq, hr.lt, hr.fr, hr.old, hr.hs, hr.os, hr.tape, hr.output⟩
  simp only [lk]
  split
  · exact .un _
  · rename_i e
    have := hr.tm n
    rw [hG] at this
    simpa [updG, show ¬ n = g from fun h => e h.symm] using this
def adoptC (st : St) (t i nid e k : Nat) : Option St :=
  match lk st.tm t with
  | .agg cs => match cs[i]? with
    | some (.sc (.slice none 0 0)) => if AV.hitsL (fun i _ => i == nid) cs = false ∧ t < st.nt ∧ 0 < k ∧ nid < DD then
        some { st with tm := putT (killT (fun i _ => i == nid) st.tm) t (.agg (cs.set i (.sl nid k [] 0 0))), ob := putO st.ob nid (e, k, []) } else none
    | _ => none
  | _ => none
theorem Rel.adoptC (hr : Rel w0 β0 st β a w) {t i nid e k : Nat} (h : Own.adoptC st t i nid e k = some st') : Rel w0 β0 st' (bare nid β) a w ∧ nid < DD := by
  unfold Own.adoptC at h
  split at h
  · rename_i cs hv
    split at h
    · rename_i hi
      split at h
      · rename_i hq
        obtain ⟨q1, q2, q3, q4⟩ := hq
        injection h with h
        subst h
        obtain ⟨g1, g2⟩ := hr.nilRoot nid e k q3
        refine ⟨⟨g1.nt, g1.df, fun n => ?_, g1.ob, g1.uq, g1.lt, g1.fr, g1.old, g1.hs, g1.os, g1.tape, g1.output⟩, q4⟩
        simp only [lk_put]
        split
        · rename_i e
          subst e
          have := g1.tm t
          dsimp only at this
          rw [lk_kill, hv] at this
          have hh : (AV.agg cs).hits (fun i _ => i == nid) = false := by simpa [AV.hits] using q1
          rw [hh] at this
          exact VR.set_agg2 this hi g2
        · exact g1.tm n
      · simp at h
    · simp at h
  · simp at h
section
variable [Laid]
def Gst (st st' : St) : Prop := ∀ w0 β0 β a w, RL w0 β0 st β a w → ∃ β', RL w0 β0 st' β' a w ∧ ∀ b x, β' b = some x → β b = some x
theorem Gst.un {t g i : Nat} {u : Value} (h : Own.unS st t g i = some (u, st')) (hG : st.G g = u) : Gst st st' := fun w0 β0 β a w hr => ⟨β, hr.sameB (hr.rel.unS h hG), fun _ _ h => h⟩
theorem Gst.adoptC {t i nid e k : Nat} (h : Own.adoptC st t i nid e k = some st') : Gst st st' := fun w0 β0 β a w hr => by
  obtain ⟨h1, h2⟩ := hr.rel.adoptC h
  refine ⟨_, hr.next h1 bare_fr (by simp only [below_cons, below_nil, Bool.and_true]; exact decide_eq_true h2), fun b x hb => ?_⟩
  simp only [bare] at hb
  split at hb
  · simp at hb
  · rename_i hp
    split at hb
    · simp at hb
    · rw [hp]; exact hb
theorem WPL.gst {ops : Array Oper} {l : List Oper} {Ψ : St → Prop} (h : Gst st st') (hk : WPL P ops l st' Ψ) : WPL P ops l st Ψ := fun w0 β0 β a w hr => by
  obtain ⟨β', h1, _⟩ := h w0 β0 β a w hr
  exact hk w0 β0 β' a w h1
theorem wpAnyF_anti {md : Region.Mode} {ops : Array Oper} {Q : Exit → Act → World → Prop} : ∀ (fuel : Nat) (listed : Array Bool) {Z Z2 : Nat → Nat → Prop} (a : Act) (w : World), (∀ e b, Z e b → Z2 e b) → wpAnyF P md ops Q fuel listed Z2 a w → wpAnyF P md ops Q fuel listed Z a w
  | 0, _, _, _, _, _, _, h => h
  | fuel + 1, _, Z, Z2, a, w, hz, h => ⟨h.1, fun i hi => wpOp_mono (fun a' w' h' => by
      obtain ⟨Z', h1, h2, h3⟩ := h'
      exact ⟨Z', fun b hb => h1 b (hz i b hb), fun e b h4 h5 => h2 e b (hz i b h4) (hz e b h5), h3⟩) (h.2 i hi)⟩
theorem WPS.gst {ops : Array Oper} {l : List (Nat × List Nat)} {Ψ : St → Prop} (h : Gst st st') (hk : WPS P ops l st' Ψ) : WPS P ops l st Ψ := fun te listed h1 h2 w0 β0 β a w hr => by
  obtain ⟨β', g1, g2⟩ := h w0 β0 β a w hr
  refine wpAnyF_anti _ _ a w ?_ (hk te listed h1 h2 w0 β0 β' a w g1)
  rintro e b ⟨q1, q2⟩
  exact ⟨q1, fun id p hb => q2 id p (g2 _ _ hb)⟩
theorem WPc.ghS {c : Code} {Φ : Exit → St → Prop} (t g i : Nat)
    (h : ∀ u : Value, u.oneCell' = true → ∀ K : St → Prop, (∀ s, WPc P c s Φ → K s) → ∃ s, Own.ghS st t g i u = some s ∧ K s) : WPc P c st Φ := by
  intro w0 β0 β a w hr
  have hs : ∀ u, ∃ s, Own.ghS st t g i u = some s := fun u => by
    cases hv : Own.ghS st t g i u with
    | some s => exact ⟨s, rfl⟩
    | none =>
      exfalso
      obtain ⟨s, hs, _⟩ := h (.bool true) rfl (fun s => WPc P c s Φ) fun _ h => h
      unfold Own.ghS at hv hs
      split at hv
      · rename_i cs hl
        simp only [hl] at hs
        split at hv
        · rename_i v hi
          simp only [hi] at hs
          split at hv
          · simp at hv
          · rename_i hq; rw [if_neg hq] at hs; simp at hs
        · rename_i hi; simp [hi] at hs
      · rename_i hl
        split at hs
        · rename_i cs hl2; exact hl cs hl2
        · simp at hs
  have hs2 : ∃ f : Value → St, ∀ u, Own.ghS st t g i u = some (f u) := ⟨fun u => (hs u).choose, fun u => (hs u).choose_spec⟩
  obtain ⟨f, hf⟩ := hs2
  obtain ⟨u, h1, h2⟩ := hr.rel.ghS hf
  obtain ⟨s, h3, h4⟩ := h u h1 (fun s => WPc P c s Φ) fun _ h => h
  rw [hf u] at h3
  injection h3 with h3
  rw [h3] at h2
  exact h4 w0 β0 β a w (hr.sameB h2)
theorem WPc.dropR {Φ : Exit → St → Prop} {g : Nat} {G0 : Nat → Value} {u : Value} (hG : st.G = updG G0 g u) (h : WPc P .ret { st with G := G0, tm := (g, .un) :: st.tm } Φ) : WPc P .ret st Φ :=
  fun w0 β0 β a w hr => h w0 β0 β a w (hr.sameB (hr.rel.drop hG))
theorem WPL.unAt {ops : Array Oper} {l : List Oper} {Ψ : St → Prop} (d t g i : Nat) (hd : dstOf l = some d)
    (h : ∀ K : St → Prop, (∀ s, WPL P ops l s Ψ → K s) → ∃ r : Value × St, Own.unS st t g i = some r ∧ st.G g = r.1 ∧ K r.2) : WPL P ops l st Ψ := by
  obtain ⟨⟨v, s⟩, h1, h2, h3⟩ := h (fun s => WPL P ops l s Ψ) fun _ h => h
  exact WPL.gst (Gst.un h1 h2) h3
theorem WPL.adAt {ops : Array Oper} {l : List Oper} {Ψ : St → Prop} (d t i nid e k : Nat) (hd : dstOf l = some d)
    (h : ∀ K : St → Prop, (∀ s, WPL P ops l s Ψ → K s) → ∃ s, Own.adoptC st t i nid e k = some s ∧ K s) : WPL P ops l st Ψ := by
  obtain ⟨s, h1, h2⟩ := h (fun s => WPL P ops l s Ψ) fun _ h => h
  exact WPL.gst (Gst.adoptC h1) h2
def dstS (ops : Array Oper) : List (Nat × List Nat) → Option Nat
  | [] => none
  | (k, _) :: _ => match ops[k]? with
    | some o => o.dst
    | none => none
def upToS (ops : Array Oper) (d : Nat) : List (Nat × List Nat) → Nat → Nat
  | [], _ => 0
  | (k, _) :: l, n => match ops[k]? with
    | some o => if o.dst = some d then n else if valOp o.op then upToS ops d l (n + 1) else 0
    | none => 0
theorem WPS.unAt {ops : Array Oper} {l : List (Nat × List Nat)} {Ψ : St → Prop} (d t g i : Nat) (hd : dstS ops l = some d)
    (h : ∀ K : St → Prop, (∀ s, WPS P ops l s Ψ → K s) → ∃ r : Value × St, Own.unS st t g i = some r ∧ st.G g = r.1 ∧ K r.2) : WPS P ops l st Ψ := by
  obtain ⟨⟨v, s⟩, h1, h2, h3⟩ := h (fun s => WPS P ops l s Ψ) fun _ h => h
  exact WPS.gst (Gst.un h1 h2) h3
theorem WPS.adAt {ops : Array Oper} {l : List (Nat × List Nat)} {Ψ : St → Prop} (d t i nid e k : Nat) (hd : dstS ops l = some d)
    (h : ∀ K : St → Prop, (∀ s, WPS P ops l s Ψ → K s) → ∃ s, Own.adoptC st t i nid e k = some s ∧ K s) : WPS P ops l st Ψ := by
  obtain ⟨s, h1, h2⟩ := h (fun s => WPS P ops l s Ψ) fun _ h => h
  exact WPS.gst (Gst.adoptC h1) h2
theorem WPS.rnTo (tok : TOk P tt) {ops : Array Oper} {l : List (Nat × List Nat)} {Ψ : St → Prop} (d m : Nat) (hm : upToS ops d l 0 = m + 1)
    (h : ∀ K : St → Prop, (∀ s, WPS P ops (l.drop (m + 1)) s Ψ → K s) → ∃ s, runS tt ops (l.take (m + 1)) st = some s ∧ K s) : WPS P ops l st Ψ := by
  obtain ⟨s, h1, h2⟩ := h (fun s => WPS P ops (l.drop (m + 1)) s Ψ) fun _ h => h
  exact WPS.run tok (m + 1) h1 h2
end
attribute [simp] putT ghS unS adoptC dstS upToS
end Go.Own
set_option maxRecDepth 1000000
set_option maxHeartbeats 4000000
namespace Go.Own
attribute [local irreducible] WPc WPL WPS HAny endP
variable [Laid]
open Go.Lib Go.RowKit
def Cl.avo (c : Cl) (i j : Nat) : AV := .agg [.sc (.int .i64 c.k), .sc (.string c.s), .sc (.int .i64 c.a), .sc (.int .i64 c.b), .sl i 1 [] 0 c.names.length, .sl j 3 [] 0 c.vals.length]
def allocH (h : List Cl) (c : Cl) : List Cl := if h.length < 300 then h ++ [c] else h
def allocV (h : List Cl) (k : Int) : V × Int := if h.length < 300 then (⟨k, h.length, zs⟩, 0) else (noV, 7)
def heapB (h : List Cl) : Root := (24, 1, [[.sl 88 6 (h.map Cl.ow)]])
theorem c_impl_alloc (h : List Cl) (k : Int) (c : Cl) (h1 : h.length ≤ 1000000000) : Con PP 91 [.ptr 0 1 [] 0 0, .sc (.int .i64 k), c.avo 1 2] [(0, heapB h), (1, 9, 1, c.names.map sC), (2, 29, 3, c.vals.map V.cs)] [0] (fun r o => r = .tup [(allocV h k).1.av, .sc (.int .i64 (allocV h k).2)] ∧ o = [(0, heapB (allocH h c))]) := by
  refine Con.of tok (nt := 29) Go.Proofs.Tryz.func91 (by kernel_rfl) rfl rfl rfl (Nat.le_of_ble_eq_true rfl) fun G => ?_
  simp only [entSt, tmOf, List.append_nil, List.cons_append, List.nil_append, Cl.avo, heapB]
  refine WPc.ghS 2 2133 4 fun u4 hu4 K hK => ?_
  simp -implicitDefEqProofs
  refine hK _ ?_; clear hK K
  refine WPc.ghS 2 2134 5 fun u5 hu5 K hK => ?_
  simp -implicitDefEqProofs
  refine hK _ ?_; clear hK K
  have hb1 : h.length * 88 ≤ 140737488355328 := by omega
  have hb2 : (h.length + 1) * 88 ≤ 140737488355328 := by omega
  have hb3 : h.length + 1 ≤ 9223372036854775807 := by omega
  repeat' (first
    | (refine WPS.unAt 19 18 2133 4 ?_ ?_; (focus (simp; done)); refine fun K hK => ?_; simp -implicitDefEqProofs +contextual [-Int.not_le, -Int.not_lt, -Nat.not_le, -Nat.not_lt, -List.all_eq_true, -List.all_eq_false, -List.any_eq_true, -List.any_eq_false, hu4, hu5, hb1, hb2, hb3]; (repeat1' (first | apply hK | apply And.intro | intro _)) <;> clear hK K)
    | (refine WPS.unAt 19 18 2134 5 ?_ ?_; (focus (simp; done)); refine fun K hK => ?_; simp -implicitDefEqProofs +contextual [-Int.not_le, -Int.not_lt, -Nat.not_le, -Nat.not_lt, -List.all_eq_true, -List.all_eq_false, -List.any_eq_true, -List.any_eq_false, hu4, hu5, hb1, hb2, hb3]; (repeat1' (first | apply hK | apply And.intro | intro _)) <;> clear hK K)
    | (refine WPc.dropR rfl ?_; dsimp only)
    | ((first | refine WPS.rnTo tok 19 _ (by simp; rfl) fun K hK => ?_ | refine WPc.rq tok rfl fun K hK => ?_ | refine WPS.rn tok _ (by simp [aheadS]; rfl) fun K hK => ?_); simp -implicitDefEqProofs +contextual [-Int.not_le, -Int.not_lt, -Nat.not_le, -Nat.not_lt, -List.all_eq_true, -List.all_eq_false, -List.any_eq_true, -List.any_eq_false, hu4, hu5, hb1, hb2, hb3]; (repeat1' (first | apply hK | apply And.intro | intro _)) <;> clear hK K <;> (try dsimp only [List.drop]))
    | apply WPc.sq
    | (refine WPc.ret (endP.own [(0, heapB (allocH h c))] (.inr rfl) rfl rfl (by simp; rfl) ?_ ?_ (by simp)))
    | apply WPc.skip
    | (refine WPc.sched (id := 3) tok [(5, [1, 2, 5, 19]), (6, [0, 19, 20]), (8, [0, 20])] [(0, [0, 1, 2, 5, 19, 20]), (1, [1, 2, 5, 19]), (2, [1, 2, 5, 19]), (3, [1, 2, 5, 19]), (4, []), (5, [1, 2, 5, 19]), (6, [0, 19, 20]), (7, []), (8, [0, 20])] (by kernel_rfl) ?_)
    | (refine WPS.nil ?_)
    | (refine WPS.eff tok fun K hK => ?_; simp -implicitDefEqProofs +contextual [-Int.not_le, -Int.not_lt, -Nat.not_le, -Nat.not_lt, -List.all_eq_true, -List.all_eq_false, -List.any_eq_true, -List.any_eq_false, hu4, hu5, hb1, hb2, hb3]; (repeat1' (first | apply hK | apply And.intro | intro _)) <;> clear hK K)
    | (refine WPc.cond (by simp [-Bool.not_eq_eq_eq_not]; rfl) (fun hq => ?_) (fun hq => ?_) <;> simp only [hq] <;> (try (exfalso; (simp only [decide_eq_true_eq, decide_eq_false_iff_not] at hq); omega))))
  · simp [heapB, allocH, show ¬ h.length < 300 by simp at hq; omega]
  · simp [heapB, allocH, allocV, show ¬ h.length < 300 by simp at hq; omega, noV, V.av]
  · have : h.length < 300 := by simp at hq; omega
    simp [heapB, allocH, this, Cl.ow]
  · have : h.length < 300 := by simp at hq; omega
    have e : IntKind.i64.wrap (h.length : Int) = h.length := wrap64 (by omega) (by omega)
    simp [heapB, allocH, allocV, this, e, V.av]
end Go.Own
set_option maxRecDepth 1000000
set_option maxHeartbeats 4000000
namespace Go.Own
attribute [local irreducible] WPc WPL WPS HAny endP
variable [Laid]
open Go.Lib Go.RowKit
def sCar : ByteArray := ⟨#[99, 97, 114]⟩
def sCdr : ByteArray := ⟨#[99, 100, 114]⟩
def sNull : ByteArray := ⟨#[110, 117, 108, 108, 63]⟩
def sPair : ByteArray := ⟨#[112, 97, 105, 114, 63]⟩
def sNot : ByteArray := ⟨#[110, 111, 116]⟩
def sEq : ByteArray := ⟨#[101, 113, 63]⟩
def sCons : ByteArray := ⟨#[99, 111, 110, 115]⟩
def consC (a : List V) : Cl := ⟨1, zs, 0, 0, [], a⟩
def primH (h : List Cl) (s : ByteArray) (a : List V) : List Cl := if s = sCons then allocH h (consC a) else h
def primV (h : List Cl) (s : ByteArray) (a b : V) : V × Int :=
  if s = sCar then partV h a 0 else if s = sCdr then partV h a 1 else if s = sNull then (boolV (decide (a.k = 3)), 0)
  else if s = sPair then (boolV (decide (a.k = 5)), 0) else if s = sNot then (boolV (!truth a), 0) else if s = sEq then (boolV (a.eqb b), 0)
  else if s = sCons then allocV h 5 else arithV s a b
def okPair (h : List Cl) (v : V) : Prop := v.k = 5 → 0 ≤ v.n ∧ ∃ hlt : v.n.toNat < h.length, 1 < h[v.n.toNat].vals.length
def uns : List ByteArray := [sCar, sCdr, sNull, sPair, sNot]
theorem dz_sC (l : List ByteArray) : dzLL (l.map sC) = l.map sC := by
  rw [dzLL_map, List.map_map]; rfl
theorem dz_V (l : List V) : dzLL (l.map V.cs) = l.map V.cs := by
  rw [dzLL_map, List.map_map]; rfl
@[simp] theorem dz_ow (h : List Cl) : dzLL (h.map Cl.ow) = h.map Cl.cs := by
  rw [dzLL_map, List.map_map]
  refine List.map_congr_left fun c _ => ?_
  simp [Cl.ow, Cl.cs, dzL, deepFz, dz_sC, dz_V]
@[simp] theorem dz_ow1 (h : List Cl) : dzLL (List.take h.length (h.map Cl.ow)) = h.map Cl.cs := by
  rw [List.take_of_length_le (by simp), dz_ow]
theorem part0 (h : List Cl) (v : V) (h1 : okPair h v) : Con PP 89 [.fz (h.map Cl.cs), v.av, .sc (.int .i64 0)] [] [] (fun r o => r = .tup [(partV h v 0).1.av, .sc (.int .i64 (partV h v 0).2)]) :=
  c_impl_part h v 0 fun hk => by obtain ⟨h0, hlt, h2⟩ := h1 hk; exact ⟨h0, hlt, by omega⟩
theorem part1 (h : List Cl) (v : V) (h1 : okPair h v) : Con PP 89 [.fz (h.map Cl.cs), v.av, .sc (.int .i64 1)] [] [] (fun r o => r = .tup [(partV h v 1).1.av, .sc (.int .i64 (partV h v 1).2)]) :=
  c_impl_part h v 1 fun hk => by obtain ⟨h0, hlt, h2⟩ := h1 hk; exact ⟨h0, hlt, by omega⟩
theorem c_impl_prim2 (h : List Cl) (s : ByteArray) (a : List V) (h1 : h.length ≤ 1000000000) (h2 : 1 < a.length) (h3 : a.length * 32 ≤ 140737488355328) (h4 : s = sCar ∨ s = sCdr → okPair h a[0]) : Con PP 49 [.ptr 0 1 [] 0 0, .sc (.string s), .fz (a.map V.cs)] [(0, heapB h)] [0] (fun r o => r = .tup [(primV h s a[0] a[1]).1.av, .sc (.int .i64 (primV h s a[0] a[1]).2)] ∧ o = [(0, heapB (primH h s a))]) := by
  have hA := c_impl_alloc h 5 (consC a) h1
  simp only [Cl.avo, consC, List.map_nil, List.length_nil] at hA
  have hP0 := fun hs : decide (s = sCar) = true => part0 h a[0] (h4 (.inl (by simpa using hs)))
  have hP1 := fun hs : decide (s = sCdr) = true => part1 h a[0] (h4 (.inr (by simpa using hs)))
  simp only [V.av] at hP0 hP1
  have h0 : 0 < a.length := by omega
  refine Con.of tok (nt := 74) Go.Proofs.Tryz.func49 (by kernel_rfl) rfl rfl rfl (Nat.le_of_ble_eq_true rfl) fun G => ?_
  simp only [entSt, tmOf, List.append_nil, List.cons_append, List.nil_append, heapB]
  repeat' (first
    | (refine WPL.adAt 63 62 4 900001 9 1 ?_ ?_; (focus (simp; done)); refine fun K hK => ?_; simp -implicitDefEqProofs +contextual [-Int.not_le, -Int.not_lt, -Nat.not_le, -Nat.not_lt, -List.all_eq_true, -List.all_eq_false, -List.any_eq_true, -List.any_eq_false, V.cs, V.av, h0, h2, boolV]; (repeat1' (first | apply hK | apply And.intro | intro _)) <;> clear hK K)
    | ((first | refine WPL.rnTo tok 63 _ (by simp [isFn]; rfl) fun K hK => ?_ | refine WPc.rq tok rfl fun K hK => ?_ | refine WPL.rn tok _ (by simp [ahead, isFn]; rfl) fun K hK => ?_ | refine WPS.rn tok _ (by simp [aheadS]; rfl) fun K hK => ?_); simp -implicitDefEqProofs +contextual [-Int.not_le, -Int.not_lt, -Nat.not_le, -Nat.not_lt, -List.all_eq_true, -List.all_eq_false, -List.any_eq_true, -List.any_eq_false, V.cs, V.av, h0, h2, boolV]; (repeat1' (first | apply hK | apply And.intro | intro _)) <;> clear hK K <;> (try dsimp only [List.drop]))
    | apply WPc.sq
    | apply WPc.block
    | (refine WPc.ret (endP.own [(0, heapB (primH h s a))] (.inr rfl) rfl rfl (by simp; rfl) ?_ ?_ (by simp)))
    | apply WPc.skip
    | refine WPL.nil ?_
    | (apply WPL.cL (c_impl_boolOf _); (case q => (repeat' (first | refine And.intro ?_ ?_ | intro _ | exact cleanOut_nil | (refine Eqv.mk ?_; first | rfl | (simp -implicitDefEqProofs [V.cs, V.av, h0, h2, boolV]; done)) | (simp -implicitDefEqProofs [V.cs, V.av, h0, h2, boolV]; done) | (simp -implicitDefEqProofs [V.cs, V.av, h0, h2, boolV]; rfl) | (simp; done) | (simp; rfl) | rfl))))
    | (apply WPL.cL (c_impl_Truth ⟨_, _, _⟩); (case q => (repeat' (first | refine And.intro ?_ ?_ | intro _ | exact cleanOut_nil | (refine Eqv.mk ?_; first | rfl | (simp -implicitDefEqProofs [V.cs, V.av, h0, h2, boolV]; done)) | (simp -implicitDefEqProofs [V.cs, V.av, h0, h2, boolV]; done) | (simp -implicitDefEqProofs [V.cs, V.av, h0, h2, boolV]; rfl) | (simp; done) | (simp; rfl) | rfl))))
    | (apply WPL.cU (c_slices_Clone_Value _ ?g1); (case q => (repeat' (first | refine And.intro ?_ ?_ | intro _ | exact cleanOut_nil | (refine Eqv.mk ?_; first | rfl | (simp -implicitDefEqProofs [V.cs, V.av, h0, h2, boolV]; done)) | (simp -implicitDefEqProofs [V.cs, V.av, h0, h2, boolV]; done) | (simp -implicitDefEqProofs [V.cs, V.av, h0, h2, boolV]; rfl) | (simp; done) | (simp; rfl) | rfl))); (case g1 => omega))
    | (apply WPL.cU hA; (case q => (repeat' (first | refine And.intro ?_ ?_ | intro _ | exact cleanOut_nil | (refine Eqv.mk ?_; first | rfl | (simp -implicitDefEqProofs [V.cs, V.av, h0, h2, boolV]; done)) | (simp -implicitDefEqProofs [V.cs, V.av, h0, h2, boolV]; done) | (simp -implicitDefEqProofs [V.cs, V.av, h0, h2, boolV]; rfl) | (simp; done) | (simp; rfl) | rfl))))
    | (apply WPS.cL (hc := (hP1 hq)); (case ho => exact rfl); (case q => (repeat' (first | refine And.intro ?_ ?_ | intro _ | exact cleanOut_nil | (refine Eqv.mk ?_; first | rfl | (simp -implicitDefEqProofs [V.cs, V.av, h0, h2, boolV]; done)) | (simp -implicitDefEqProofs [V.cs, V.av, h0, h2, boolV]; done) | (simp -implicitDefEqProofs [V.cs, V.av, h0, h2, boolV]; rfl) | (simp; done) | (simp; rfl) | rfl))))
    | (apply WPS.cL (hc := (hP0 hq)); (case ho => exact rfl); (case q => (repeat' (first | refine And.intro ?_ ?_ | intro _ | exact cleanOut_nil | (refine Eqv.mk ?_; first | rfl | (simp -implicitDefEqProofs [V.cs, V.av, h0, h2, boolV]; done)) | (simp -implicitDefEqProofs [V.cs, V.av, h0, h2, boolV]; done) | (simp -implicitDefEqProofs [V.cs, V.av, h0, h2, boolV]; rfl) | (simp; done) | (simp; rfl) | rfl))))
    | (apply WPS.cL (hc := (c_impl_boolOf _)); (case ho => exact rfl); (case q => (repeat' (first | refine And.intro ?_ ?_ | intro _ | exact cleanOut_nil | (refine Eqv.mk ?_; first | rfl | (simp -implicitDefEqProofs [V.cs, V.av, h0, h2, boolV]; done)) | (simp -implicitDefEqProofs [V.cs, V.av, h0, h2, boolV]; done) | (simp -implicitDefEqProofs [V.cs, V.av, h0, h2, boolV]; rfl) | (simp; done) | (simp; rfl) | rfl))))
    | (apply WPS.cL (hc := (c_impl_arith _ ⟨_, _, _⟩ ⟨_, _, _⟩)); (case ho => exact rfl); (case q => (repeat' (first | refine And.intro ?_ ?_ | intro _ | exact cleanOut_nil | (refine Eqv.mk ?_; first | rfl | (simp -implicitDefEqProofs [V.cs, V.av, h0, h2, boolV]; done)) | (simp -implicitDefEqProofs [V.cs, V.av, h0, h2, boolV]; done) | (simp -implicitDefEqProofs [V.cs, V.av, h0, h2, boolV]; rfl) | (simp; done) | (simp; rfl) | rfl))))
    | (refine WPc.sched (id := 4) tok [(7, [6, 19, 1019, 2019])] [(0, []), (1, []), (2, []), (3, []), (4, []), (5, []), (6, []), (7, [6, 19, 1019, 2019]), (8, [])] (by kernel_rfl) ?_)
    | (refine WPc.sched (id := 6) tok [(7, [6, 28, 1028, 2028])] [(0, []), (1, []), (2, []), (3, []), (4, []), (5, []), (6, []), (7, [6, 28, 1028, 2028]), (8, [])] (by kernel_rfl) ?_)
    | (refine WPc.sched (id := 14) tok [(6, [6, 56, 1056, 2056])] [(0, []), (1, []), (2, []), (3, []), (4, []), (5, []), (6, [6, 56, 1056, 2056]), (7, [])] (by kernel_rfl) ?_)
    | (refine WPc.sched (id := 17) tok [(8, [6, 71, 1071, 2071])] [(0, []), (1, []), (2, []), (3, []), (4, []), (5, []), (6, []), (7, []), (8, [6, 71, 1071, 2071]), (9, [])] (by kernel_rfl) ?_)
    | (refine WPS.nil ?_)
    | (refine WPS.eff tok fun K hK => ?_; simp -implicitDefEqProofs +contextual [-Int.not_le, -Int.not_lt, -Nat.not_le, -Nat.not_lt, -List.all_eq_true, -List.all_eq_false, -List.any_eq_true, -List.any_eq_false, V.cs, V.av, h0, h2, boolV]; (repeat1' (first | apply hK | apply And.intro | intro _)) <;> clear hK K)
    | (refine WPc.region ?_; simp only [List.toList_toArray])
    | (refine WPc.cond (by simp [-Bool.not_eq_eq_eq_not]; rfl) (fun hq => ?_) (fun hq => ?_) <;> simp only [hq] <;> (try (exfalso; (simp only [decide_eq_true_eq, decide_eq_false_iff_not] at hq); omega))))
  all_goals (clear hA hP0 hP1 h4; simp_all [heapB, primH, primV, sCar, sCdr, sNull, sPair, sNot, sEq, sCons, V.av, consC, boolV])
theorem c_impl_prim1 (h : List Cl) (s : ByteArray) (a : List V) (h1 : h.length ≤ 1000000000) (h0 : 0 < a.length) (hs : s ∈ uns) (h4 : s = sCar ∨ s = sCdr → okPair h a[0]) : Con PP 49 [.ptr 0 1 [] 0 0, .sc (.string s), .fz (a.map V.cs)] [(0, heapB h)] [0] (fun r o => r = .tup [(primV h s a[0] noV).1.av, .sc (.int .i64 (primV h s a[0] noV).2)] ∧ o = [(0, heapB (primH h s a))]) := by
  simp only [uns, List.mem_cons, List.not_mem_nil, or_false] at hs
  rcases hs with rfl | rfl | rfl | rfl | rfl
  · have hP0 := part0 h a[0] (h4 (.inl rfl))
    simp only [V.av] at hP0
    refine Con.of tok (nt := 74) Go.Proofs.Tryz.func49 (by kernel_rfl) rfl rfl rfl (Nat.le_of_ble_eq_true rfl) fun G => ?_
    simp only [entSt, tmOf, List.append_nil, List.cons_append, List.nil_append, heapB, sCar]
    repeat' (first
      | apply WPc.sq
      | apply WPc.block
      | (refine WPc.ret (endP.own [(0, heapB (primH h sCar a))] (.inr rfl) rfl rfl (by simp; rfl) ?_ ?_ (by simp)))
      | (apply WPS.cL (hc := hP0); (case ho => exact rfl); (case q => (repeat' (first | refine And.intro ?_ ?_ | intro _ | exact cleanOut_nil | (refine Eqv.mk ?_; first | rfl | (simp -implicitDefEqProofs [V.cs, V.av, h0, boolV]; done)) | (simp -implicitDefEqProofs [V.cs, V.av, h0, boolV]; done) | (simp -implicitDefEqProofs [V.cs, V.av, h0, boolV]; rfl) | (simp; done) | (simp; rfl) | rfl))))
      | ((first | refine WPc.rq tok rfl fun K hK => ?_ | refine WPS.rn tok _ (by simp [aheadS]; rfl) fun K hK => ?_); simp -implicitDefEqProofs +contextual [-Int.not_le, -Int.not_lt, -Nat.not_le, -Nat.not_lt, -List.all_eq_true, -List.all_eq_false, -List.any_eq_true, -List.any_eq_false, V.cs, V.av, h0, boolV]; (repeat1' (first | apply hK | apply And.intro | intro _)) <;> clear hK K <;> (try dsimp only [List.drop]))
      | (refine WPc.sched (id := 4) tok [(7, [6, 19, 1019, 2019])] [(0, []), (1, []), (2, []), (3, []), (4, []), (5, []), (6, []), (7, [6, 19, 1019, 2019]), (8, [])] (by kernel_rfl) ?_)
      | (refine WPS.nil ?_)
      | (refine WPS.eff tok fun K hK => ?_; simp -implicitDefEqProofs +contextual [-Int.not_le, -Int.not_lt, -Nat.not_le, -Nat.not_lt, -List.all_eq_true, -List.all_eq_false, -List.any_eq_true, -List.any_eq_false, V.cs, V.av, h0, boolV]; (repeat1' (first | apply hK | apply And.intro | intro _)) <;> clear hK K)
      | (refine WPc.condT ?_ ?_; (focus (simp; done))))
    all_goals (clear hP0 h4; simp_all [heapB, primH, primV, sCar, sCdr, sNull, sPair, sNot, sEq, sCons, V.av, consC, boolV])
  · have hP1 := part1 h a[0] (h4 (.inr rfl))
    simp only [V.av] at hP1
    refine Con.of tok (nt := 74) Go.Proofs.Tryz.func49 (by kernel_rfl) rfl rfl rfl (Nat.le_of_ble_eq_true rfl) fun G => ?_
    simp only [entSt, tmOf, List.append_nil, List.cons_append, List.nil_append, heapB, sCdr]
    repeat' (first
      | apply WPc.sq
      | apply WPc.block
      | (refine WPc.ret (endP.own [(0, heapB (primH h sCdr a))] (.inr rfl) rfl rfl (by simp; rfl) ?_ ?_ (by simp)))
      | (apply WPS.cL (hc := hP1); (case ho => exact rfl); (case q => (repeat' (first | refine And.intro ?_ ?_ | intro _ | exact cleanOut_nil | (refine Eqv.mk ?_; first | rfl | (simp -implicitDefEqProofs [V.cs, V.av, h0, boolV]; done)) | (simp -implicitDefEqProofs [V.cs, V.av, h0, boolV]; done) | (simp -implicitDefEqProofs [V.cs, V.av, h0, boolV]; rfl) | (simp; done) | (simp; rfl) | rfl))))
      | ((first | refine WPc.rq tok rfl fun K hK => ?_ | refine WPS.rn tok _ (by simp [aheadS]; rfl) fun K hK => ?_); simp -implicitDefEqProofs +contextual [-Int.not_le, -Int.not_lt, -Nat.not_le, -Nat.not_lt, -List.all_eq_true, -List.all_eq_false, -List.any_eq_true, -List.any_eq_false, V.cs, V.av, h0, boolV]; (repeat1' (first | apply hK | apply And.intro | intro _)) <;> clear hK K <;> (try dsimp only [List.drop]))
      | (refine WPc.sched (id := 6) tok [(7, [6, 28, 1028, 2028])] [(0, []), (1, []), (2, []), (3, []), (4, []), (5, []), (6, []), (7, [6, 28, 1028, 2028]), (8, [])] (by kernel_rfl) ?_)
      | (refine WPS.nil ?_)
      | (refine WPS.eff tok fun K hK => ?_; simp -implicitDefEqProofs +contextual [-Int.not_le, -Int.not_lt, -Nat.not_le, -Nat.not_lt, -List.all_eq_true, -List.all_eq_false, -List.any_eq_true, -List.any_eq_false, V.cs, V.av, h0, boolV]; (repeat1' (first | apply hK | apply And.intro | intro _)) <;> clear hK K)
      | (refine WPc.condT ?_ ?_; (focus (simp; done)))
      | (refine WPc.condF ?_ ?_; (focus (simp; done))))
    all_goals (clear hP1 h4; simp_all [heapB, primH, primV, sCar, sCdr, sNull, sPair, sNot, sEq, sCons, V.av, consC, boolV])
  · refine Con.of tok (nt := 74) Go.Proofs.Tryz.func49 (by kernel_rfl) rfl rfl rfl (Nat.le_of_ble_eq_true rfl) fun G => ?_
    simp only [entSt, tmOf, List.append_nil, List.cons_append, List.nil_append, heapB, sNull]
    repeat' (first
      | apply WPc.sq
      | apply WPc.block
      | (refine WPc.ret (endP.own [(0, heapB (primH h sNull a))] (.inr rfl) rfl rfl (by simp; rfl) ?_ ?_ (by simp)))
      | refine WPL.nil ?_
      | (apply WPL.cL (c_impl_boolOf _); (case q => (repeat' (first | refine And.intro ?_ ?_ | intro _ | exact cleanOut_nil | (refine Eqv.mk ?_; first | rfl | (simp -implicitDefEqProofs [V.cs, V.av, h0, boolV]; done)) | (simp -implicitDefEqProofs [V.cs, V.av, h0, boolV]; done) | (simp -implicitDefEqProofs [V.cs, V.av, h0, boolV]; rfl) | (simp; done) | (simp; rfl) | rfl))))
      | ((first | refine WPc.rq tok rfl fun K hK => ?_ | refine WPL.rn tok _ (by simp [ahead, isFn]; rfl) fun K hK => ?_); simp -implicitDefEqProofs +contextual [-Int.not_le, -Int.not_lt, -Nat.not_le, -Nat.not_lt, -List.all_eq_true, -List.all_eq_false, -List.any_eq_true, -List.any_eq_false, V.cs, V.av, h0, boolV]; (repeat1' (first | apply hK | apply And.intro | intro _)) <;> clear hK K <;> (try dsimp only [List.drop]))
      | (refine WPc.region ?_; simp only [List.toList_toArray])
      | (refine WPc.condT ?_ ?_; (focus (simp; done)))
      | (refine WPc.condF ?_ ?_; (focus (simp; done))))
    all_goals (clear h4; simp_all [heapB, primH, primV, sCar, sCdr, sNull, sPair, sNot, sEq, sCons, V.av, consC, boolV])
  · refine Con.of tok (nt := 74) Go.Proofs.Tryz.func49 (by kernel_rfl) rfl rfl rfl (Nat.le_of_ble_eq_true rfl) fun G => ?_
    simp only [entSt, tmOf, List.append_nil, List.cons_append, List.nil_append, heapB, sPair]
    repeat' (first
      | apply WPc.sq
      | apply WPc.block
      | (refine WPc.ret (endP.own [(0, heapB (primH h sPair a))] (.inr rfl) rfl rfl (by simp; rfl) ?_ ?_ (by simp)))
      | refine WPL.nil ?_
      | (apply WPL.cL (c_impl_boolOf _); (case q => (repeat' (first | refine And.intro ?_ ?_ | intro _ | exact cleanOut_nil | (refine Eqv.mk ?_; first | rfl | (simp -implicitDefEqProofs [V.cs, V.av, h0, boolV]; done)) | (simp -implicitDefEqProofs [V.cs, V.av, h0, boolV]; done) | (simp -implicitDefEqProofs [V.cs, V.av, h0, boolV]; rfl) | (simp; done) | (simp; rfl) | rfl))))
      | ((first | refine WPc.rq tok rfl fun K hK => ?_ | refine WPL.rn tok _ (by simp [ahead, isFn]; rfl) fun K hK => ?_); simp -implicitDefEqProofs +contextual [-Int.not_le, -Int.not_lt, -Nat.not_le, -Nat.not_lt, -List.all_eq_true, -List.all_eq_false, -List.any_eq_true, -List.any_eq_false, V.cs, V.av, h0, boolV]; (repeat1' (first | apply hK | apply And.intro | intro _)) <;> clear hK K <;> (try dsimp only [List.drop]))
      | (refine WPc.region ?_; simp only [List.toList_toArray])
      | (refine WPc.condT ?_ ?_; (focus (simp; done)))
      | (refine WPc.condF ?_ ?_; (focus (simp; done))))
    all_goals (clear h4; simp_all [heapB, primH, primV, sCar, sCdr, sNull, sPair, sNot, sEq, sCons, V.av, consC, boolV])
  · refine Con.of tok (nt := 74) Go.Proofs.Tryz.func49 (by kernel_rfl) rfl rfl rfl (Nat.le_of_ble_eq_true rfl) fun G => ?_
    simp only [entSt, tmOf, List.append_nil, List.cons_append, List.nil_append, heapB, sNot]
    repeat' (first
      | apply WPc.sq
      | apply WPc.block
      | (refine WPc.ret (endP.own [(0, heapB (primH h sNot a))] (.inr rfl) rfl rfl (by simp; rfl) ?_ ?_ (by simp)))
      | refine WPL.nil ?_
      | (apply WPL.cL (c_impl_boolOf _); (case q => (repeat' (first | refine And.intro ?_ ?_ | intro _ | exact cleanOut_nil | (refine Eqv.mk ?_; first | rfl | (simp -implicitDefEqProofs [V.cs, V.av, h0, boolV]; done)) | (simp -implicitDefEqProofs [V.cs, V.av, h0, boolV]; done) | (simp -implicitDefEqProofs [V.cs, V.av, h0, boolV]; rfl) | (simp; done) | (simp; rfl) | rfl))))
      | (apply WPL.cL (c_impl_Truth ⟨_, _, _⟩); (case q => (repeat' (first | refine And.intro ?_ ?_ | intro _ | exact cleanOut_nil | (refine Eqv.mk ?_; first | rfl | (simp -implicitDefEqProofs [V.cs, V.av, h0, boolV]; done)) | (simp -implicitDefEqProofs [V.cs, V.av, h0, boolV]; done) | (simp -implicitDefEqProofs [V.cs, V.av, h0, boolV]; rfl) | (simp; done) | (simp; rfl) | rfl))))
      | ((first | refine WPc.rq tok rfl fun K hK => ?_ | refine WPL.rn tok _ (by simp [ahead, isFn]; rfl) fun K hK => ?_); simp -implicitDefEqProofs +contextual [-Int.not_le, -Int.not_lt, -Nat.not_le, -Nat.not_lt, -List.all_eq_true, -List.all_eq_false, -List.any_eq_true, -List.any_eq_false, V.cs, V.av, h0, boolV]; (repeat1' (first | apply hK | apply And.intro | intro _)) <;> clear hK K <;> (try dsimp only [List.drop]))
      | (refine WPc.region ?_; simp only [List.toList_toArray])
      | (refine WPc.condT ?_ ?_; (focus (simp; done)))
      | (refine WPc.condF ?_ ?_; (focus (simp; done))))
    all_goals (clear h4; simp_all [heapB, primH, primV, sCar, sCdr, sNull, sPair, sNot, sEq, sCons, V.av, consC, boolV])
end Go.Own
namespace Go.Own
variable {P : Program} {tt : Nat → Option TI} {w0 : World} {β0 : Blk} {st st' : St} {β : Blk} {a : Act} {w w' : World} {o : Oper} {T T' : List Nat} [Laid]
variable {ops : Array Oper} {l l1 l2 : List (Nat × List Nat)} {Ψ Ψ' : St → Prop} {k i j : Nat}
def schedF2 (te : List (Nat × List Nat)) (ops : Array Oper) (l1 l2 : List (Nat × List Nat)) : Array Bool → List (Nat × List Nat) → Bool
  | listed, [] => (match l1, l2 with
    | (i, T1) :: r1, (j, T2) :: r2 => (Region.ready .any ops listed == [i, j]) && (r1.length == r2.length) && subB T1 (teOf te i) && subB T2 (teOf te j) && schedF te ops (listed.setIfInBounds i true) r1 && schedF te ops (listed.setIfInBounds j true) r2
    | _, _ => false)
  | listed, (k, T) :: r => (match ops[k]? with
    | some o => valOp o.op && takeF te ops listed k T
    | none => false) && schedF2 te ops l1 l2 (listed.setIfInBounds k true) r
def WPS2 (P : Program) (ops : Array Oper) (p l1 l2 : List (Nat × List Nat)) (st : St) (Ψ : St → Prop) : Prop :=
  ∀ te listed, Region.noSelect ops = true → schedF2 te ops l1 l2 listed p = true → HAnyF P ops (teOf te) (p.length + l1.length) listed st Ψ
def WPS1 (P : Program) (ops : Array Oper) (l : List (Nat × List Nat)) (st : St) (Ψ : St → Prop) : Prop :=
  match l with
  | [] => False
  | (k, T) :: l => ∀ te (listed : Array Bool), Region.noSelect ops = true → subB T (teOf te k) = true → schedF te ops (listed.setIfInBounds k true) l = true → ∀ w0 β0 β a w, RL w0 β0 st β a w →
      wpOp P ops (post (norm Ψ) w0 β0) k (fun a' w' => ∃ Z' : Nat → Nat → Prop, (∀ b, ZZ (teOf te k) β w b → w'.heap[b]? = w.heap[b]?) ∧ (∀ e b, ZZ (teOf te k) β w b → ZZ (teOf te e) β w b → Z' e b) ∧
        wpAnyF P .any ops (post (norm Ψ) w0 β0) l.length (listed.setIfInBounds k true) Z' a' w') a w
theorem WPS1.stp (ho : ops[k]? = some o) (hw : wantA ops st o = some true) (h : Stp P o st T' Ψ') (hT : subB T' T = true) (hk : ∀ s, Ψ' s → WPS P ops l s Ψ) : WPS1 P ops ((k, T) :: l) st Ψ := by
  intro te listed hs hTe hB' w0 β0 β a w hrl
  unfold wpOp
  simp only [ho, want_of hrl.rel hw, if_true]
  refine .inl (Oper.wp_mono ?_ (h w0 β0 β a w hrl _))
  rintro a' w' ⟨st', β', h1, h2, h3, h4⟩
  have hsub : ∀ x, x ∈ T' → x ∈ teOf te k := fun x hx => by
    have := List.all_eq_true.1 hT x hx
    have := List.all_eq_true.1 hTe x (by simpa using this)
    simpa using this
  have h3T : Fr T' β w β' w' := h3
  refine ⟨fun e => ZZ (teOf te e) β' w', fun b hb => (h3T.to b hb.1 fun id p e hm => hb.2 id p e (hsub _ hm)).2, fun e b hi hb => ?_, hk st' h1 te _ hs hB' w0 β0 β' a' w' h2⟩
  have := (h3T.to b hb.1 fun id p e hm => hi.2 id p e (hsub _ hm)).1
  exact ⟨Nat.lt_of_lt_of_le hb.1 h4, fun id p e => hb.2 id p (this ▸ e)⟩
theorem WPS2.fork (h1 : WPS1 P ops l1 st Ψ) (h2 : WPS1 P ops l2 st Ψ) : WPS2 P ops [] l1 l2 st Ψ := by
  intro te listed hs hB
  unfold schedF2 at hB
  split at hB
  · rename_i i T1 r1 j T2 r2
    simp only [Bool.and_eq_true, beq_iff_eq] at hB
    obtain ⟨⟨⟨⟨⟨b1, b2⟩, b3⟩, b4⟩, b5⟩, b6⟩ := hB
    intro w0 β0 β a w hrl
    simp only [List.length_nil, Nat.zero_add, List.length_cons]
    refine ⟨fun h0 => (by rw [b1] at h0; cases h0), fun k hk => ?_⟩
    rw [b1] at hk
    simp only [List.mem_cons, List.not_mem_nil, or_false] at hk
    rcases hk with rfl | rfl
    · exact h1 te listed hs b3 b5 w0 β0 β a w hrl
    · have := h2 te listed hs b4 b6 w0 β0 β a w hrl
      rw [← b2] at this
      exact this
  · simp at hB
theorem WPS2.take (ho : ops[k]? = some o) (hd : dstOk st o = true) {v : AV} {p : List (Nat × List Nat)} (hv : (wantA ops st o = some true ∧ Val P o st v T) ∨ (wantA ops st o = some false ∧ v = .sc undef))
    (hk : WPS2 P ops p l1 l2 (putSt st o.dst v) Ψ) : WPS2 P ops ((k, T) :: p) l1 l2 st Ψ := by
  intro te listed hs hB
  simp only [schedF2, ho, Bool.and_eq_true] at hB
  obtain ⟨⟨_, hB⟩, hB'⟩ := hB
  have hk := hk te _ hs hB'
  intro w0 β0 β a w hr
  simp only [takeF, Bool.and_eq_true] at hB
  obtain ⟨⟨⟨k2, k3⟩, k4⟩, k5⟩ := hB
  have hR : ∀ j, (ops[j]?).isSome = true → j ≠ k → j ∉ aft ops listed k → listed.getD j true = false → ∀ b, ZZ T β w b → ZZ (teOf te j) β w b := fun j hjs hj hjB hun b hb => by
    by_cases hlt : j < ops.size
    · have := List.all_eq_true.1 k5 j (List.mem_range.2 hlt)
      rw [hun] at this
      simp only [Bool.or_false, Bool.or_eq_true, beq_iff_eq, List.contains_eq_mem, decide_eq_true_eq] at this
      rcases this with (h | h) | h
      · exact absurd h hj
      · exact absurd h hjB
      · exact ⟨hb.1, fun id p e hm => hb.2 id p e (by simpa using List.all_eq_true.1 h _ hm)⟩
    · simp [Array.getElem?_eq_none (Nat.le_of_not_lt hlt)] at hjs
  have hQ : ∀ (u : Value) c a' w', post (norm Ψ) w0 β0 (.panic c) (a'.put o.dst u) w' → post (norm Ψ) w0 β0 (.panic c) a' w' := by
    rintro u c a' w' ⟨s, β', ⟨h, _⟩, _⟩
    cases h
  have hlen : ((k, T) :: p).length + l1.length = (p.length + l1.length) + 1 := by simp only [List.length_cons]; omega
  rw [hlen]
  rcases hv with ⟨hw, hval⟩ | ⟨hw, rfl⟩
  · obtain ⟨u, hu, hvr⟩ := hval β a w hr.rel.ev hr.rel.uq hr.rel.ob
    exact wpAnyF_first ho (Region.noSelect_spec hs) (hQ u) _ (ZZ T β w) _ listed _ a w (Region.free_spec ho k2) (okB_spec k4) hR (by simpa using k3)
      (.inl ⟨want_of hr.rel hw, fun w2 hz => hu w2 fun b hb hq => hz b ⟨hb, hq⟩⟩) (hk w0 β0 β _ w (hr.put (dst_lt hd) hvr))
  · exact wpAnyF_first (v := undef) ho (Region.noSelect_spec hs) (hQ undef) _ (ZZ T β w) _ listed _ a w (Region.free_spec ho k2) (okB_spec k4) hR (by simpa using k3)
      (.inr ⟨want_of hr.rel hw, rfl⟩) (hk w0 β0 β _ w (hr.put (dst_lt hd) (.sc _)))
theorem WPS2.step (tok : TOk P tt) {p : List (Nat × List Nat)} (h : stepS tt ops st T ops[k]? = some st') (hk : WPS2 P ops p l1 l2 st' Ψ) : WPS2 P ops ((k, T) :: p) l1 l2 st Ψ := by
  unfold stepS at h
  split at h
  · rename_i o ho
    split at h
    · rename_i hc
      obtain ⟨c1, c2⟩ := hc
      simp only [runL, Option.bind_eq_some_iff] at h
      obtain ⟨s1, h1, h2⟩ := h
      injection h2 with h2
      subst h2
      have cV : isV o.op = true := by simp only [valOp, Bool.and_eq_true] at c1; exact c1.1
      unfold stepO at h1
      split at h1
      · rename_i hw
        split at h1
        · rename_i hd
          simp only [Option.bind_eq_some_iff] at h1
          obtain ⟨⟨v, st2, T2⟩, e1, e2⟩ := h1
          obtain ⟨rfl, hval⟩ := valT tok cV c2 e1
          unfold fin at e2
          split at e2
          · injection e2 with e2
            subst e2
            exact WPS2.take ho hd (.inl ⟨hw, hval⟩) hk
          · simp at e2
        · simp at h1
      · rename_i hw
        split at h1
        · rename_i hd
          injection h1 with h1
          subst h1
          exact WPS2.take ho hd (.inr ⟨hw, rfl⟩) hk
        · simp at h1
      · simp at h1
    · simp at h
  · simp at h
theorem WPS2.run (tok : TOk P tt) : ∀ {p : List (Nat × List Nat)} {st st' : St} (_ : runS tt ops p st = some st') (_ : WPS2 P ops [] l1 l2 st' Ψ), WPS2 P ops p l1 l2 st Ψ
  | [], st, st', h, hk => by
    simp only [runS, Option.some.injEq] at h
    exact h ▸ hk
  | (k, T) :: l, st, st', h, hk => by
    simp only [runS, Option.bind_eq_some_iff] at h
    obtain ⟨s1, h1, h2⟩ := h
    exact WPS2.step tok h1 (WPS2.run tok h2 hk)
theorem WPc.sched2 (tok : TOk P tt) {id : Nat} {ops : Array Oper} {Φ : Exit → St → Prop} (te p l1 l2 : List (Nat × List Nat)) (hn : (Region.noSelect ops && schedF2 te ops l1 l2 (Array.replicate ops.size false) p && (p.length + l1.length == ops.size)) = true)
    (h : ∀ K : St → Prop, (∀ s, WPS1 P ops l1 s (Φ .normal) → WPS1 P ops l2 s (Φ .normal) → K s) → ∃ s, runS tt ops p st = some s ∧ K s) : WPc P (.region id ops true) st Φ := by
  simp only [Bool.and_eq_true, beq_iff_eq] at hn
  obtain ⟨⟨h1, h2⟩, h3⟩ := hn
  obtain ⟨s, g1, g2, g3⟩ := h (fun s => WPS1 P ops l1 s (Φ .normal) ∧ WPS1 P ops l2 s (Φ .normal)) fun _ h h' => ⟨h, h'⟩
  have := WPS2.run tok g1 (WPS2.fork g2 g3) te _ h1 h2
  rw [h3] at this
  exact WPc.drawF tok _ this
theorem WPS1.eff (tok : TOk P tt) (h : ∀ K : St → Prop, (∀ s, WPS P ops l s Ψ → K s) → ∃ s, effS tt ops st T ops[k]? = some s ∧ K s) : WPS1 P ops ((k, T) :: l) st Ψ := by
  obtain ⟨s, h1, h2⟩ := h (fun s => WPS P ops l s Ψ) fun _ h => h
  unfold effS at h1
  split at h1
  · rename_i o ho
    split at h1
    · rename_i hc
      obtain ⟨c1, c2, c3⟩ := hc
      simp only [Option.bind_eq_some_iff] at h1
      obtain ⟨⟨v, st2, T2⟩, e1, e2⟩ := h1
      unfold finS at e2
      split at e2
      · rename_i hT
        injection e2 with e2
        subst e2
        exact WPS1.stp ho c2 (Stp.step tok c3 e1 hT.2) hT.1 (fun s hs => hs ▸ h2)
      · simp at e2
    · simp at h1
  · simp at h1
theorem WPS1.callL {f d : Nat} {ins ins0 : List AV} {res : AV} {args : Array Operand} {tys : Array TypeId} {ty : TypeId} {pos : String} {af : Array Edge} {g : Option (Nat × Bool)} {lent : List Nat}
    (ho : ops[k]? = some { dst := some d, op := .call { callee := .value (.func f), args := args, argTypes := tys }, type := ty, pos := pos, after := af, guard := g })
    (hc : Con P f ins [] [] (fun r _ => r = res)) (hg : wantA ops st { dst := some d, op := .call { callee := .value (.func f), args := args, argTypes := tys }, type := ty, pos := pos, after := af, guard := g } = some true)
    (hd : d < st.nt) (hl : lentOf st args.toList = lent) (hb : below lent = true) (hins : insA st [] lent args.toList = some ins0) (he : ins0 = ins)
    (hz : lent = [] ∨ nzT res = true) (hk : WPS P ops l (putSt st (some d) (rnT [] res)) Ψ) : WPS1 P ops ((k, T) :: l) st Ψ :=
  WPS1.stp ho hg (Stp.call0 hc rfl hb (he ▸ hins) (by simpa using hd) (fun _ _ h => h ▸ hz)) (by simp [subB]) fun s ⟨r, o, h1, h2⟩ => by subst h1; exact h2 ▸ hk
def renS (st : St) (id nid : Nat) : Option St := match lo st.ob id with
  | some r => if nid ≠ id ∧ id < DD ∧ nid < DD then some { st with tm := renT id nid [] st.tm, ob := putO (delO st.ob id) nid r } else none
  | none => none
theorem Rel.renS (hr : Rel w0 β0 st β a w) {id nid : Nat} (h : Own.renS st id nid = some st') : ∃ β', Rel w0 β0 st' β' a w ∧ Fr [id, nid] β w β' w ∧ id < DD ∧ nid < DD := by
  unfold Own.renS at h
  split at h
  · rename_i r hlo
    split at h
    · rename_i hq
      obtain ⟨q1, q2, q3⟩ := hq
      injection h with h
      subst h
      have fz : ∀ b', β b' = none → b' < w.heap.size → parted id [] nid β b' = none ∧ w.heap[b']? = w.heap[b']? := fun b' h0 _ => ⟨by simp [parted, h0], rfl⟩
      have un : ∀ p : Pth, under [] p = true := fun p => under_iff.2 ⟨p, rfl⟩
      have inv := @parted_inv β id nid []
      have hch := hr.change (fun i _ => i == nid || i == id) (putO (delO st.ob id) nid r) (parted id [] nid β) w fz (Nat.le_refl _) ?_ ?_ ?_ ?_ ?_ ?_ rfl rfl rfl
      · refine ⟨_, ⟨hch.nt, hch.df, fun t => ?_, hch.ob, hch.uq, hch.lt, hch.fr, hch.old, hch.hs, hch.os, hch.tape, hch.output⟩, parted_fr, q2, q3⟩
        dsimp only
        rw [lk_renT]
        exact (hr.tm t).parted q1
      · intro id' p b' hq hb'
        simp only [Bool.or_eq_false_iff, beq_eq_false_iff_ne] at hq
        exact ⟨by simp [parted, hb', hq.1, hq.2], fun cur t hc => ⟨cur, hc, rfl⟩⟩
      · intro id' p b' hq hb'
        simp only [Bool.or_eq_false_iff, beq_eq_false_iff_ne] at hq
        rcases inv hb' with ⟨g, _⟩ | ⟨_, g, _⟩
        · exact absurd g hq.1
        · exact g
      · intro id' e' k' es' hl
        rw [lo_put] at hl
        by_cases hid : nid = id'
        · subst hid
          rw [if_pos rfl] at hl
          injection hl with hl
          subst hl
          have hm : Moves β (parted id [] nid β) w w id [] nid [] := ⟨fz, fun b s hb => ⟨by simp [parted, hb, un, show ¬ id = nid from fun e => q1 e.symm], rfl⟩, fun b s hb => by
            rcases inv hb with ⟨_, g⟩ | ⟨g, _⟩
            · simpa using g
            · exact absurd rfl g⟩
          have := hm.sub (s := []) (by simpa using hr.ob id _ _ _ hlo)
          simpa using this
        · rw [if_neg hid, lo_del] at hl
          by_cases hid2 : id = id'
          · rw [if_pos hid2] at hl; simp at hl
          · rw [if_neg hid2] at hl
            have hm : Moves β (parted id [] nid β) w w id' [] id' [] := ⟨fz, fun b s hb => ⟨by simp [parted, hb, show ¬ id' = nid from fun e => hid e.symm, show ¬ id' = id from fun e => hid2 e.symm], rfl⟩, fun b s hb => by
              rcases inv hb with ⟨g, _⟩ | ⟨_, g, _⟩
              · exact absurd g.symm hid
              · exact g⟩
            have := hm.sub (s := []) (by simpa using hr.ob id' _ _ _ hl)
            simpa using this
      · intro b1 b2 x h1 h2
        obtain ⟨i0, s⟩ := x
        rcases inv h1 with ⟨g1, g2⟩ | ⟨g1, g2, _⟩ <;> rcases inv h2 with ⟨g3, g4⟩ | ⟨g3, g4, _⟩
        · exact hr.uq b1 b2 _ g2 g4
        · exact absurd g1 g3
        · exact absurd g3 g1
        · exact hr.uq b1 b2 _ g2 g4
      · intro b' x hb'
        obtain ⟨i0, s⟩ := x
        rcases inv hb' with ⟨_, g⟩ | ⟨_, g, _⟩ <;> exact hr.lt b' _ g
      · intro b' x hb' _ h0
        simp [parted, h0] at hb'
    · simp at h
  · simp at h
theorem WPc.renR {Φ : Exit → St → Prop} (id nid : Nat)
    (h : ∀ K : St → Prop, (∀ s, WPc P .ret s Φ → K s) → ∃ s, Own.renS st id nid = some s ∧ K s) : WPc P .ret st Φ := by
  obtain ⟨s, h1, h2⟩ := h (fun s => WPc P .ret s Φ) fun _ h => h
  intro w0 β0 β a w hr
  obtain ⟨β', g1, g2, g3, g4⟩ := hr.rel.renS h1
  exact h2 w0 β0 β' a w (hr.next g1 g2 (below2 g3 g4))
attribute [simp] renS
def stOp (d : Nat) : Op → Bool
  | .store _ _ (.tmp x) => x == d
  | _ => false
def stHd (d : Nat) : List Oper → Bool
  | [] => false
  | o :: _ => stOp d o.op
def upToSt (d : Nat) : List Oper → Nat → Nat
  | [], _ => 0
  | o :: l, n => if stOp d o.op = true then n else if isFn o.op then 0 else upToSt d l (n + 1)
theorem WPL.detSt {ops : Array Oper} {l : List Oper} {Ψ : St → Prop} (d id nid : Nat) (path : Pth) (i j : Nat) (hd : stHd d l = true)
    (h : ∀ K : St → Prop, (∀ s, WPL P ops l s Ψ → K s) → ∃ s, Own.detS st id nid path i j = some s ∧ K s) : WPL P ops l st Ψ := WPL.detS id nid path i j h
theorem WPL.rnToSt (tok : TOk P tt) {ops : Array Oper} {l : List Oper} {Ψ : St → Prop} (d m : Nat) (hm : upToSt d l 0 = m + 1)
    (h : ∀ K : St → Prop, (∀ s, WPL P ops (l.drop (m + 1)) s Ψ → K s) → ∃ s, runL tt ops (l.take (m + 1)) st = some s ∧ K s) : WPL P ops l st Ψ := WPL.rk tok (m + 1) h
attribute [simp] stOp stHd upToSt
end Go.Own
set_option maxRecDepth 1000000
set_option maxHeartbeats 4000000
namespace Go.Own
attribute [local irreducible] WPc WPL WPS WPS1 WPS2 HAny endP
variable [Laid]
open Go.Lib Go.RowKit
def isNum (s : ByteArray) : Bool := decide (s = ⟨#[43]⟩) || decide (s = ⟨#[45]⟩) || decide (s = ⟨#[42]⟩) || decide (s = ⟨#[60]⟩) || decide (s = ⟨#[61]⟩)
def l7H (h : List Cl) (s : ByteArray) (a b : V) : List Cl := if s = sCons then allocH h (consC [a, b]) else h
def l7V (h : List Cl) (s : ByteArray) (a b : V) : V × Int :=
  if isNum s = true then (if a.k = 1 ∧ b.k = 1 then numsV s a.n b.n else (noV, 2))
  else if s = sCons then allocV h 5 else if s = sCar then partV h a 0 else if s = sCdr then partV h a 1 else if s = sNull then (boolV (decide (a.k = 3)), 0)
  else if s = sPair then (boolV (decide (a.k = 5)), 0) else if s = sNot then (boolV (!truth a), 0) else (boolV (a.eqb b), 0)
theorem c_spec_l7Prim1 (h : List Cl) (s : ByteArray) (a : List V) (h1 : h.length ≤ 1000000000) (h0 : 0 < a.length) (hs : s ∈ uns) (h4 : s = sCar ∨ s = sCdr → okPair h a[0]) : Con PP 52 [.sl 0 6 [] 0 h.length, .sc (.string s), .fz (a.map V.cs)] [(0, heapR h)] [] (fun r o => r = .tup [.sl 0 6 [] 0 h.length, (l7V h s a[0] noV).1.av, .sc (.int .i64 (l7V h s a[0] noV).2)] ∧ o = [(0, heapR h)]) := by
  simp only [uns, List.mem_cons, List.not_mem_nil, or_false] at hs
  rcases hs with rfl | rfl | rfl | rfl | rfl
  · have hp := h4 (.inl rfl)
    by_cases hk : a[0].k = 5
    · obtain ⟨g0, hlt, hv⟩ := hp hk
      have hv0 : 0 < h[a[0].n.toNat].vals.length := by omega
      have hv2 : (1 : Int) < (h[a[0].n.toNat].vals.length : Int) := by omega
      have hlt2 : a[0].n < (h.length : Int) := by omega
      have hk' : (a[0].k = 5) = True := by simp [hk]
      have e1 : (partV h a[0] 0).1 = h[a[0].n.toNat].vals[0] := by simp [partV, partAt, hk, hlt, hv, hv0]
      have e2 : (partV h a[0] 0).2 = 0 := by simp [partV, hk]
      refine Con.of tok (nt := 141) Go.Proofs.Tryz.func52 (by kernel_rfl) rfl rfl rfl (Nat.le_of_ble_eq_true rfl) fun G => ?_
      simp only [entSt, tmOf, List.append_nil, List.cons_append, List.nil_append, heapR, sCar]
      repeat' (first
        | apply WPc.sq
        | apply WPc.block
        | (refine WPc.ret (endP.own [(0, heapR h)] (.inr rfl) rfl rfl (by simp; rfl) ?_ ?_ (by simp)))
        | apply WPc.skip
        | ((first | refine WPc.rq tok rfl fun K hK => ?_ | refine WPS.rn tok _ (by simp [aheadS]; rfl) fun K hK => ?_); simp -implicitDefEqProofs +contextual [-Int.not_le, -Int.not_lt, -Nat.not_le, -Nat.not_lt, -List.all_eq_true, -List.all_eq_false, -List.any_eq_true, -List.any_eq_false, V.cs, V.av, h0, boolV, g0, hlt, hlt2, hv, hv0, hv2, hk', Cl.ow]; (repeat1' (first | apply hK | apply And.intro | intro _)) <;> clear hK K <;> (try dsimp only [List.drop]))
        | (refine WPc.sched (id := 21) tok [(12, [0, 7, 65])] [(0, []), (1, []), (2, []), (3, []), (4, []), (5, []), (6, []), (7, []), (8, []), (9, []), (10, []), (11, []), (12, [0, 7, 65]), (13, [])] (by kernel_rfl) ?_)
        | (refine WPS.nil ?_)
        | (refine WPS.eff tok fun K hK => ?_; simp -implicitDefEqProofs +contextual [-Int.not_le, -Int.not_lt, -Nat.not_le, -Nat.not_lt, -List.all_eq_true, -List.all_eq_false, -List.any_eq_true, -List.any_eq_false, V.cs, V.av, h0, boolV, g0, hlt, hlt2, hv, hv0, hv2, hk', Cl.ow]; (repeat1' (first | apply hK | apply And.intro | intro _)) <;> clear hK K)
        | (refine WPc.condT ?_ ?_; (focus (simp; done)))
        | (refine WPc.condF ?_ ?_; (focus (simp; done))))
      all_goals (clear h4 hp; simp_all [heapR, l7V, isNum, sCar, sCdr, sNull, sPair, sNot, sEq, sCons, V.av, boolV, noV])
    · have hk' : (a[0].k = 5) = False := by simp [hk]
      refine Con.of tok (nt := 141) Go.Proofs.Tryz.func52 (by kernel_rfl) rfl rfl rfl (Nat.le_of_ble_eq_true rfl) fun G => ?_
      simp only [entSt, tmOf, List.append_nil, List.cons_append, List.nil_append, heapR, sCar]
      repeat' (first
        | apply WPc.sq
        | apply WPc.block
        | (refine WPc.ret (endP.own [(0, heapR h)] (.inr rfl) rfl rfl (by simp; rfl) ?_ ?_ (by simp)))
        | apply WPc.skip
        | (refine WPc.rq tok rfl fun K hK => ?_; simp -implicitDefEqProofs +contextual [-Int.not_le, -Int.not_lt, -Nat.not_le, -Nat.not_lt, -List.all_eq_true, -List.all_eq_false, -List.any_eq_true, -List.any_eq_false, V.cs, V.av, h0, boolV, hk']; (repeat1' (first | apply hK | apply And.intro | intro _)) <;> clear hK K <;> (try dsimp only [List.drop]))
        | (refine WPc.condT ?_ ?_; (focus (simp; done)))
        | (refine WPc.condF ?_ ?_; (focus (simp; done))))
      all_goals (clear h4 hp; simp_all [heapR, l7V, partV, isNum, sCar, sCdr, sNull, sPair, sNot, sEq, sCons, V.av, boolV, noV])
  · have hp := h4 (.inr rfl)
    by_cases hk : a[0].k = 5
    · obtain ⟨g0, hlt, hv⟩ := hp hk
      have hv0 : 0 < h[a[0].n.toNat].vals.length := by omega
      have hv2 : (1 : Int) < (h[a[0].n.toNat].vals.length : Int) := by omega
      have hlt2 : a[0].n < (h.length : Int) := by omega
      have hk' : (a[0].k = 5) = True := by simp [hk]
      have e1 : (partV h a[0] 1).1 = h[a[0].n.toNat].vals[1] := by simp [partV, partAt, hk, hlt, hv, hv0]
      have e2 : (partV h a[0] 1).2 = 0 := by simp [partV, hk]
      refine Con.of tok (nt := 141) Go.Proofs.Tryz.func52 (by kernel_rfl) rfl rfl rfl (Nat.le_of_ble_eq_true rfl) fun G => ?_
      simp only [entSt, tmOf, List.append_nil, List.cons_append, List.nil_append, heapR, sCdr]
      repeat' (first
        | apply WPc.sq
        | apply WPc.block
        | (refine WPc.ret (endP.own [(0, heapR h)] (.inr rfl) rfl rfl (by simp; rfl) ?_ ?_ (by simp)))
        | apply WPc.skip
        | ((first | refine WPc.rq tok rfl fun K hK => ?_ | refine WPS.rn tok _ (by simp [aheadS]; rfl) fun K hK => ?_); simp -implicitDefEqProofs +contextual [-Int.not_le, -Int.not_lt, -Nat.not_le, -Nat.not_lt, -List.all_eq_true, -List.all_eq_false, -List.any_eq_true, -List.any_eq_false, V.cs, V.av, h0, boolV, g0, hlt, hlt2, hv, hv0, hv2, hk', Cl.ow]; (repeat1' (first | apply hK | apply And.intro | intro _)) <;> clear hK K <;> (try dsimp only [List.drop]))
        | (refine WPc.sched (id := 22) tok [(12, [0, 7, 65])] [(0, []), (1, []), (2, []), (3, []), (4, []), (5, []), (6, []), (7, []), (8, []), (9, []), (10, []), (11, []), (12, [0, 7, 65]), (13, [])] (by kernel_rfl) ?_)
        | (refine WPS.nil ?_)
        | (refine WPS.eff tok fun K hK => ?_; simp -implicitDefEqProofs +contextual [-Int.not_le, -Int.not_lt, -Nat.not_le, -Nat.not_lt, -List.all_eq_true, -List.all_eq_false, -List.any_eq_true, -List.any_eq_false, V.cs, V.av, h0, boolV, g0, hlt, hlt2, hv, hv0, hv2, hk', Cl.ow]; (repeat1' (first | apply hK | apply And.intro | intro _)) <;> clear hK K)
        | (refine WPc.condT ?_ ?_; (focus (simp; done)))
        | (refine WPc.condF ?_ ?_; (focus (simp; done))))
      all_goals (clear h4 hp; simp_all [heapR, l7V, isNum, sCar, sCdr, sNull, sPair, sNot, sEq, sCons, V.av, boolV, noV])
    · have hk' : (a[0].k = 5) = False := by simp [hk]
      refine Con.of tok (nt := 141) Go.Proofs.Tryz.func52 (by kernel_rfl) rfl rfl rfl (Nat.le_of_ble_eq_true rfl) fun G => ?_
      simp only [entSt, tmOf, List.append_nil, List.cons_append, List.nil_append, heapR, sCdr]
      repeat' (first
        | apply WPc.sq
        | apply WPc.block
        | (refine WPc.ret (endP.own [(0, heapR h)] (.inr rfl) rfl rfl (by simp; rfl) ?_ ?_ (by simp)))
        | (refine WPc.rq tok rfl fun K hK => ?_; simp -implicitDefEqProofs +contextual [-Int.not_le, -Int.not_lt, -Nat.not_le, -Nat.not_lt, -List.all_eq_true, -List.all_eq_false, -List.any_eq_true, -List.any_eq_false, V.cs, V.av, h0, boolV, hk']; (repeat1' (first | apply hK | apply And.intro | intro _)) <;> clear hK K <;> (try dsimp only [List.drop]))
        | (refine WPc.condT ?_ ?_; (focus (simp; done)))
        | (refine WPc.condF ?_ ?_; (focus (simp; done))))
      all_goals (clear h4 hp; simp_all [heapR, l7V, partV, isNum, sCar, sCdr, sNull, sPair, sNot, sEq, sCons, V.av, boolV, noV])
  · refine Con.of tok (nt := 141) Go.Proofs.Tryz.func52 (by kernel_rfl) rfl rfl rfl (Nat.le_of_ble_eq_true rfl) fun G => ?_
    simp only [entSt, tmOf, List.append_nil, List.cons_append, List.nil_append, heapR, sNull]
    repeat' (first
      | apply WPc.sq
      | apply WPc.block
      | (refine WPc.ret (endP.own [(0, heapR h)] (.inr rfl) rfl rfl (by simp; rfl) ?_ ?_ (by simp)))
      | refine WPL.nil ?_
      | (apply WPL.cL (c_spec_l7Bool _); (case q => (repeat' (first | refine And.intro ?_ ?_ | intro _ | exact cleanOut_nil | (refine Eqv.mk ?_; first | rfl | (simp -implicitDefEqProofs [V.cs, V.av, h0, boolV]; done)) | (simp -implicitDefEqProofs [V.cs, V.av, h0, boolV]; done) | (simp -implicitDefEqProofs [V.cs, V.av, h0, boolV]; rfl) | (simp; done) | (simp; rfl) | rfl))))
      | ((first | refine WPc.rq tok rfl fun K hK => ?_ | refine WPL.rn tok _ (by simp [ahead, isFn]; rfl) fun K hK => ?_); simp -implicitDefEqProofs +contextual [-Int.not_le, -Int.not_lt, -Nat.not_le, -Nat.not_lt, -List.all_eq_true, -List.all_eq_false, -List.any_eq_true, -List.any_eq_false, V.cs, V.av, h0, boolV]; (repeat1' (first | apply hK | apply And.intro | intro _)) <;> clear hK K <;> (try dsimp only [List.drop]))
      | (refine WPc.region ?_; simp only [List.toList_toArray])
      | (refine WPc.condT ?_ ?_; (focus (simp; done)))
      | (refine WPc.condF ?_ ?_; (focus (simp; done))))
    all_goals (clear h4; simp_all [heapR, l7V, isNum, sCar, sCdr, sNull, sPair, sNot, sEq, sCons, V.av, boolV, noV])
  · refine Con.of tok (nt := 141) Go.Proofs.Tryz.func52 (by kernel_rfl) rfl rfl rfl (Nat.le_of_ble_eq_true rfl) fun G => ?_
    simp only [entSt, tmOf, List.append_nil, List.cons_append, List.nil_append, heapR, sPair]
    repeat' (first
      | apply WPc.sq
      | apply WPc.block
      | (refine WPc.ret (endP.own [(0, heapR h)] (.inr rfl) rfl rfl (by simp; rfl) ?_ ?_ (by simp)))
      | refine WPL.nil ?_
      | (apply WPL.cL (c_spec_l7Bool _); (case q => (repeat' (first | refine And.intro ?_ ?_ | intro _ | exact cleanOut_nil | (refine Eqv.mk ?_; first | rfl | (simp -implicitDefEqProofs [V.cs, V.av, h0, boolV]; done)) | (simp -implicitDefEqProofs [V.cs, V.av, h0, boolV]; done) | (simp -implicitDefEqProofs [V.cs, V.av, h0, boolV]; rfl) | (simp; done) | (simp; rfl) | rfl))))
      | ((first | refine WPc.rq tok rfl fun K hK => ?_ | refine WPL.rn tok _ (by simp [ahead, isFn]; rfl) fun K hK => ?_); simp -implicitDefEqProofs +contextual [-Int.not_le, -Int.not_lt, -Nat.not_le, -Nat.not_lt, -List.all_eq_true, -List.all_eq_false, -List.any_eq_true, -List.any_eq_false, V.cs, V.av, h0, boolV]; (repeat1' (first | apply hK | apply And.intro | intro _)) <;> clear hK K <;> (try dsimp only [List.drop]))
      | (refine WPc.region ?_; simp only [List.toList_toArray])
      | (refine WPc.condT ?_ ?_; (focus (simp; done)))
      | (refine WPc.condF ?_ ?_; (focus (simp; done))))
    all_goals (clear h4; simp_all [heapR, l7V, isNum, sCar, sCdr, sNull, sPair, sNot, sEq, sCons, V.av, boolV, noV])
  · refine Con.of tok (nt := 141) Go.Proofs.Tryz.func52 (by kernel_rfl) rfl rfl rfl (Nat.le_of_ble_eq_true rfl) fun G => ?_
    simp only [entSt, tmOf, List.append_nil, List.cons_append, List.nil_append, heapR, sNot]
    repeat' (first
      | apply WPc.sq
      | apply WPc.block
      | (refine WPc.ret (endP.own [(0, heapR h)] (.inr rfl) rfl rfl (by simp; rfl) ?_ ?_ (by simp)))
      | refine WPL.nil ?_
      | (apply WPL.cL (c_spec_l7Bool _); (case q => (repeat' (first | refine And.intro ?_ ?_ | intro _ | exact cleanOut_nil | (refine Eqv.mk ?_; first | rfl | (simp -implicitDefEqProofs [V.cs, V.av, h0, boolV]; done)) | (simp -implicitDefEqProofs [V.cs, V.av, h0, boolV]; done) | (simp -implicitDefEqProofs [V.cs, V.av, h0, boolV]; rfl) | (simp; done) | (simp; rfl) | rfl))))
      | (apply WPL.cL (c_spec_Truth ⟨_, _, _⟩); (case q => (repeat' (first | refine And.intro ?_ ?_ | intro _ | exact cleanOut_nil | (refine Eqv.mk ?_; first | rfl | (simp -implicitDefEqProofs [V.cs, V.av, h0, boolV]; done)) | (simp -implicitDefEqProofs [V.cs, V.av, h0, boolV]; done) | (simp -implicitDefEqProofs [V.cs, V.av, h0, boolV]; rfl) | (simp; done) | (simp; rfl) | rfl))))
      | ((first | refine WPc.rq tok rfl fun K hK => ?_ | refine WPL.rn tok _ (by simp [ahead, isFn]; rfl) fun K hK => ?_); simp -implicitDefEqProofs +contextual [-Int.not_le, -Int.not_lt, -Nat.not_le, -Nat.not_lt, -List.all_eq_true, -List.all_eq_false, -List.any_eq_true, -List.any_eq_false, V.cs, V.av, h0, boolV]; (repeat1' (first | apply hK | apply And.intro | intro _)) <;> clear hK K <;> (try dsimp only [List.drop]))
      | (refine WPc.region ?_; simp only [List.toList_toArray])
      | (refine WPc.condT ?_ ?_; (focus (simp; done)))
      | (refine WPc.condF ?_ ?_; (focus (simp; done))))
    all_goals (clear h4; simp_all [heapR, l7V, isNum, sCar, sCdr, sNull, sPair, sNot, sEq, sCons, V.av, boolV, noV])
end Go.Own
set_option maxRecDepth 1000000
set_option maxHeartbeats 4000000
namespace Go.Own
attribute [local irreducible] WPc WPL WPS WPS1 WPS2 HAny endP
variable [Laid]
open Go.Lib Go.RowKit
theorem c_spec_l7Prim2 (h : List Cl) (s : ByteArray) (a : List V) (h1 : h.length ≤ 1000000000) (h2 : 1 < a.length) (h4 : s ≠ sCar ∧ s ≠ sCdr) : Con PP 52 [.sl 0 6 [] 0 h.length, .sc (.string s), .fz (a.map V.cs)] [(0, heapR h)] [] (fun r o => r = .tup [.sl 0 6 [] 0 (l7H h s a[0] a[1]).length, (l7V h s a[0] a[1]).1.av, .sc (.int .i64 (l7V h s a[0] a[1]).2)] ∧ o = [(0, heapR (l7H h s a[0] a[1]))]) := by
  have h0 : 0 < a.length := by omega
  have n1 : decide (s = ⟨#[99, 97, 114]⟩) = false := by simpa [sCar] using h4.1
  have n2 : decide (s = ⟨#[99, 100, 114]⟩) = false := by simpa [sCdr] using h4.2
  have hb1 : (h.length + 1) * 88 ≤ 140737488355328 := by omega
  have hb2 : h.length + 1 ≤ 9223372036854775807 := by omega
  have e : IntKind.i64.wrap (h.length : Int) = h.length := wrap64 (by omega) (by omega)
  refine Con.of tok (nt := 141) Go.Proofs.Tryz.func52 (by kernel_rfl) rfl rfl rfl (Nat.le_of_ble_eq_true rfl) fun G => ?_
  simp only [entSt, tmOf, List.append_nil, List.cons_append, List.nil_append, heapR]
  repeat' (first
    | (refine WPS.adAt 64 63 4 900001 9 1 ?_ ?_; (focus (simp; done)); refine fun K hK => ?_; simp -implicitDefEqProofs +contextual [-Int.not_le, -Int.not_lt, -Nat.not_le, -Nat.not_lt, -List.all_eq_true, -List.all_eq_false, -List.any_eq_true, -List.any_eq_false, V.cs, V.av, h0, h2, boolV, n1, n2, hb1, hb2]; (repeat1' (first | apply hK | apply And.intro | intro _)) <;> clear hK K)
    | ((first | refine WPS.rnTo tok 64 _ (by simp; rfl) fun K hK => ?_ | refine WPc.rq tok rfl fun K hK => ?_ | refine WPL.rn tok _ (by simp [ahead, isFn]; rfl) fun K hK => ?_ | refine WPS.rn tok _ (by simp [aheadS]; rfl) fun K hK => ?_); simp -implicitDefEqProofs +contextual [-Int.not_le, -Int.not_lt, -Nat.not_le, -Nat.not_lt, -List.all_eq_true, -List.all_eq_false, -List.any_eq_true, -List.any_eq_false, V.cs, V.av, h0, h2, boolV, n1, n2, hb1, hb2]; (repeat1' (first | apply hK | apply And.intro | intro _)) <;> clear hK K <;> (try dsimp only [List.drop]))
    | apply WPc.sq
    | apply WPc.block
    | (refine WPc.ret (endP.own [(0, heapR (l7H h s a[0] a[1]))] (.inr rfl) rfl rfl (by simp; rfl) ?_ ?_ (by simp)))
    | apply WPc.skip
    | refine WPL.nil ?_
    | (apply WPL.cL (c_spec_l7Bool _); (case q => (repeat' (first | refine And.intro ?_ ?_ | intro _ | exact cleanOut_nil | (refine Eqv.mk ?_; first | rfl | (simp -implicitDefEqProofs [V.cs, V.av, h0, h2, boolV, n1, n2, hb1, hb2]; done)) | (simp -implicitDefEqProofs [V.cs, V.av, h0, h2, boolV, n1, n2, hb1, hb2]; done) | (simp -implicitDefEqProofs [V.cs, V.av, h0, h2, boolV, n1, n2, hb1, hb2]; rfl) | (simp; done) | (simp; rfl) | rfl))))
    | (apply WPL.cL (c_spec_Truth ⟨_, _, _⟩); (case q => (repeat' (first | refine And.intro ?_ ?_ | intro _ | exact cleanOut_nil | (refine Eqv.mk ?_; first | rfl | (simp -implicitDefEqProofs [V.cs, V.av, h0, h2, boolV, n1, n2, hb1, hb2]; done)) | (simp -implicitDefEqProofs [V.cs, V.av, h0, h2, boolV, n1, n2, hb1, hb2]; done) | (simp -implicitDefEqProofs [V.cs, V.av, h0, h2, boolV, n1, n2, hb1, hb2]; rfl) | (simp; done) | (simp; rfl) | rfl))))
    | (apply WPS1.callL (hc := (c_spec_l7Nums _ _ _)); (case ho => exact rfl); (case hg => (simp; done)); (case hd => (simp; done)); (case hl => (first | (simp; done) | (simp; rfl) | (simp -implicitDefEqProofs [V.cs, V.av, h0, h2, boolV, n1, n2, hb1, hb2]; done) | (simp -implicitDefEqProofs [V.cs, V.av, h0, h2, boolV, n1, n2, hb1, hb2]; rfl))); (case hb => rfl); (case hins => (first | (simp -implicitDefEqProofs [V.cs, V.av, h0, h2, boolV, n1, n2, hb1, hb2]; done) | (simp -implicitDefEqProofs [V.cs, V.av, h0, h2, boolV, n1, n2, hb1, hb2]; rfl) | rfl)); (case he => (first | rfl | (simp -implicitDefEqProofs [V.cs, V.av, h0, h2, boolV, n1, n2, hb1, hb2]; done))); (case hz => (first | (exact .inl rfl) | (simp; done) | (exact .inr (by simp -implicitDefEqProofs [V.cs, V.av, h0, h2, boolV, n1, n2, hb1, hb2])))))
    | (apply WPS.cL (hc := (c_spec_l7Nums _ _ _)); (case ho => exact rfl); (case q => (repeat' (first | refine And.intro ?_ ?_ | intro _ | exact cleanOut_nil | (refine Eqv.mk ?_; first | rfl | (simp -implicitDefEqProofs [V.cs, V.av, h0, h2, boolV, n1, n2, hb1, hb2]; done)) | (simp -implicitDefEqProofs [V.cs, V.av, h0, h2, boolV, n1, n2, hb1, hb2]; done) | (simp -implicitDefEqProofs [V.cs, V.av, h0, h2, boolV, n1, n2, hb1, hb2]; rfl) | (simp; done) | (simp; rfl) | rfl))))
    | (apply WPS.cL (hc := (c_spec_l7Bool _)); (case ho => exact rfl); (case q => (repeat' (first | refine And.intro ?_ ?_ | intro _ | exact cleanOut_nil | (refine Eqv.mk ?_; first | rfl | (simp -implicitDefEqProofs [V.cs, V.av, h0, h2, boolV, n1, n2, hb1, hb2]; done)) | (simp -implicitDefEqProofs [V.cs, V.av, h0, h2, boolV, n1, n2, hb1, hb2]; done) | (simp -implicitDefEqProofs [V.cs, V.av, h0, h2, boolV, n1, n2, hb1, hb2]; rfl) | (simp; done) | (simp; rfl) | rfl))))
    | (refine WPc.sched2 (id := 9) tok [(13, [9]), (14, [9, 42, 1042, 2042])] [(0, [9]), (1, [9]), (2, [9]), (3, [9]), (4, [9]), (5, [9]), (6, [9]), (7, [9]), (8, [9])] [(9, []), (10, [9]), (11, [9]), (12, [9, 42, 1042, 2042]), (13, [9]), (14, [9, 42, 1042, 2042]), (15, [])] [(13, [9]), (9, []), (10, []), (11, []), (12, [9, 42, 1042, 2042]), (14, [9, 42, 1042, 2042]), (15, [])] (by kernel_rfl) fun K hK => ?_; simp -implicitDefEqProofs +contextual [-Int.not_le, -Int.not_lt, -Nat.not_le, -Nat.not_lt, -List.all_eq_true, -List.all_eq_false, -List.any_eq_true, -List.any_eq_false, V.cs, V.av, h0, h2, boolV, n1, n2, hb1, hb2]; (repeat1' (first | refine hK _ ?_ ?_ | apply And.intro | intro _)) <;> clear hK K)
    | (refine WPS1.eff tok fun K hK => ?_; simp -implicitDefEqProofs +contextual [-Int.not_le, -Int.not_lt, -Nat.not_le, -Nat.not_lt, -List.all_eq_true, -List.all_eq_false, -List.any_eq_true, -List.any_eq_false, V.cs, V.av, h0, h2, boolV, n1, n2, hb1, hb2]; (repeat1' (first | apply hK | apply And.intro | intro _)) <;> clear hK K)
    | (refine WPc.sched (id := 10) tok [(4, [7, 9])] [(0, []), (1, []), (2, [7, 9]), (3, []), (4, [7, 9]), (5, [])] (by kernel_rfl) ?_)
    | (refine WPc.sched (id := 14) tok [(7, [62]), (9, [62, 64, 900001]), (10, [0, 64, 65])] [(0, [62, 64, 900001]), (1, []), (2, []), (3, []), (4, []), (5, []), (6, []), (7, [62]), (8, []), (9, [62, 64, 900001]), (10, [0, 64, 65]), (11, [])] (by kernel_rfl) ?_)
    | (refine WPc.sched (id := 29) tok [(10, [7, 140, 1140, 2140])] [(0, []), (1, []), (2, []), (3, []), (4, []), (5, []), (6, []), (7, []), (8, []), (9, []), (10, [7, 140, 1140, 2140]), (11, [])] (by kernel_rfl) ?_)
    | (refine WPS.nil ?_)
    | (refine WPS.eff tok fun K hK => ?_; simp -implicitDefEqProofs +contextual [-Int.not_le, -Int.not_lt, -Nat.not_le, -Nat.not_lt, -List.all_eq_true, -List.all_eq_false, -List.any_eq_true, -List.any_eq_false, V.cs, V.av, h0, h2, boolV, n1, n2, hb1, hb2]; (repeat1' (first | apply hK | apply And.intro | intro _)) <;> clear hK K)
    | (refine WPc.region ?_; simp only [List.toList_toArray])
    | (refine WPc.condT ?_ ?_; (focus (simp; done)))
    | (refine WPc.condF ?_ ?_; (focus (simp; done)))
    | (refine WPc.cond (by simp [-Bool.not_eq_eq_eq_not]; rfl) (fun hq => ?_) (fun hq => ?_) <;> simp only [hq] <;> (try (exfalso; (simp only [decide_eq_true_eq, decide_eq_false_iff_not] at hq); omega))))
  all_goals (clear n1 n2; simp_all [heapR, l7H, l7V, isNum, sCar, sCdr, sNull, sPair, sNot, sEq, sCons, V.av, consC, boolV, noV])
  all_goals first
    | (have hx : ¬ h.length < 300 := by omega
       simp [allocH, allocV, hx, noV]; done)
    | (have hx : h.length < 300 := by omega
       simp [allocH, allocV, hx, Cl.ow, V.cs, zs]; done)
end Go.Own
set_option maxRecDepth 1000000
set_option maxHeartbeats 4000000
namespace Go.Own
attribute [local irreducible] WPc WPL WPS WPS1 WPS2 HAny endP
variable [Laid]
open Go.Lib Go.RowKit
def good (h : List Cl) (s : ByteArray) (a : List V) : Bool := plainP s && decide ((a.length : Int) = arity s) && heapOk h && a.all (valueOk h)
def arg (a : List V) (i : Nat) : V := a[i]?.getD noV
def pV (h : List Cl) (s : ByteArray) (a : List V) : V × Int := if good h s a = true then primV h s (arg a 0) (arg a 1) else (noV, 2)
def pH (h : List Cl) (s : ByteArray) (a : List V) : List Cl := if good h s a = true then primH h s a else h
theorem okPair_of {h : List Cl} {v : V} (hh : heapOk h = true) (hv : valueOk h v = true) : okPair h v := by
  intro hk
  unfold valueOk at hv
  rw [if_neg (by omega)] at hv
  simp only [hk, cellKind, cellAt, Bool.and_eq_true, decide_eq_true_eq] at hv
  simp at hv
  obtain ⟨_, h0, hv⟩ := hv
  refine ⟨h0, ?_⟩
  cases hc : h[v.n.toNat]? with
  | none => simp [hc] at hv
  | some c =>
    simp only [hc, decide_eq_true_eq] at hv
    obtain ⟨hlt, he⟩ := List.getElem?_eq_some_iff.1 hc
    refine ⟨hlt, ?_⟩
    simp only [heapOk, Bool.and_eq_true, List.all_eq_true, List.mem_range] at hh
    have := hh.2 _ hlt
    rw [okI_eq hlt, he] at this
    simp only [okAt, Bool.and_eq_true] at this
    have := this.1.1
    simp only [cellOk, hv, if_true, Bool.and_eq_true, decide_eq_true_eq] at this
    rw [he]
    omega
theorem isW_mem {ws : List ByteArray} {s : ByteArray} (h : isW ws s = true) : s ∈ ws := by
  unfold isW at h
  obtain ⟨w, hw, he⟩ := List.any_eq_true.1 h
  have := of_decide_eq_true he
  exact this ▸ hw
theorem good_cases {h : List Cl} {s : ByteArray} {a : List V} (hg : good h s a = true) :
    heapOk h = true ∧ (∀ v, v ∈ a → valueOk h v = true) ∧ ((s ∈ w2 ∧ ∃ x y, a = [x, y]) ∨ (s ∈ uns ∧ ∃ x, a = [x])) := by
  simp only [good, Bool.and_eq_true, decide_eq_true_eq] at hg
  obtain ⟨⟨⟨h1, h2⟩, h3⟩, h4⟩ := hg
  refine ⟨h3, List.all_eq_true.1 h4, ?_⟩
  simp only [plainP, Bool.and_eq_true, decide_eq_true_eq, Bool.not_eq_true'] at h1
  obtain ⟨p1, p2⟩ := h1
  unfold arity at h2 p1
  by_cases c2 : isW w2 s = true
  · rw [if_pos c2] at h2
    refine .inl ⟨isW_mem c2, ?_⟩
    match a, h2 with
    | [x, y], _ => exact ⟨x, y, rfl⟩
  · rw [if_neg c2] at h2 p1
    by_cases c1 : isW w1 s = true
    · rw [if_pos c1] at h2
      refine .inr ⟨?_, ?_⟩
      · have hm := isW_mem c1
        simp only [w1, List.mem_cons, List.not_mem_nil, or_false] at hm
        rcases hm with rfl | rfl | rfl | rfl | rfl | rfl | rfl | rfl | rfl
        all_goals first
          | (simp [uns, sCar, sCdr, sNull, sPair, sNot]; done)
          | (exfalso; revert p2; simp [isW, wTyped]; done)
      · match a, h2 with
        | [x], _ => exact ⟨x, rfl⟩
    · rw [if_neg c1] at p1
      split at p1 <;> omega
theorem w2_not {s : ByteArray} (h : s ∈ w2) : s ≠ sCar ∧ s ≠ sCdr := by
  simp only [w2, List.mem_cons, List.not_mem_nil, or_false] at h
  rcases h with rfl | rfl | rfl | rfl | rfl | rfl | rfl <;> simp [sCar, sCdr]
theorem heap_le {h : List Cl} (hh : heapOk h = true) : h.length ≤ 300 := by
  simp only [heapOk, Bool.and_eq_true, decide_eq_true_eq] at hh
  exact hh.1
theorem l7V_eq {h : List Cl} {s : ByteArray} {x y : V} (hs : s ∈ w2) : l7V h s x y = primV h s x y := by
  simp only [w2, List.mem_cons, List.not_mem_nil, or_false] at hs
  rcases hs with rfl | rfl | rfl | rfl | rfl | rfl | rfl <;> simp [l7V, primV, isNum, sCar, sCdr, sNull, sPair, sNot, sEq, sCons, arithV, numsV]
theorem l7V_eq1 {h : List Cl} {s : ByteArray} {x y : V} (hs : s ∈ uns) : l7V h s x y = primV h s x y := by
  simp only [uns, List.mem_cons, List.not_mem_nil, or_false] at hs
  rcases hs with rfl | rfl | rfl | rfl | rfl <;> simp [l7V, primV, isNum, sCar, sCdr, sNull, sPair, sNot, sEq, sCons]
theorem uns_H {h : List Cl} {s : ByteArray} {a : List V} (hs : s ∈ uns) : primH h s a = h := by
  simp only [uns, List.mem_cons, List.not_mem_nil, or_false] at hs
  rcases hs with rfl | rfl | rfl | rfl | rfl <;> simp [primH, sCar, sCdr, sNull, sPair, sNot, sCons]
theorem prim_good {h : List Cl} {s : ByteArray} {a : List V} (hg : good h s a = true) : Con PP 49 [.ptr 0 1 [] 0 0, .sc (.string s), .fz (a.map V.cs)] [(0, heapB h)] [0] (fun r o => r = .tup [(primV h s (arg a 0) (arg a 1)).1.av, .sc (.int .i64 (primV h s (arg a 0) (arg a 1)).2)] ∧ o = [(0, heapB (primH h s a))]) := by
  obtain ⟨h1, h2, ⟨h3, x, y, rfl⟩ | ⟨h3, x, rfl⟩⟩ := good_cases hg
  · have hl := heap_le h1
    exact c_impl_prim2 h s [x, y] (by omega) (by simp) (by simp) (fun _ => okPair_of h1 (h2 x (by simp)))
  · have hl := heap_le h1
    exact c_impl_prim1 h s [x] (by omega) (by simp) h3 (fun _ => okPair_of h1 (h2 x (by simp)))
theorem l7_good {h : List Cl} {s : ByteArray} {a : List V} (hg : good h s a = true) : Con PP 52 [.sl 0 6 [] 0 h.length, .sc (.string s), .fz (a.map V.cs)] [(0, heapR h)] [] (fun r o => r = .tup [.sl 0 6 [] 0 (primH h s a).length, (primV h s (arg a 0) (arg a 1)).1.av, .sc (.int .i64 (primV h s (arg a 0) (arg a 1)).2)] ∧ o = [(0, heapR (primH h s a))]) := by
  obtain ⟨h1, h2, ⟨h3, x, y, rfl⟩ | ⟨h3, x, rfl⟩⟩ := good_cases hg
  · have hl := heap_le h1
    have := c_spec_l7Prim2 h s [x, y] (by omega) (by simp) (w2_not h3)
    rw [l7V_eq h3] at this
    exact this
  · have hl := heap_le h1
    have := c_spec_l7Prim1 h s [x] (by omega) (by simp) h3 (fun _ => okPair_of h1 (h2 x (by simp)))
    rw [l7V_eq1 h3] at this
    rw [uns_H h3]
    exact this
end Go.Own
set_option maxRecDepth 1000000
set_option maxHeartbeats 4000000
namespace Go.Own
attribute [local irreducible] WPc WPL WPS WPS1 WPS2 HAny endP
variable [Laid]
open Go.Lib Go.RowKit
def PrimR (h : List Cl) (s : ByteArray) (a : List V) : AV := .tup [.sl 900001 6 [] 0 (pH h s a).length, (pV h s a).1.av, .sc (.int .i64 (pV h s a).2)]
theorem impl_Prim_bad [F : Facts.Of] (h : List Cl) (s : ByteArray) (a : List V) (h1 : s.size < 4294967000) (h2 : ∀ c, c ∈ h → c.sm) (h3 : ∀ v, v ∈ a → v.sm) (h4 : h.length ≤ 1000000000) (h5 : ∀ c, c ∈ h → c.rm) (hg : good h s a = false) : Con PP 9 [.fz (h.map Cl.cs), .sc (.string s), .fz (a.map V.cs)] [] [] (fun r o => r = PrimR h s a ∧ o = [(900001, heapR (pH h s a))]) := by
  have e1 : pH h s a = h := by simp [pH, hg]
  have e2 : pV h s a = (noV, 2) := by simp [pV, hg]
  simp only [PrimR, e1, e2]
  cases hp : plainP s with
  | false =>
    refine Con.of tok (nt := 47) Go.Proofs.Tryz.func9 (by kernel_rfl) rfl rfl rfl (Nat.le_of_ble_eq_true rfl) fun G => ?_
    simp only [entSt, tmOf, List.append_nil, List.cons_append, List.nil_append]
    repeat' (first
      | (refine WPc.renR 34 900001 fun K hK => ?_; simp -implicitDefEqProofs +contextual [-Int.not_le, -Int.not_lt, -Nat.not_le, -Nat.not_lt, -List.all_eq_true, -List.all_eq_false, -List.any_eq_true, -List.any_eq_false, hp, noV, V.av, heapR]; (repeat1' (first | apply hK | apply And.intro | intro _)) <;> clear hK K)
      | apply WPc.sq
      | (refine WPc.ret (endP.own [(900001, heapR h)] (.inr rfl) rfl rfl (by simp; rfl) ?_ ?_ (by simp)))
      | refine WPL.nil ?_
      | (apply WPL.cL (c_impl_isPlain _ ?g1); (case q => (repeat' (first | refine And.intro ?_ ?_ | intro _ | exact cleanOut_nil | (refine Eqv.mk ?_; first | rfl | (simp -implicitDefEqProofs [hp, noV, V.av, heapR]; done)) | (simp -implicitDefEqProofs [hp, noV, V.av, heapR]; done) | (simp -implicitDefEqProofs [hp, noV, V.av, heapR]; rfl) | (simp; done) | (simp; rfl) | rfl))); (case g1 => (first | assumption | omega)))
      | (apply WPL.cU (c_impl_copyHeap _ ?g1 ?g2); (case q => (repeat' (first | refine And.intro ?_ ?_ | intro _ | exact cleanOut_nil | (refine Eqv.mk ?_; first | rfl | (simp -implicitDefEqProofs [hp, noV, V.av, heapR]; done)) | (simp -implicitDefEqProofs [hp, noV, V.av, heapR]; done) | (simp -implicitDefEqProofs [hp, noV, V.av, heapR]; rfl) | (simp; done) | (simp; rfl) | rfl))); (case g1 => (first | assumption | omega)); (case g2 => (first | assumption | omega)))
      | (refine WPL.call0f ?_ ?_ ?_; (focus (simp; done)); (focus (simp; done)))
      | ((first | refine WPc.rq tok rfl fun K hK => ?_ | refine WPL.rn tok _ (by simp [ahead, isFn]; rfl) fun K hK => ?_); simp -implicitDefEqProofs +contextual [-Int.not_le, -Int.not_lt, -Nat.not_le, -Nat.not_lt, -List.all_eq_true, -List.all_eq_false, -List.any_eq_true, -List.any_eq_false, hp, noV, V.av, heapR]; (repeat1' (first | apply hK | apply And.intro | intro _)) <;> clear hK K <;> (try dsimp only [List.drop]))
      | (refine WPc.region ?_; simp only [List.toList_toArray])
      | (refine WPc.condT ?_ ?_; (focus (simp; done))))
    all_goals (simp [heapR, noV, V.av]; try rfl)
  | true =>
    by_cases hl : (a.length : Int) = arity s
    · cases hh : heapOk h with
      | false =>
        have hl' : ((a.length : Int) = arity s) = True := by simp [hl]
        refine Con.of tok (nt := 47) Go.Proofs.Tryz.func9 (by kernel_rfl) rfl rfl rfl (Nat.le_of_ble_eq_true rfl) fun G => ?_
        simp only [entSt, tmOf, List.append_nil, List.cons_append, List.nil_append]
        repeat' (first
          | (refine WPc.renR 34 900001 fun K hK => ?_; simp -implicitDefEqProofs +contextual [-Int.not_le, -Int.not_lt, -Nat.not_le, -Nat.not_lt, -List.all_eq_true, -List.all_eq_false, -List.any_eq_true, -List.any_eq_false, hp, hl', hh, noV, V.av, heapR]; (repeat1' (first | apply hK | apply And.intro | intro _)) <;> clear hK K)
          | apply WPc.sq
          | (refine WPc.ret (endP.own [(900001, heapR h)] (.inr rfl) rfl rfl (by simp; rfl) ?_ ?_ (by simp)))
          | refine WPL.nil ?_
          | (apply WPL.cL (c_impl_isPlain _ ?g1); (case q => (repeat' (first | refine And.intro ?_ ?_ | intro _ | exact cleanOut_nil | (refine Eqv.mk ?_; first | rfl | (simp -implicitDefEqProofs [hp, hl', hh, noV, V.av, heapR]; done)) | (simp -implicitDefEqProofs [hp, hl', hh, noV, V.av, heapR]; done) | (simp -implicitDefEqProofs [hp, hl', hh, noV, V.av, heapR]; rfl) | (simp; done) | (simp; rfl) | rfl))); (case g1 => (first | assumption | omega)))
          | (apply WPL.cL (c_impl_Arity _ ?g1); (case q => (repeat' (first | refine And.intro ?_ ?_ | intro _ | exact cleanOut_nil | (refine Eqv.mk ?_; first | rfl | (simp -implicitDefEqProofs [hp, hl', hh, noV, V.av, heapR]; done)) | (simp -implicitDefEqProofs [hp, hl', hh, noV, V.av, heapR]; done) | (simp -implicitDefEqProofs [hp, hl', hh, noV, V.av, heapR]; rfl) | (simp; done) | (simp; rfl) | rfl))); (case g1 => (first | assumption | omega)))
          | (apply WPL.cL (c_impl_HeapOk _ ?g1); (case q => (repeat' (first | refine And.intro ?_ ?_ | intro _ | exact cleanOut_nil | (refine Eqv.mk ?_; first | rfl | (simp -implicitDefEqProofs [hp, hl', hh, noV, V.av, heapR]; done)) | (simp -implicitDefEqProofs [hp, hl', hh, noV, V.av, heapR]; done) | (simp -implicitDefEqProofs [hp, hl', hh, noV, V.av, heapR]; rfl) | (simp; done) | (simp; rfl) | rfl))); (case g1 => (first | assumption | omega)))
          | (apply WPL.cU (c_impl_copyHeap _ ?g1 ?g2); (case q => (repeat' (first | refine And.intro ?_ ?_ | intro _ | exact cleanOut_nil | (refine Eqv.mk ?_; first | rfl | (simp -implicitDefEqProofs [hp, hl', hh, noV, V.av, heapR]; done)) | (simp -implicitDefEqProofs [hp, hl', hh, noV, V.av, heapR]; done) | (simp -implicitDefEqProofs [hp, hl', hh, noV, V.av, heapR]; rfl) | (simp; done) | (simp; rfl) | rfl))); (case g1 => (first | assumption | omega)); (case g2 => (first | assumption | omega)))
          | (refine WPL.call0f ?_ ?_ ?_; (focus (simp; done)); (focus (simp; done)))
          | ((first | refine WPc.rq tok rfl fun K hK => ?_ | refine WPL.rn tok _ (by simp [ahead, isFn]; rfl) fun K hK => ?_); simp -implicitDefEqProofs +contextual [-Int.not_le, -Int.not_lt, -Nat.not_le, -Nat.not_lt, -List.all_eq_true, -List.all_eq_false, -List.any_eq_true, -List.any_eq_false, hp, hl', hh, noV, V.av, heapR]; (repeat1' (first | apply hK | apply And.intro | intro _)) <;> clear hK K <;> (try dsimp only [List.drop]))
          | (refine WPc.region ?_; simp only [List.toList_toArray])
          | (refine WPc.condT ?_ ?_; (focus (simp; done))))
        all_goals (simp [heapR, noV, V.av]; try rfl)
      | true =>
        have hv : a.all (valueOk h) = false := by
          cases hx : a.all (valueOk h) with
          | false => rfl
          | true => rw [good, hp, hh, hx, decide_eq_true hl] at hg; simp at hg
        have hl' : ((a.length : Int) = arity s) = True := by simp [hl]
        refine Con.of tok (nt := 47) Go.Proofs.Tryz.func9 (by kernel_rfl) rfl rfl rfl (Nat.le_of_ble_eq_true rfl) fun G => ?_
        simp only [entSt, tmOf, List.append_nil, List.cons_append, List.nil_append]
        repeat' (first
          | (refine WPc.renR 34 900001 fun K hK => ?_; simp -implicitDefEqProofs +contextual [-Int.not_le, -Int.not_lt, -Nat.not_le, -Nat.not_lt, -List.all_eq_true, -List.all_eq_false, -List.any_eq_true, -List.any_eq_false, hp, hl', hh, hv, noV, V.av, heapR]; (repeat1' (first | apply hK | apply And.intro | intro _)) <;> clear hK K)
          | apply WPc.sq
          | (refine WPc.ret (endP.own [(900001, heapR h)] (.inr rfl) rfl rfl (by simp; rfl) ?_ ?_ (by simp)))
          | refine WPL.nil ?_
          | (apply WPL.cL (c_impl_isPlain _ ?g1); (case q => (repeat' (first | refine And.intro ?_ ?_ | intro _ | exact cleanOut_nil | (refine Eqv.mk ?_; first | rfl | (simp -implicitDefEqProofs [hp, hl', hh, hv, noV, V.av, heapR]; done)) | (simp -implicitDefEqProofs [hp, hl', hh, hv, noV, V.av, heapR]; done) | (simp -implicitDefEqProofs [hp, hl', hh, hv, noV, V.av, heapR]; rfl) | (simp; done) | (simp; rfl) | rfl))); (case g1 => (first | assumption | omega)))
          | (apply WPL.cL (c_impl_Arity _ ?g1); (case q => (repeat' (first | refine And.intro ?_ ?_ | intro _ | exact cleanOut_nil | (refine Eqv.mk ?_; first | rfl | (simp -implicitDefEqProofs [hp, hl', hh, hv, noV, V.av, heapR]; done)) | (simp -implicitDefEqProofs [hp, hl', hh, hv, noV, V.av, heapR]; done) | (simp -implicitDefEqProofs [hp, hl', hh, hv, noV, V.av, heapR]; rfl) | (simp; done) | (simp; rfl) | rfl))); (case g1 => (first | assumption | omega)))
          | (apply WPL.cL (c_impl_HeapOk _ ?g1); (case q => (repeat' (first | refine And.intro ?_ ?_ | intro _ | exact cleanOut_nil | (refine Eqv.mk ?_; first | rfl | (simp -implicitDefEqProofs [hp, hl', hh, hv, noV, V.av, heapR]; done)) | (simp -implicitDefEqProofs [hp, hl', hh, hv, noV, V.av, heapR]; done) | (simp -implicitDefEqProofs [hp, hl', hh, hv, noV, V.av, heapR]; rfl) | (simp; done) | (simp; rfl) | rfl))); (case g1 => (first | assumption | omega)))
          | (apply WPL.cL (c_impl_valuesOk _ _ ?g1); (case q => (repeat' (first | refine And.intro ?_ ?_ | intro _ | exact cleanOut_nil | (refine Eqv.mk ?_; first | rfl | (simp -implicitDefEqProofs [hp, hl', hh, hv, noV, V.av, heapR]; done)) | (simp -implicitDefEqProofs [hp, hl', hh, hv, noV, V.av, heapR]; done) | (simp -implicitDefEqProofs [hp, hl', hh, hv, noV, V.av, heapR]; rfl) | (simp; done) | (simp; rfl) | rfl))); (case g1 => (first | assumption | omega)))
          | (apply WPL.cU (c_impl_copyHeap _ ?g1 ?g2); (case q => (repeat' (first | refine And.intro ?_ ?_ | intro _ | exact cleanOut_nil | (refine Eqv.mk ?_; first | rfl | (simp -implicitDefEqProofs [hp, hl', hh, hv, noV, V.av, heapR]; done)) | (simp -implicitDefEqProofs [hp, hl', hh, hv, noV, V.av, heapR]; done) | (simp -implicitDefEqProofs [hp, hl', hh, hv, noV, V.av, heapR]; rfl) | (simp; done) | (simp; rfl) | rfl))); (case g1 => (first | assumption | omega)); (case g2 => (first | assumption | omega)))
          | ((first | refine WPc.rq tok rfl fun K hK => ?_ | refine WPL.rn tok _ (by simp [ahead, isFn]; rfl) fun K hK => ?_); simp -implicitDefEqProofs +contextual [-Int.not_le, -Int.not_lt, -Nat.not_le, -Nat.not_lt, -List.all_eq_true, -List.all_eq_false, -List.any_eq_true, -List.any_eq_false, hp, hl', hh, hv, noV, V.av, heapR]; (repeat1' (first | apply hK | apply And.intro | intro _)) <;> clear hK K <;> (try dsimp only [List.drop]))
          | (refine WPc.region ?_; simp only [List.toList_toArray])
          | (refine WPc.condT ?_ ?_; (focus (simp; done))))
        all_goals (simp [heapR, noV, V.av]; try rfl)
    · have hl' : ((a.length : Int) = arity s) = False := by simp [hl]
      refine Con.of tok (nt := 47) Go.Proofs.Tryz.func9 (by kernel_rfl) rfl rfl rfl (Nat.le_of_ble_eq_true rfl) fun G => ?_
      simp only [entSt, tmOf, List.append_nil, List.cons_append, List.nil_append]
      repeat' (first
        | (refine WPc.renR 34 900001 fun K hK => ?_; simp -implicitDefEqProofs +contextual [-Int.not_le, -Int.not_lt, -Nat.not_le, -Nat.not_lt, -List.all_eq_true, -List.all_eq_false, -List.any_eq_true, -List.any_eq_false, hp, hl', noV, V.av, heapR]; (repeat1' (first | apply hK | apply And.intro | intro _)) <;> clear hK K)
        | apply WPc.sq
        | (refine WPc.ret (endP.own [(900001, heapR h)] (.inr rfl) rfl rfl (by simp; rfl) ?_ ?_ (by simp)))
        | refine WPL.nil ?_
        | (apply WPL.cL (c_impl_isPlain _ ?g1); (case q => (repeat' (first | refine And.intro ?_ ?_ | intro _ | exact cleanOut_nil | (refine Eqv.mk ?_; first | rfl | (simp -implicitDefEqProofs [hp, hl', noV, V.av, heapR]; done)) | (simp -implicitDefEqProofs [hp, hl', noV, V.av, heapR]; done) | (simp -implicitDefEqProofs [hp, hl', noV, V.av, heapR]; rfl) | (simp; done) | (simp; rfl) | rfl))); (case g1 => (first | assumption | omega)))
        | (apply WPL.cL (c_impl_Arity _ ?g1); (case q => (repeat' (first | refine And.intro ?_ ?_ | intro _ | exact cleanOut_nil | (refine Eqv.mk ?_; first | rfl | (simp -implicitDefEqProofs [hp, hl', noV, V.av, heapR]; done)) | (simp -implicitDefEqProofs [hp, hl', noV, V.av, heapR]; done) | (simp -implicitDefEqProofs [hp, hl', noV, V.av, heapR]; rfl) | (simp; done) | (simp; rfl) | rfl))); (case g1 => (first | assumption | omega)))
        | (apply WPL.cU (c_impl_copyHeap _ ?g1 ?g2); (case q => (repeat' (first | refine And.intro ?_ ?_ | intro _ | exact cleanOut_nil | (refine Eqv.mk ?_; first | rfl | (simp -implicitDefEqProofs [hp, hl', noV, V.av, heapR]; done)) | (simp -implicitDefEqProofs [hp, hl', noV, V.av, heapR]; done) | (simp -implicitDefEqProofs [hp, hl', noV, V.av, heapR]; rfl) | (simp; done) | (simp; rfl) | rfl))); (case g1 => (first | assumption | omega)); (case g2 => (first | assumption | omega)))
        | (refine WPL.call0f ?_ ?_ ?_; (focus (simp; done)); (focus (simp; done)))
        | ((first | refine WPc.rq tok rfl fun K hK => ?_ | refine WPL.rn tok _ (by simp [ahead, isFn]; rfl) fun K hK => ?_); simp -implicitDefEqProofs +contextual [-Int.not_le, -Int.not_lt, -Nat.not_le, -Nat.not_lt, -List.all_eq_true, -List.all_eq_false, -List.any_eq_true, -List.any_eq_false, hp, hl', noV, V.av, heapR]; (repeat1' (first | apply hK | apply And.intro | intro _)) <;> clear hK K <;> (try dsimp only [List.drop]))
        | (refine WPc.region ?_; simp only [List.toList_toArray])
        | (refine WPc.condT ?_ ?_; (focus (simp; done))))
      all_goals (simp [heapR, noV, V.av]; try rfl)
theorem impl_Prim_good [F : Facts.Of] (h : List Cl) (s : ByteArray) (a : List V) (h1 : s.size < 4294967000) (h2 : ∀ c, c ∈ h → c.sm) (h3 : ∀ v, v ∈ a → v.sm) (h4 : h.length ≤ 1000000000) (h5 : ∀ c, c ∈ h → c.rm) (hg : good h s a = true) : Con PP 9 [.fz (h.map Cl.cs), .sc (.string s), .fz (a.map V.cs)] [] [] (fun r o => r = PrimR h s a ∧ o = [(900001, heapR (pH h s a))]) := by
  have e1 : pH h s a = primH h s a := by simp [pH, hg]
  have e2 : pV h s a = primV h s (arg a 0) (arg a 1) := by simp [pV, hg]
  have hP := prim_good hg
  simp only [PrimR, e1, e2]
  have hg' := hg
  simp only [good, Bool.and_eq_true, decide_eq_true_eq] at hg'
  obtain ⟨⟨⟨hp, hl⟩, hh⟩, hv⟩ := hg'
  have hl' : ((a.length : Int) = arity s) = True := by simp [hl]
  refine Con.of tok (nt := 47) Go.Proofs.Tryz.func9 (by kernel_rfl) rfl rfl rfl (Nat.le_of_ble_eq_true rfl) fun G => ?_
  simp only [entSt, tmOf, List.append_nil, List.cons_append, List.nil_append]
  repeat' (first
    | (refine WPc.detR 9 900001 [] 0 0 fun K hK => ?_; simp -implicitDefEqProofs +contextual [-Int.not_le, -Int.not_lt, -Nat.not_le, -Nat.not_lt, -List.all_eq_true, -List.all_eq_false, -List.any_eq_true, -List.any_eq_false, hp, hl', hh, hv, noV, V.av, heapR, heapB]; (repeat1' (first | apply hK | apply And.intro | intro _)) <;> clear hK K)
    | apply WPc.sq
    | (refine WPc.ret (endP.own [(900001, heapR (primH h s a))] (.inr rfl) rfl rfl (by simp; rfl) ?_ ?_ (by simp)))
    | apply WPc.skip
    | refine WPL.nil ?_
    | (apply WPL.cL (c_impl_isPlain _ ?g1); (case q => (repeat' (first | refine And.intro ?_ ?_ | intro _ | exact cleanOut_nil | (refine Eqv.mk ?_; first | rfl | (simp -implicitDefEqProofs [hp, hl', hh, hv, noV, V.av, heapR, heapB]; done)) | (simp -implicitDefEqProofs [hp, hl', hh, hv, noV, V.av, heapR, heapB]; done) | (simp -implicitDefEqProofs [hp, hl', hh, hv, noV, V.av, heapR, heapB]; rfl) | (simp; done) | (simp; rfl) | rfl))); (case g1 => (first | assumption | omega)))
    | (apply WPL.cL (c_impl_Arity _ ?g1); (case q => (repeat' (first | refine And.intro ?_ ?_ | intro _ | exact cleanOut_nil | (refine Eqv.mk ?_; first | rfl | (simp -implicitDefEqProofs [hp, hl', hh, hv, noV, V.av, heapR, heapB]; done)) | (simp -implicitDefEqProofs [hp, hl', hh, hv, noV, V.av, heapR, heapB]; done) | (simp -implicitDefEqProofs [hp, hl', hh, hv, noV, V.av, heapR, heapB]; rfl) | (simp; done) | (simp; rfl) | rfl))); (case g1 => (first | assumption | omega)))
    | (apply WPL.cL (c_impl_HeapOk _ ?g1); (case q => (repeat' (first | refine And.intro ?_ ?_ | intro _ | exact cleanOut_nil | (refine Eqv.mk ?_; first | rfl | (simp -implicitDefEqProofs [hp, hl', hh, hv, noV, V.av, heapR, heapB]; done)) | (simp -implicitDefEqProofs [hp, hl', hh, hv, noV, V.av, heapR, heapB]; done) | (simp -implicitDefEqProofs [hp, hl', hh, hv, noV, V.av, heapR, heapB]; rfl) | (simp; done) | (simp; rfl) | rfl))); (case g1 => (first | assumption | omega)))
    | (apply WPL.cL (c_impl_valuesOk _ _ ?g1); (case q => (repeat' (first | refine And.intro ?_ ?_ | intro _ | exact cleanOut_nil | (refine Eqv.mk ?_; first | rfl | (simp -implicitDefEqProofs [hp, hl', hh, hv, noV, V.av, heapR, heapB]; done)) | (simp -implicitDefEqProofs [hp, hl', hh, hv, noV, V.av, heapR, heapB]; done) | (simp -implicitDefEqProofs [hp, hl', hh, hv, noV, V.av, heapR, heapB]; rfl) | (simp; done) | (simp; rfl) | rfl))); (case g1 => (first | assumption | omega)))
    | (apply WPL.cU (c_impl_copyHeap _ ?g1 ?g2); (case q => (repeat' (first | refine And.intro ?_ ?_ | intro _ | exact cleanOut_nil | (refine Eqv.mk ?_; first | rfl | (simp -implicitDefEqProofs [hp, hl', hh, hv, noV, V.av, heapR, heapB]; done)) | (simp -implicitDefEqProofs [hp, hl', hh, hv, noV, V.av, heapR, heapB]; done) | (simp -implicitDefEqProofs [hp, hl', hh, hv, noV, V.av, heapR, heapB]; rfl) | (simp; done) | (simp; rfl) | rfl))); (case g1 => (first | assumption | omega)); (case g2 => (first | assumption | omega)))
    | (apply WPL.cU hP; (case q => (repeat' (first | refine And.intro ?_ ?_ | intro _ | exact cleanOut_nil | (refine Eqv.mk ?_; first | rfl | (simp -implicitDefEqProofs [hp, hl', hh, hv, noV, V.av, heapR, heapB]; done)) | (simp -implicitDefEqProofs [hp, hl', hh, hv, noV, V.av, heapR, heapB]; done) | (simp -implicitDefEqProofs [hp, hl', hh, hv, noV, V.av, heapR, heapB]; rfl) | (simp; done) | (simp; rfl) | rfl))))
    | ((first | refine WPc.rq tok rfl fun K hK => ?_ | refine WPL.rn tok _ (by simp [ahead, isFn]; rfl) fun K hK => ?_ | refine WPS.rn tok _ (by simp [aheadS]; rfl) fun K hK => ?_); simp -implicitDefEqProofs +contextual [-Int.not_le, -Int.not_lt, -Nat.not_le, -Nat.not_lt, -List.all_eq_true, -List.all_eq_false, -List.any_eq_true, -List.any_eq_false, hp, hl', hh, hv, noV, V.av, heapR, heapB]; (repeat1' (first | apply hK | apply And.intro | intro _)) <;> clear hK K <;> (try dsimp only [List.drop]))
    | (refine WPc.sched (id := 5) tok [(4, [7, 10])] [(0, []), (1, []), (2, [7, 10]), (3, []), (4, [7, 10]), (5, [])] (by kernel_rfl) ?_)
    | (refine WPS.nil ?_)
    | (refine WPS.eff tok fun K hK => ?_; simp -implicitDefEqProofs +contextual [-Int.not_le, -Int.not_lt, -Nat.not_le, -Nat.not_lt, -List.all_eq_true, -List.all_eq_false, -List.any_eq_true, -List.any_eq_false, hp, hl', hh, hv, noV, V.av, heapR, heapB]; (repeat1' (first | apply hK | apply And.intro | intro _)) <;> clear hK K)
    | (refine WPc.region ?_; simp only [List.toList_toArray])
    | (refine WPc.condF ?_ ?_; (focus (simp; done))))
  all_goals (simp [heapR, noV, V.av]; try rfl)
theorem c_impl_Prim [F : Facts.Of] (h : List Cl) (s : ByteArray) (a : List V) (h1 : s.size < 4294967000) (h2 : ∀ c, c ∈ h → c.sm) (h3 : ∀ v, v ∈ a → v.sm) (h4 : h.length ≤ 1000000000) (h5 : ∀ c, c ∈ h → c.rm) : Con PP 9 [.fz (h.map Cl.cs), .sc (.string s), .fz (a.map V.cs)] [] [] (fun r o => r = PrimR h s a ∧ o = [(900001, heapR (pH h s a))]) := by
  cases hg : good h s a with
  | false => exact impl_Prim_bad h s a h1 h2 h3 h4 h5 hg
  | true => exact impl_Prim_good h s a h1 h2 h3 h4 h5 hg
end Go.Own
