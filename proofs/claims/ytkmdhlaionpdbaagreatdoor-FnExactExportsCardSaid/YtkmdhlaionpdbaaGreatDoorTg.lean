import Derived.Test.YtkmdhlaionpdbaaGreatDoorTf
import Derived.Shelf.SlicesQ.IndexFunc
/- Lemmas for the proof in the last text of this claim. -/
set_option linter.unusedVariables false
set_option linter.unusedSimpArgs false
set_option linter.unusedSectionVars false
set_option maxRecDepth 1000000
set_option maxHeartbeats 400000
namespace Go.Own
variable [Laid]
open Go.Lib Go.RowKit Go.Proofs Go.Shelf
def ren6 : Go.Shelf.Ren := ⟨fun | 6 => 103 | n => n, fun | 0 => 0 | 3 => 3 | 4 => 4 | 22 => 39 | 23 => 63 | 25 => 86 | n => n, fun | n => n⟩
theorem lay6 : Go.Proofs.SlLaysH0.n6 PP ren6 := {
  mixed := by kernel_rfl
  f6 := ⟨Go.Proofs.Tryz.f103.name, by decide, Go.Proofs.Tryz.func103.trans (congrArg some (by kernel_rfl))⟩
  t0 := Go.Proofs.Tryz.underlying0
  a0 := Go.Proofs.Tryz.isAgg0
  z0 := Go.Proofs.Tryz.sizeOf0
  v0 := Go.Proofs.Tryz.zeroValue0
  t3 := Go.Proofs.Tryz.underlying3
  a3 := Go.Proofs.Tryz.isAgg3
  z3 := Go.Proofs.Tryz.sizeOf3
  v3 := Go.Proofs.Tryz.zeroValue3
  t4 := Go.Proofs.Tryz.underlying4
  a4 := Go.Proofs.Tryz.isAgg4
  z4 := Go.Proofs.Tryz.sizeOf4
  v4 := Go.Proofs.Tryz.zeroValue4
  t22 := Go.Proofs.Tryz.underlying39
  a22 := Go.Proofs.Tryz.isAgg39
  z22 := Go.Proofs.Tryz.sizeOf39
  v22 := Go.Proofs.Tryz.zeroValue39
  t25 := Go.Proofs.Tryz.underlying86
  a25 := Go.Proofs.Tryz.isAgg86
  z25 := Go.Proofs.Tryz.sizeOf86
  v25 := Go.Proofs.Tryz.zeroValue86 }
abbrev EV := ByteArray × (Nat → Value)
def encE (x : EV) : List Value := [.string x.1, x.2 1, x.2 2, x.2 3, x.2 4, x.2 5, x.2 6, x.2 7]
theorem predE (s : ByteArray) (B : Nat) (w : World) (hB : B < w.heap.size) (hc : w.cell? ⟨B, 0, none⟩ = some (.string s)) :
    PredBelow PP 104 #[.pointer (some ⟨B, 0, none⟩)] (fun x => .agg (encE x).toArray) (fun x => decide (x.1 = s)) w := fun W x hb => by
  have hcW : W.cell? ⟨B, 0, none⟩ = some (.string s) := (hb.cell (p := ⟨B, 0, none⟩) hB).trans hc
  have hBW : B < W.heap.size := Nat.lt_of_lt_of_le hB hb.size
  have hne : B ≠ W.heap.size := by omega
  show Calls PP 104 #[.agg #[.string x.1, x.2 1, x.2 2, x.2 3, x.2 4, x.2 5, x.2 6, x.2 7], .pointer (some ⟨B, 0, none⟩)] W _
  go_enter Go.Proofs.Tryz.func104, Go.Proofs.Tryz.ntmps104
  go_wp2
  all_goals (go_ret; refine ⟨by simp_all [toList_inj], hb.alloc hb.size _⟩)
theorem idxE (s : ByteArray) : ∀ (l : List EV) (k : Nat), Lib.idxByFrom (fun _ (y : EV) => decide (y.1 = s)) (default : EV) l k = fidx (l.map (·.1)) s k
  | [], k => rfl
  | x :: l, k => by
    simp only [Lib.idxByFrom, List.map_cons, fidx, idxE s l (k + 1)]
    by_cases h : x.1 = s
    · simp [h]
    · rw [if_neg (by simpa using h), if_neg (fun e => h e.symm)]
theorem idx0 (a : Option Addr) (c : Nat) (fv : Value) (w : World) :
    Calls PP 103 #[.slice a 0 c, fv] w fun e w' => e = .returned (.int .i64 (-1)) ∧ Below w.heap.size w w' := by
  go_enter Go.Proofs.Tryz.func103, Go.Proofs.Tryz.ntmps103
  go_wp2
  go_loopg [8] 0 (fun gg s8 wr => s8 = .int .i64 0 ∧ Aside (Below w.heap.size w wr))
  case atStart => exact ⟨rfl, Below.refl _ w⟩
  case round =>
    obtain ⟨rfl, BW⟩ := hrel
    go_wp2
    go_ret
    exact ⟨rfl, BW.out⟩
theorem Con.below {f : Nat} {fn : Func} {ins : List AV} {Φ : AV → List (Nat × Root) → Prop} (hf : PP.funcs[f]? = some fn) (hn : (fn.name == "runtime.NumGoroutine") = false) (hb : fn.body.isNone = false)
    (h : ∀ (β : Blk) (w : World) (args : Array Value), args.size = ins.length → (∀ i v, ins[i]? = some v → VR β w v (args.getD i undef)) → Calls PP f args w (fun e w' => ∃ v, e = .returned v ∧ Φ (.sc v) [] ∧ Below w.heap.size w w')) : Con PP f ins [] [] Φ := by
  refine ⟨⟨fn, hf, hn, hb⟩, fun β w args hl h1 h2 h3 h4 h5 => ?_⟩
  refine (h β w args h1 h2).mono fun e w' ⟨v, he, hv, hbl⟩ => ⟨v, .sc v, [], β, he, ?_⟩
  exact { ok := hv, res := .sc v, ob := fun id e k es hl => by simp [lo] at hl, uq := h4, lt := fun b x hb => Nat.lt_of_lt_of_le (h5 b x hb) hbl.size, keep := fun i hi => by simp at hi,
          fr := fun b hb _ => hbl.block b hb, old := fun b x hb _ => by rw [hb]; simp, hs := hbl.size, os := hbl.os, tape := hbl.tape, output := hbl.output,
          to := fun b id p hb _ => ⟨hb, hbl.block b (h5 b _ hb)⟩, back := fun b id p hb _ => hb }
def entV (l : List En) (f : Nat → Nat → Value) : List EV := List.ofFn fun i : Fin l.length => (l[i].src.name, f i)
theorem entV_len (l : List En) (f : Nat → Nat → Value) : (entV l f).length = l.length := by simp [entV]
theorem entV_at {l : List En} (f : Nat → Nat → Value) {j : Nat} (hj : j < l.length) : (entV l f)[j]! = (l[j].src.name, f j) := by
  rw [List.getElem!_eq_getElem?_getD, List.getElem?_eq_getElem (by rw [entV_len]; exact hj)]
  simp [entV]
theorem entV_names (l : List En) (f : Nat → Nat → Value) : (entV l f).map (·.1) = l.map fun e => e.src.name := by
  apply List.ext_getElem
  · simp [entV]
  · intro i h1 h2
    simp [entV]
theorem c_impl_libAt (l : List En) (s : ByteArray) (h1 : l.length ≤ 1000000000) : Con PP 45 [.fz (l.map En.cs), .sc (.string s)] [] [] (fun r o => r = .sc (.int .i64 (fidx (l.map fun e => e.src.name) s 0))) := by
  refine Con.below Go.Proofs.Tryz.func45 (by kernel_rfl) (by kernel_rfl) fun β w args hl hv => ?_
  have v0 := hv 0 _ rfl
  have v1 := (hv 1 (.sc (.string s)) rfl).sc_inv
  obtain ⟨u, rfl⟩ : ∃ u, args = #[u, .string s] := ⟨args.getD 0 undef, by
    apply Array.ext
    · simpa using hl
    · intro i h1 h2
      have : i = 0 ∨ i = 1 := by simp at h2; omega
      rcases this with rfl | rfl
      · simp [Array.getD_eq_getD_getElem?, Array.getElem?_eq_getElem h1]
      · simpa [Array.getD_eq_getD_getElem?, Array.getElem?_eq_getElem h1] using v1⟩
  have v0 : VR β w (.fz (l.map En.cs)) u := by simpa using v0
  clear hv v1 hl
  generalize hxs : l.map En.cs = xs at v0
  cases v0 with | fz _ _ h => ?_
  cases h with
  | fzE a c =>
    have hl : l = [] := by simpa using hxs
    subst hl
    have hcon := fun W => idx0 a c (.func (.func 104) #[] #[.pointer (some ⟨w.heap.size, 0, none⟩)]) W
    go_enter Go.Proofs.Tryz.func45, Go.Proofs.Tryz.ntmps45
    go_wp2_with (go_at_call 103; refine (hcon _).mono ?_; rintro e w' ⟨rfl, hb'⟩)
    go_ret
    exact ⟨_, rfl, rfl, ((Below.refl _ w).alloc (Nat.le_refl _) _).trans (hb'.mono (by simp))⟩
  | fzN _ b o k c f hne h0 hav hk hc0 hc hx =>
    have eg : ∀ args w, (callFunc 104 args).run PP w = .ok (.enter 104 args) w := enters_of Go.Proofs.Tryz.func104 (by kernel_rfl) rfl
    have hlen : xs.length = l.length := by rw [← hxs, List.length_map]
    have hk8 : k = 8 := by
      cases xs with
      | nil => exact absurd rfl hne
      | cons r rs =>
        have := hk r (by simp)
        cases l with
        | nil => simp at hxs
        | cons e l =>
          simp only [List.map_cons, List.cons.injEq] at hxs
          rw [← hxs.1] at this
          rw [← this]; rfl
    subst hk8
    have hB : b < w.heap.size := FR.lt hne h0 hk hc
    have hcell : ∀ j, j < (entV l f).length → ∀ i v, (encE (entV l f)[j]!)[i]? = some v → w.cell? ⟨b, o + j * 8 + i, none⟩ = some v := by
      intro j hj i v hi
      have hj' : j < l.length := by rwa [entV_len] at hj
      rw [entV_at f hj'] at hi
      have hr : xs[j]? = some (En.cs l[j]) := by rw [← hxs, List.getElem?_map, List.getElem?_eq_getElem hj']; rfl
      have hf0 : f j 0 = .string l[j].src.name := by
        have := hx j 0 _ _ hr rfl
        generalize f j 0 = v at this ⊢
        cases this; rfl
      have hi8 : i < 8 := by
        have := (List.getElem?_eq_some_iff.1 hi).1
        simpa [encE] using this
      have hi9 : i < (En.cs l[j]).length := hi8
      have hcc := hc j i _ _ hr (List.getElem?_eq_getElem hi9)
      rw [hcc]
      match i, hi8, hi with
      | 0, _, hi => simp [encE] at hi; rw [hf0, hi]
      | 1, _, hi => simpa [encE] using hi
      | 2, _, hi => simpa [encE] using hi
      | 3, _, hi => simpa [encE] using hi
      | 4, _, hi => simpa [encE] using hi
      | 5, _, hi => simpa [encE] using hi
      | 6, _, hi => simpa [encE] using hi
      | 7, _, hi => simpa [encE] using hi
    have hcon := fun (W : World) (q1 : w.heap.size < W.heap.size) (q2 : W.cell? ⟨w.heap.size, 0, none⟩ = some (.string s)) (q3 : ∀ a v, w.cell? a = some v → W.cell? a = some v) =>
      AnyQ.slices_IndexFunc lay6 8 Go.Proofs.Tryz.isAgg63 Go.Proofs.Tryz.sizeOf63 encE (fun _ => rfl) (fun x => decide (x.1 = s)) 104 #[.pointer (some ⟨w.heap.size, 0, none⟩)] eg b o xs.length c (entV l f) W
      (predE s w.heap.size W q1 q2) (by rw [entV_len, hlen]; exact Nat.le_refl _) (by omega) (by omega) (fun j hj i v hi => q3 _ _ (hcell j hj i v hi))
    rw [List.take_of_length_le (by rw [entV_len, hlen]; exact Nat.le_refl _), Lib.idxBy, idxE, entV_names] at hcon
    change ∀ (W : World), _ → _ → _ → Calls PP 103 _ _ _ at hcon
    generalize fidx (l.map fun e => e.src.name) s 0 = r at hcon ⊢
    clear hcell hc hx hk v0
    rw [hlen] at hcon ⊢
    clear hlen hxs
    go_enter Go.Proofs.Tryz.func45, Go.Proofs.Tryz.ntmps45
    go_wp2_with (go_at_call 103; refine (hcon _ (by simp) (by simp) (fun a v h => Lib.cell?_alloc_some _ h)).mono ?_; rintro e w' ⟨rfl, hb'⟩)
    go_ret
    exact ⟨_, rfl, rfl, ((Below.refl _ w).alloc (Nat.le_refl _) _).trans (hb'.mono (by simp))⟩
end Go.Own
set_option maxRecDepth 1000000
set_option maxHeartbeats 4000000
namespace Go.Own
attribute [local irreducible] WPc WPL WPS WPS1 WPS2 HAny endP
variable [Laid]
open Go.Lib Go.RowKit
def enNm (l : List En) : List ByteArray := mapT (fun e => e.src.name) l l.length
theorem enNm_eq (l : List En) : enNm l = l.map fun e => e.src.name := mapT_all _ _
theorem enNm_len (l : List En) : (enNm l).length = l.length := mapT_len _ (Nat.le_refl _)
theorem enNm_get {l : List En} {i : Nat} (hi : i < l.length) : (enNm l)[i]'(by rw [enNm_len]; exact hi) = l[i].src.name := by simp [enNm, mapT]
theorem c_spec_l13At (w : Wd) (s : ByteArray) (h1 : w.libs.length ≤ 1000000000) : Con PP 44 [w.av, .sc (.string s)] [] [] (fun r o => r = .sc (.int .i64 (fidx (enNm w.libs) s 0))) := by
  refine cof 23 Go.Proofs.Tryz.func44 fun G => ?_
  simp only [entSt, tmOf, List.append_nil, List.cons_append, List.nil_append, Wd.av]
  refine go (L := _ ∧ True) wb0 wb0 wb0 wb0 wb0 ⟨fun _ => ?_, wb0⟩
  refine WPc.loopV (σ := Nat) (fun i => i ≤ w.libs.length ∧ isW ((enNm w.libs).take i) s = false) (fun i => w.libs.length - i) (fun i => [(5, .sc (.int .i64 i))]) (fun i => [(2, 42, 7, [w.cs])]) [1, 2] 0 (by simp [Wd.cs]) (by simp [Wd.cs]) (⟨by omega, by simp [isW]⟩) ?_
  rintro i ⟨hi, hn⟩ s hs
  simp at hs
  subst hs
  by_cases hlt : i < w.libs.length
  · have hb : i + 1 ≤ 9223372036854775807 := by omega
    have hlt2 : i < (enNm w.libs).length := by rw [enNm_len]; exact hlt
    have hg := enNm_get hlt
    by_cases he : s = w.libs[i].src.name
    · have := fidx_hit (k := 0) hlt2 hn (by rw [hg]; exact he)
      have he' : (w.libs[i].src.name = s) = True := by simp [he]
      rw [this]
      refine go (L := _ ∧ True) (wa5 @Wd.cs.eq_1 @En.cs.eq_1 @hlt @hb @he') wb0 wb0 wb0 wb0 ⟨fun _ => ?_, wb0⟩
      all_goals rfl
    · have he' : (w.libs[i].src.name = s) = False := by simp; exact fun x => he x.symm
      refine go (L := _ ∧ True) (wa5 @Wd.cs.eq_1 @En.cs.eq_1 @hlt @hb @he') wb0 wb0 wb0 wb0 ⟨fun _ => ?_, wb0⟩
      all_goals
        refine ⟨i + 1, ⟨⟨hlt, isW_next hlt2 hn (by rw [hg]; exact he)⟩, by first | omega | (simp only; omega) | assumption⟩, rfl, rfl, ?_, ?_⟩ <;> simp (disch := omega) [wrap64, Wd.cs]
  · obtain rfl : i = w.libs.length := by omega
    rw [List.take_of_length_le (by rw [enNm_len]; omega)] at hn
    rw [fidx_none hn]
    refine go (L := _ ∧ True) (wa2 @hlt @Wd.cs.eq_1) wb0 wb0 wb0 wb0 ⟨fun _ => ?_, wb0⟩
    all_goals rfl
theorem fidx_ge0 (l : List ByteArray) (s : ByteArray) : ∀ k : Nat, fidx l s k < 0 ∨ ((k : Int) ≤ fidx l s k ∧ fidx l s k < ((k + l.length : Nat) : Int)) := by
  induction l with
  | nil => intro k; left; simp [fidx]
  | cons x l ih =>
    intro k
    simp only [fidx]
    split
    · right; simp; omega
    · rcases ih (k + 1) with h | h
      · exact .inl h
      · right; simp only [List.length_cons]; omega
end Go.Own
set_option maxRecDepth 1000000
set_option maxHeartbeats 4000000
namespace Go.Own
attribute [local irreducible] WPc WPL WPS WPS1 WPS2 HAny endP
variable [Laid]
open Go.Lib Go.RowKit
def expW (w : Wd) (s : ByteArray) : Option (List ByteArray) := if 0 ≤ fidx (enNm w.libs) s 0 ∧ worldOk w = true then (w.libs[(fidx (enNm w.libs) s 0).toNat]?).map fun e => e.src.exports else none
theorem exp_none {w : Wd} {s : ByteArray} (h : expW w s = none) (hm : 0 ≤ fidx (enNm w.libs) s 0) : worldOk w = false := by
  rcases fidx_ge0 (enNm w.libs) s 0 with h1 | h1
  · omega
  · rw [enNm_len] at h1
    have a2 : (fidx (enNm w.libs) s 0).toNat < w.libs.length := by omega
    rw [expW, List.getElem?_eq_getElem a2] at h
    cases hb : worldOk w with
    | false => rfl
    | true => rw [if_pos ⟨hm, hb⟩] at h; simp at h
theorem exp_some {w : Wd} {s : ByteArray} {y : List ByteArray} (h : expW w s = some y) : ∃ m : Nat, fidx (enNm w.libs) s 0 = (m : Int) ∧ worldOk w = true ∧ ∃ hm : m < w.libs.length, y = w.libs[m].src.exports := by
  rw [expW] at h
  split at h
  · rename_i hc
    refine ⟨(fidx (enNm w.libs) s 0).toNat, by omega, hc.2, ?_⟩
    cases hg : w.libs[(fidx (enNm w.libs) s 0).toNat]? with
    | none => rw [hg] at h; simp at h
    | some e =>
      rw [hg] at h
      obtain ⟨h1, h2⟩ := List.getElem?_eq_some_iff.1 hg
      refine ⟨h1, ?_⟩
      simp only [Option.map_some, Option.some.injEq] at h
      rw [h2, ← h]
  · simp at h
theorem c_impl_Exports0 [F : Facts.Of] (w : Wd) (s : ByteArray) (hs : w.sm) (hr : w.rm) (h : expW w s = none) : Con PP 17 [w.av, .sc (.string s)] [] [] (fun r o => r = .sc (.slice none 0 0)) := by
  have u1 := c_impl_WorldOk w hs hr
  have u2 := c_impl_libAt w.libs s hr.libs
  rw [← enNm_eq] at u2
  simp only [Wd.av] at u1
  have hm := exp_none h
  generalize fidx (enNm w.libs) s 0 = m at u2 hm
  by_cases h0 : 0 ≤ m
  · have a0 : ¬ m < 0 := by omega
    rw [hm h0] at u1
    refine cof 25 Go.Proofs.Tryz.func17 fun G => ?_
    simp only [entSt, tmOf, List.append_nil, List.cons_append, List.nil_append, Wd.av]
    refine go (L := _ ∧ True) (wa2 @Wd.cs.eq_1 @a0) (wb2 (fun _ => u2) (fun _ => u1)) wb0 wb0 wb0 ⟨fun _ => ?_, wb0⟩
    all_goals rfl
  · have a0 : m < 0 := by omega
    refine cof 25 Go.Proofs.Tryz.func17 fun G => ?_
    simp only [entSt, tmOf, List.append_nil, List.cons_append, List.nil_append, Wd.av]
    refine go (L := _ ∧ True) (wa2 @Wd.cs.eq_1 @a0) (wb1 (fun _ => u2)) wb0 wb0 wb0 ⟨fun _ => ?_, wb0⟩
    all_goals rfl
theorem c_impl_Exports1 [F : Facts.Of] (w : Wd) (s : ByteArray) (y : List ByteArray) (hs : w.sm) (hr : w.rm) (h : expW w s = some y) : Con PP 17 [w.av, .sc (.string s)] [] [] (fun r o => r = .sl 900009 1 [] 0 y.length ∧ o = [(900009, 9, 1, y.map sC)]) := by
  have u1 := c_impl_WorldOk w hs hr
  have u2 := c_impl_libAt w.libs s hr.libs
  rw [← enNm_eq] at u2
  obtain ⟨m, h1, h2, hlt, rfl⟩ := exp_some h
  have hel := (hr.libs1 _ (List.getElem_mem hlt)).src.exports
  have u3 := c_slices_Clone_string w.libs[m].src.exports (by omega)
  simp only [Wd.av, h2] at u1
  rw [h1] at u2
  have a0 : ¬ (m : Int) < 0 := by omega
  refine cof 25 Go.Proofs.Tryz.func17 fun G => ?_
  simp only [entSt, tmOf, List.append_nil, List.cons_append, List.nil_append, Wd.av]
  refine gox (L := _ ∧ True) (wa4 @Wd.cs.eq_1 @En.cs.eq_1 @a0 @hlt) (wb2 (fun _ => u2) (fun _ => u1)) (wb1 (fun _ => u3)) wb0 (wb2 (outs [900009]) (nm 6 [24, 900009])) ⟨fun _ => ?_, wb0⟩
  all_goals exact ⟨rfl, rfl⟩
theorem c_spec_Exports0 [F : Facts.Of] (w : Wd) (s : ByteArray) (hs : w.sm) (hr : w.rm) (h : expW w s = none) : Con PP 16 [w.av, .sc (.string s)] [] [] (fun r o => r = .sl 900009 1 [] 0 0 ∧ o = [(900009, 9, 1, [])]) := by
  have u1 := c_spec_WorldOk w hs hr
  have u2 := c_spec_l13At w s hr.libs
  simp only [Wd.av] at u1 u2
  have hm := exp_none h
  generalize fidx (enNm w.libs) s 0 = m at u2 hm
  by_cases h0 : 0 ≤ m
  · have a0 : ¬ m < 0 := by omega
    rw [hm h0] at u1
    refine cof 26 Go.Proofs.Tryz.func16 fun G => ?_
    simp only [entSt, tmOf, List.append_nil, List.cons_append, List.nil_append, Wd.av]
    refine gox (L := _ ∧ True) (wa2 @Wd.cs.eq_1 @a0) (wb1 (fun _ => u1)) wb0 wb0 (wb2 (outs [900009]) (nm 6 [14, 900009])) ⟨fun _ => ?_, wb0⟩
    all_goals exact ⟨rfl, rfl⟩
  · have a0 : m < 0 := by omega
    refine cof 26 Go.Proofs.Tryz.func16 fun G => ?_
    simp only [entSt, tmOf, List.append_nil, List.cons_append, List.nil_append, Wd.av]
    refine gox (L := _ ∧ _ ∧ True) (wa2 @Wd.cs.eq_1 @a0) (wb2 (fun _ => u1) (fun _ => u2)) wb0 wb0 (wb2 (outs [900009]) (nm 6 [14, 900009])) ⟨fun _ _ => ?_, fun _ _ => ?_, wb0⟩
    all_goals exact ⟨rfl, rfl⟩
theorem c_spec_Exports1 [F : Facts.Of] (w : Wd) (s : ByteArray) (y : List ByteArray) (hs : w.sm) (hr : w.rm) (h : expW w s = some y) : Con PP 16 [w.av, .sc (.string s)] [] [] (fun r o => r = .sl 900009 1 [] 0 y.length ∧ o = [(900009, 9, 1, y.map sC)]) := by
  have u1 := c_spec_WorldOk w hs hr
  have u2 := c_spec_l13At w s hr.libs
  simp only [Wd.av] at u1 u2
  obtain ⟨m, h1, h2, hlt, rfl⟩ := exp_some h
  have hel := (hr.libs1 _ (List.getElem_mem hlt)).src.exports
  have hel1 : w.libs[m].src.exports.length * 16 ≤ 140737488355328 := by omega
  have hel2 : w.libs[m].src.exports.length ≤ 9223372036854775807 := by omega
  rw [h2] at u1
  rw [h1] at u2
  have a0 : ¬ (m : Int) < 0 := by omega
  have a1 : (m : Int) < (w.libs.length : Int) := by omega
  refine cof 26 Go.Proofs.Tryz.func16 fun G => ?_
  simp only [entSt, tmOf, List.append_nil, List.cons_append, List.nil_append, Wd.av]
  repeat' (first
    | (refine WPc.renR 15 900009 fun K hK => ?_; simp -implicitDefEqProofs +contextual [-Int.not_le, -Int.not_lt, -Nat.not_le, -Nat.not_lt, -List.all_eq_true, -List.all_eq_false, -List.any_eq_true, -List.any_eq_false, Wd.cs, En.cs, a0, a1, hlt, hel1, hel2]; (repeat1' (first | apply hK | apply And.intro | intro _)) <;> clear hK K)
    | apply WPc.sq
    | (apply WPc.ret; apply endP.sel (is := [900009]) (he := .inr rfl); (case hs => rfl); (case hg => rfl); (case h => (simp; rfl)); (case hO => (simp; rfl)); (case hk => (simp; done)))
    | apply WPc.skip
    | refine WPL.nil ?_
    | (apply WPL.cL u1; (case q => (repeat' (first | refine And.intro ?_ ?_ | intro _ | (with_reducible exact cleanOut_nil) | (refine Eqv.mk ?_; first | rfl | (simp -implicitDefEqProofs [Wd.cs, En.cs, a0, a1, hlt, hel1, hel2]; done)) | (simp -implicitDefEqProofs [Wd.cs, En.cs, a0, a1, hlt, hel1, hel2]; done) | (simp -implicitDefEqProofs [Wd.cs, En.cs, a0, a1, hlt, hel1, hel2]; rfl) | (simp; done) | (simp; rfl) | rfl))))
    | (apply WPL.cL u2; (case q => (repeat' (first | refine And.intro ?_ ?_ | intro _ | (with_reducible exact cleanOut_nil) | (refine Eqv.mk ?_; first | rfl | (simp -implicitDefEqProofs [Wd.cs, En.cs, a0, a1, hlt, hel1, hel2]; done)) | (simp -implicitDefEqProofs [Wd.cs, En.cs, a0, a1, hlt, hel1, hel2]; done) | (simp -implicitDefEqProofs [Wd.cs, En.cs, a0, a1, hlt, hel1, hel2]; rfl) | (simp; done) | (simp; rfl) | rfl))))
    | (apply WPS1.callL (hc := u2); (case ho => exact rfl); (case hg => (simp; done)); (case hd => (simp; done)); (case hl => (first | (simp; done) | (simp; rfl) | (simp -implicitDefEqProofs [Wd.cs, En.cs, a0, a1, hlt, hel1, hel2]; done) | (simp -implicitDefEqProofs [Wd.cs, En.cs, a0, a1, hlt, hel1, hel2]; rfl))); (case hb => rfl); (case hins => (first | (simp -implicitDefEqProofs [Wd.cs, En.cs, a0, a1, hlt, hel1, hel2]; done) | (simp -implicitDefEqProofs [Wd.cs, En.cs, a0, a1, hlt, hel1, hel2]; rfl) | rfl)); (case he => (first | rfl | (simp -implicitDefEqProofs [Wd.cs, En.cs, a0, a1, hlt, hel1, hel2]; done))); (case hz => (first | (exact .inl rfl) | (simp; done) | (exact .inr (by simp -implicitDefEqProofs [Wd.cs, En.cs, a0, a1, hlt, hel1, hel2])))))
    | (apply WPS.cL (hc := u2); (case ho => exact rfl); (case q => (repeat' (first | refine And.intro ?_ ?_ | intro _ | (with_reducible exact cleanOut_nil) | (refine Eqv.mk ?_; first | rfl | (simp -implicitDefEqProofs [Wd.cs, En.cs, a0, a1, hlt, hel1, hel2]; done)) | (simp -implicitDefEqProofs [Wd.cs, En.cs, a0, a1, hlt, hel1, hel2]; done) | (simp -implicitDefEqProofs [Wd.cs, En.cs, a0, a1, hlt, hel1, hel2]; rfl) | (simp; done) | (simp; rfl) | rfl))))
    | ((first | refine WPc.rq tok rfl fun K hK => ?_ | refine WPL.rn tok _ (by simp [ahead, isFn]; rfl) fun K hK => ?_ | refine WPS.rn tok _ (by simp [aheadS]; rfl) fun K hK => ?_); simp -implicitDefEqProofs +contextual [-Int.not_le, -Int.not_lt, -Nat.not_le, -Nat.not_lt, -List.all_eq_true, -List.all_eq_false, -List.any_eq_true, -List.any_eq_false, Wd.cs, En.cs, a0, a1, hlt, hel1, hel2]; (repeat1' (first | apply hK | apply And.intro | intro _)) <;> clear hK K <;> (try dsimp only [List.drop]))
    | (refine WPc.sched2 (id := 3) tok [(0, [15]), (10, [2, 15, 20, 25, 1020, 2020])] [(1, [15]), (2, [15]), (3, [15]), (4, [15])] [(0, [15]), (5, []), (6, []), (7, []), (8, []), (9, []), (10, [2, 15, 20, 25, 1020, 2020]), (11, [])] [(5, []), (6, [15]), (7, [15]), (8, [15]), (9, [15]), (0, [15]), (10, [2, 15, 20, 25, 1020, 2020]), (11, [])] (by kernel_rfl) fun K hK => ?_; simp -implicitDefEqProofs +contextual [-Int.not_le, -Int.not_lt, -Nat.not_le, -Nat.not_lt, -List.all_eq_true, -List.all_eq_false, -List.any_eq_true, -List.any_eq_false, Wd.cs, En.cs, a0, a1, hlt, hel1, hel2]; (repeat1' (first | refine hK _ ?_ ?_ | apply And.intro | intro _)) <;> clear hK K)
    | (refine WPS1.eff tok fun K hK => ?_; simp -implicitDefEqProofs +contextual [-Int.not_le, -Int.not_lt, -Nat.not_le, -Nat.not_lt, -List.all_eq_true, -List.all_eq_false, -List.any_eq_true, -List.any_eq_false, Wd.cs, En.cs, a0, a1, hlt, hel1, hel2]; (repeat1' (first | apply hK | apply And.intro | intro _)) <;> clear hK K)
    | (refine WPS.nil ?_)
    | (refine WPS.eff tok fun K hK => ?_; simp -implicitDefEqProofs +contextual [-Int.not_le, -Int.not_lt, -Nat.not_le, -Nat.not_lt, -List.all_eq_true, -List.all_eq_false, -List.any_eq_true, -List.any_eq_false, Wd.cs, En.cs, a0, a1, hlt, hel1, hel2]; (repeat1' (first | apply hK | apply And.intro | intro _)) <;> clear hK K)
    | (refine WPc.region ?_; simp only [List.toList_toArray])
    | (refine WPc.condF ?_ ?_; (focus (simp; done))))
  all_goals exact ⟨rfl, rfl⟩
end Go.Own
set_option maxRecDepth 1000000
set_option maxHeartbeats 4000000
namespace Go.Own
attribute [local irreducible] WPc WPL WPS WPS1 WPS2 HAny endP
variable [Laid]
open Go.Lib Go.RowKit
def mt (k : Int) : ByteArray := if k ≤ 0 then ⟨#[109, 48]⟩ else ⟨#[109]⟩ ++ dec k
theorem c_laws_markText (k : Int) (h1 : k ≤ 9223372036854775807) : Con PP 55 [.sc (.int .i64 k)] [] [] (fun r o => r = .sc (.string (mt k))) := by
  by_cases hk : k ≤ 0
  · refine cof 20 Go.Proofs.Tryz.func55 fun G => ?_
    simp only [entSt, tmOf, List.append_nil, List.cons_append, List.nil_append]
    refine go (L := _ ∧ True) (wa1 @hk) wb0 wb0 wb0 wb0 ⟨fun _ => ?_, wb0⟩
    all_goals (simp [mt, hk])
  have hdiv : ∀ m out, DecI k m out → IntKind.i64.wrap (m.tdiv 10) = m.tdiv 10 := fun m out hI => by
    have := hI.le
    have h2 : (m.tdiv 10).natAbs = m.natAbs / 10 := by rw [Int.natAbs_tdiv]; rfl
    have := hI.pos (by omega)
    have := Int.tdiv_nonneg this (show (0 : Int) ≤ 10 by omega)
    exact wrap64 (by omega) (by omega)
  refine cof 20 Go.Proofs.Tryz.func55 fun G => ?_
  simp only [entSt, tmOf, List.append_nil, List.cons_append, List.nil_append]
  refine go (L := _ ∧ True) (wa1 @hk) wb0 wb0 wb0 wb0 ⟨fun _ => ?_, wb0⟩
  refine WPc.loopK (σ := Int × ByteArray) (fun x => DecI k x.1 x.2) (fun x => x.1.natAbs) (fun x => [(0, .sc (.int .i64 x.1)), (3, .sc (.string x.2))])  [] (k, ⟨#[]⟩) (by simp) (by simp) (⟨by simp [ddig]; omega, by simp, fun h => by dsimp only; omega, by simp, by simp [ByteArray.size]⟩) ?_
  rintro ⟨m, out⟩ hI s hs
  simp at hs
  subst hs
  have hs := hI.sz
  dsimp only at hs hI
  have hp := hI.pos (by omega)
  by_cases hm : m = 0
  · subst hm
    have s1 : SAdd ⟨#[109]⟩ out := by unfold SAdd; have : (⟨#[109]⟩ : ByteArray).size = 1 := rfl; omega
    have he := hI.eq
    simp only [ddig, if_true, List.nil_append] at he
    have hd : dec k = out := by
      unfold dec itoa
      rw [if_neg (by omega), show k.toNat = k.natAbs by omega, he]
    refine go (L := _ ∧ True) (wa1 @s1) wb0 wb0 wb0 wb0 ⟨fun _ => ?_, wb0⟩
    all_goals (simp only [mt, if_neg hk, hd])
  · have hm2 : 0 < m := by omega
    have s1 : ∀ c : Int, SAdd (strOfNums [c]) out := fun c => by unfold SAdd; rw [strOfNums_size]; simp; omega
    have hb := digit_byte m
    have hg : ¬ m.tmod 10 < 0 := by have := Int.tmod_nonneg 10 (show 0 ≤ m by omega); omega
    rw [if_neg hg] at hb
    have hn := hI.next (by omega) hm
    have hmm : (m.tdiv 10).natAbs < m.natAbs := by rw [Int.natAbs_tdiv]; show m.natAbs / 10 < _; omega
    refine go (L := _ ∧ True) (wa2 @hm2 @s1) wb0 wb0 wb0 wb0 ⟨fun _ => ?_, wb0⟩
    all_goals
      refine ⟨(m.tdiv 10, nextD m out), ⟨hn, by first | omega | (simp only; omega) | assumption⟩, rfl, rfl, ?_, ?_⟩ <;> simp (disch := omega) [wrap64, nextD, hb, hdiv _ _ hI]
def over (new old : List (List C)) (i : Nat) : List (List C) := new.take i ++ old.drop i
section
variable {new old : List (List C)} {i : Nat}
theorem over_zero : over new old 0 = old := by simp [over]
theorem over_all (h : new.length = old.length) : over new old old.length = new := by simp [over, List.take_of_length_le (Nat.le_of_eq h)]
theorem over_len (h : new.length = old.length) : (over new old i).length = old.length := by simp [over]; omega
theorem over_get (h : new.length = old.length) (hi : i < old.length) : (over new old i)[i]? = some old[i] := by
  unfold over
  rw [List.getElem?_append_right (by simp; omega), List.getElem?_drop]
  simp only [List.length_take, Nat.min_eq_left (show i ≤ new.length by omega), Nat.sub_self, Nat.add_zero]
  exact List.getElem?_eq_getElem hi
theorem over_ge (h : new.length = old.length) (hi : i < old.length) (p : i < (over new old i).length) : (over new old i)[i] = old[i] := by
  have := over_get (new := new) h hi
  rw [List.getElem?_eq_getElem p] at this
  exact Option.some.inj this
theorem over_next {g : List C → List C} (h : new.length = old.length) (hi : i < old.length) (hg : new[i]? = some (g old[i])) : (over new old i).modify i g = over new old (i + 1) := by
  apply List.ext_getElem?
  intro j
  rw [List.getElem?_modify]
  by_cases hj : i = j
  · subst hj
    rw [over_get h hi]
    unfold over
    rw [List.getElem?_append_left (by simp; omega), List.getElem?_take_of_lt (by omega), hg]
    simp
  · simp only [hj, if_false]
    unfold over
    by_cases h1 : j < i
    · rw [List.getElem?_append_left (by simp; omega), List.getElem?_append_left (by simp; omega), List.getElem?_take_of_lt h1, List.getElem?_take_of_lt (by omega)]
      simp
    · rw [List.getElem?_append_right (by simp; omega), List.getElem?_append_right (by simp; omega), List.getElem?_drop, List.getElem?_drop]
      simp only [List.length_take, Nat.min_eq_left (show i ≤ new.length by omega), Nat.min_eq_left (show i + 1 ≤ new.length by omega), Option.map_eq_map, Option.map_id']
      rw [show i + (j - i) = j by omega, show i + 1 + (j - (i + 1)) = j by omega]
end
def marksS (k : Int) (n : Nat) : List ByteArray := (List.range n).map fun i => mt (k + (i : Nat))
theorem marksS_len (k : Int) (n : Nat) : (marksS k n).length = n := by simp [marksS]
theorem c_laws_markStringS (l : List ByteArray) (k : Int) (h1 : -1000000000000 ≤ k) (h2 : k ≤ 1000000000000) (h3 : l.length ≤ 1000000000) : Con PP 20 [.sl 0 1 [] 0 l.length, .sc (.int .i64 k)] [(0, 9, 1, l.map sC)] [0] (fun r o => r = .sc (.int .i64 (k + l.length)) ∧ o = [(0, 9, 1, (marksS k l.length).map sC)]) := by
  have hm : ((marksS k l.length).map sC).length = (l.map sC).length := by simp [marksS]
  refine cof 20 Go.Proofs.Tryz.func20 fun G => ?_
  simp only [entSt, tmOf, List.append_nil, List.cons_append, List.nil_append]
  refine go (L := _ ∧ True) wb0 wb0 wb0 wb0 wb0 ⟨fun _ => ?_, wb0⟩
  refine WPc.loopV (σ := Nat) (fun i => i ≤ l.length) (fun i => l.length - i) (fun i => [(5, .sc (.int .i64 i)), (1, .sc (.int .i64 (k + i)))]) (fun i => [(0, 9, 1, over ((marksS k l.length).map sC) (l.map sC) i)]) [0, 20] 0 (by simp [over_zero]) (by simp [over_zero]) (by simp) ?_
  rintro i hi s hs
  simp at hs
  subst hs
  by_cases hlt : i < l.length
  · have hl := over_len (i := i) hm
    have hge := over_ge (i := i) hm (by simpa using hlt)
    have hn := over_next (i := i) (g := fun r => r.set 0 (.sc (.string (mt (k + i))))) hm (by simpa using hlt) (by simp [marksS, sC, hlt])
    simp only [List.length_map, List.getElem_map] at hl hge
    refine go (L := _ ∧ True) (wa4 @sC.eq_1 @hlt @hl @hge) (wb1 (fun v0 (h : _) => c_laws_markText v0 h)) wb0 wb0 wb0 ⟨fun _ => ?_, wb0⟩
    refine ⟨i + 1, ⟨hlt, by first | omega | (simp only; omega) | assumption⟩, rfl, rfl, ?_, ?_⟩ <;> simp (disch := omega) [wrap64, hn]
    all_goals (refine fit_int ?_; omega)
  · obtain rfl : i = l.length := by omega
    have ha := over_all hm
    simp only [List.length_map] at ha
    refine gox (L := _ ∧ _ ∧ True) wb0 wb0 wb0 wb0 (wb1 (outO [(0, 9, 1, (marksS k l.length).map sC)])) ⟨fun _ => ?_, fun _ => ?_, wb0⟩
    · simp [ha]
    · exact ⟨rfl, rfl⟩
def markV (k : Int) : V := ⟨k, k + 1, mt (k + 2)⟩
def marksV (k : Int) (n : Nat) : List V := (List.range n).map fun i => markV (k + 3 * (i : Nat))
theorem marksV_len (k : Int) (n : Nat) : (marksV k n).length = n := by simp [marksV]
theorem c_laws_markValueS (l : List V) (k : Int) (h1 : -1000000000000 ≤ k) (h2 : k ≤ 1000000000000) (h3 : l.length ≤ 1000000000) : Con PP 169 [.sl 0 3 [] 0 l.length, .sc (.int .i64 k)] [(0, 71, 3, l.map V.cs)] [0] (fun r o => r = .sc (.int .i64 (k + 3 * l.length)) ∧ o = [(0, 71, 3, (marksV k l.length).map V.cs)]) := by
  have hm : ((marksV k l.length).map V.cs).length = (l.map V.cs).length := by simp [marksV]
  refine cof 35 Go.Proofs.Tryz.func169 fun G => ?_
  simp only [entSt, tmOf, List.append_nil, List.cons_append, List.nil_append]
  refine go (L := _ ∧ True) wb0 wb0 wb0 wb0 wb0 ⟨fun _ => ?_, wb0⟩
  refine WPc.loopV (σ := Nat) (fun i => i ≤ l.length) (fun i => l.length - i) (fun i => [(5, .sc (.int .i64 i)), (1, .sc (.int .i64 (k + 3 * (i : Nat))))]) (fun i => [(0, 71, 3, over ((marksV k l.length).map V.cs) (l.map V.cs) i)]) [0, 35] 0 (by simp [over_zero]) (by simp [over_zero]) (by simp) ?_
  rintro i hi s hs
  simp at hs
  subst hs
  by_cases hlt : i < l.length
  · have hl := over_len (i := i) hm
    have hge := over_ge (i := i) hm (by simpa using hlt)
    have hn : (((over ((marksV k l.length).map V.cs) (l.map V.cs) i).modify i fun r => r.set 0 (.sc (.int .i64 (k + 3 * (i : Nat))))).modify i fun r => r.set 1 (.sc (.int .i64 (k + 3 * (i : Nat) + 1)))).modify i (fun r => r.set 2 (.sc (.string (mt (k + 3 * (i : Nat) + 2))))) = over ((marksV k l.length).map V.cs) (l.map V.cs) (i + 1) := by
      rw [List.modify_modify_eq, List.modify_modify_eq]
      exact over_next hm (by simpa using hlt) (by simp [marksV, markV, V.cs, hlt])
    simp only [List.length_map, List.getElem_map] at hl hge
    have e1 : IntKind.i64.wrap (k + 3 * (i : Nat) + 1) = k + 3 * (i : Nat) + 1 := wrap64 (by omega) (by omega)
    have e2 : IntKind.i64.wrap (k + 3 * (i : Nat) + 1 + 1) = k + 3 * (i : Nat) + 2 := by rw [wrap64 (by omega) (by omega)]; omega
    have e3 : IntKind.i64.wrap (k + 3 * (i : Nat) + 2 + 1) = k + 3 * (i : Nat) + 3 := by rw [wrap64 (by omega) (by omega)]; omega
    refine go (L := _ ∧ True) (wa7 @V.cs.eq_1 @hlt @hl @hge @e1 @e2 @e3) (wb1 (fun v0 (h : _) => c_laws_markText v0 h)) wb0 wb0 wb0 ⟨fun _ => ?_, wb0⟩
    refine ⟨i + 1, ⟨hlt, by first | omega | (simp only; omega) | assumption⟩, rfl, rfl, ?_, ?_⟩ <;> simp (disch := omega) [wrap64, hn]
    all_goals (refine fit_int ?_; omega)
  · obtain rfl : i = l.length := by omega
    have ha := over_all hm
    simp only [List.length_map] at ha
    refine gox (L := _ ∧ _ ∧ True) wb0 wb0 wb0 wb0 (wb1 (outO [(0, 71, 3, (marksV k l.length).map V.cs)])) ⟨fun _ => ?_, fun _ => ?_, wb0⟩
    · simp [ha]
    · exact ⟨rfl, rfl⟩
end Go.Own
set_option maxRecDepth 1000000
set_option maxHeartbeats 4000000
namespace Go.Own
attribute [local irreducible] WPc WPL WPS WPS1 WPS2 HAny endP
variable [Laid]
open Go.Lib Go.RowKit
def markC (k : Int) (c : Cl) : Cl := ⟨k, mt (k + 1), k + 2, k + 3, marksS (k + 4) c.names.length, marksV (k + 4 + c.names.length) c.vals.length⟩
def mk (c : Cl) : Nat := 4 + c.names.length + 3 * c.vals.length
def marksC (k : Int) (h : List Cl) : List Cl := h.mapIdx fun i c => markC (k + sumTo mk h i) c
def sumC (h : List Cl) : Nat := (h.map mk).sum
theorem c_laws_markCellS (h : List Cl) (k : Int) (h1 : -1000000000 ≤ k) (h2 : k ≤ 1000000000) (h3 : h.length ≤ 1000000000) (h4 : sumC h ≤ 1000000000) : Con PP 110 [.sl 0 6 [] 0 h.length, .sc (.int .i64 k)] [(0, 133, 6, h.map Cl.ow)] [0] (fun r o => r = .sc (.int .i64 (k + sumC h)) ∧ o = [(0, 133, 6, (marksC k h).map Cl.ow)]) := by
  have hm : ((marksC k h).map Cl.ow).length = (h.map Cl.ow).length := by simp [marksC]
  refine cof 56 Go.Proofs.Tryz.func110 fun G => ?_
  simp only [entSt, tmOf, List.append_nil, List.cons_append, List.nil_append]
  refine go (L := _ ∧ True) wb0 wb0 wb0 wb0 wb0 ⟨fun _ => ?_, wb0⟩
  refine WPc.loopV (σ := Nat) (fun i => i ≤ h.length) (fun i => h.length - i) (fun i => [(5, .sc (.int .i64 i)), (1, .sc (.int .i64 (k + sumTo mk h i)))]) (fun i => [(0, 133, 6, over ((marksC k h).map Cl.ow) (h.map Cl.ow) i)]) [0, 56] 0 (by simp [over_zero, sumTo_zero]) (by simp [over_zero, sumTo_zero]) (by simp) ?_
  rintro i hi s hs
  simp at hs
  subst hs
  by_cases hlt : i < h.length
  · have hl := over_len (i := i) hm
    have hge := over_ge (i := i) hm (by simpa using hlt)
    have hgo := over_get (i := i) hm (by simpa using hlt)
    simp only [List.length_map, List.getElem_map] at hl hge hgo
    have hs := sumTo_next (f := mk) hlt
    have hsl := sumTo_le mk h (i + 1)
    have hmk : mk h[i] = 4 + h[i].names.length + 3 * h[i].vals.length := rfl
    unfold sumC at h4
    have e1 : IntKind.i64.wrap (k + sumTo mk h i + 1) = k + sumTo mk h i + 1 := wrap64 (by omega) (by omega)
    have e2 : IntKind.i64.wrap (k + sumTo mk h i + 1 + 1) = k + sumTo mk h i + 2 := by rw [wrap64 (by omega) (by omega)]; omega
    have e3 : IntKind.i64.wrap (k + sumTo mk h i + 2 + 1) = k + sumTo mk h i + 3 := by rw [wrap64 (by omega) (by omega)]; omega
    have e4 : IntKind.i64.wrap (k + sumTo mk h i + 3 + 1) = k + sumTo mk h i + 4 := by rw [wrap64 (by omega) (by omega)]; omega
    have hn1 : h[i].names.length ≤ 1000000000 := by omega
    have hn2 : h[i].vals.length ≤ 1000000000 := by omega
    have hn : ∀ u v : C, ((((((((over ((marksC k h).map Cl.ow) (h.map Cl.ow) i).modify i fun r => r.set 0 (.sc (.int .i64 (k + sumTo mk h i)))).modify i fun r => r.set 1 (.sc (.string (mt (k + sumTo mk h i + 1))))).modify i fun r => r.set 2 (.sc (.int .i64 (k + sumTo mk h i + 2)))).modify i fun r => r.set 3 (.sc (.int .i64 (k + sumTo mk h i + 3)))).modify i fun r => r.set 4 u).modify i fun r => r.set 4 (.sl 9 1 ((marksS (k + sumTo mk h i + 4) h[i].names.length).map sC))).modify i fun r => r.set 5 v).modify i (fun r => r.set 5 (.sl 71 3 ((marksV (k + sumTo mk h i + 4 + h[i].names.length) h[i].vals.length).map V.cs))) = over ((marksC k h).map Cl.ow) (h.map Cl.ow) (i + 1) := fun u v => by
      rw [List.modify_modify_eq, List.modify_modify_eq, List.modify_modify_eq, List.modify_modify_eq, List.modify_modify_eq, List.modify_modify_eq, List.modify_modify_eq]
      exact over_next hm (by simpa using hlt) (by simp [marksC, markC, Cl.ow, hlt])
    refine gox (L := _ ∧ True) (wa11 @Cl.ow.eq_1 @hlt @hl @hge @hgo @e1 @e2 @e3 @e4 @marksS_len @marksV_len) (wb1 (fun v0 (h : _) => c_laws_markText v0 h)) (wb2 (fun v0 v1 (h : _ ∧ _ ∧ _) => c_laws_markStringS v0 v1 h.1 h.2.1 h.2.2) (fun v0 v1 (h : _ ∧ _ ∧ _) => c_laws_markValueS v0 v1 h.1 h.2.1 h.2.2)) wb0 (wb5 wb0 (nm 3 [47, 0, 900001, 1056, i, 4]) (nm 4 [1, 0, 900001, 1056, i, 4]) (nm 3 [54, 0, 900002, 1056, i, 5]) (nm 4 [1, 0, 900002, 1056, i, 5])) ⟨fun _ _ _ => ?_, wb0⟩
    refine ⟨i + 1, ⟨hlt, by first | omega | (simp only; omega) | assumption⟩, rfl, rfl, ?_, ?_⟩ <;> simp (disch := omega) [wrap64, hn]
    all_goals (refine fit_int ?_; omega)
  · obtain rfl : i = h.length := by omega
    have ha := over_all hm
    simp only [List.length_map] at ha
    refine gox (L := _ ∧ _ ∧ True) wb0 wb0 wb0 wb0 (wb1 (outO [(0, 133, 6, (marksC k h).map Cl.ow)])) ⟨fun _ => ?_, fun _ => ?_, wb0⟩
    · simp [ha]
    · refine ⟨?_, rfl⟩
      rw [sumTo_all]; rfl
end Go.Own
set_option maxRecDepth 1000000
set_option maxHeartbeats 4000000
namespace Go.Own
attribute [local irreducible] WPc WPL WPS WPS1 WPS2 HAny endP
variable [Laid]
open Go.Lib Go.RowKit
theorem marksS_get (k : Int) (n i : Nat) (hi : i < (marksS k n).length) : (marksS k n)[i] = mt (k + i) := by simp [marksS]
theorem c_laws_heldStringS (n : Nat) (k : Int) (h1 : -1000000000000 ≤ k) (h2 : k ≤ 1000000000000) (h3 : n ≤ 1000000000) : Con PP 21 [.fz ((marksS k n).map sC), .sc (.int .i64 k)] [] [] (fun r o => r = .sc (.int .i64 (k + n))) := by
  have hml := marksS_len k n
  refine cof 22 Go.Proofs.Tryz.func21 fun G => ?_
  simp only [entSt, tmOf, List.append_nil, List.cons_append, List.nil_append]
  refine go (L := _ ∧ True) wb0 wb0 wb0 wb0 wb0 ⟨fun _ => ?_, wb0⟩
  refine WPc.loopK (σ := Nat) (fun i => i ≤ n) (fun i => n - i) (fun i => [(5, .sc (.int .i64 i)), (1, .sc (.int .i64 (k + i)))])  [0] 0 (by simp) (by simp) (by simp) ?_
  rintro i hi s hs
  simp at hs
  subst hs
  by_cases hlt : i < n
  · have hg := marksS_get k n i
    refine go (L := _ ∧ True) (wa4 @sC.eq_1 @hlt @hml @hg) (wb1 (fun v0 (h : _) => c_laws_markText v0 h)) wb0 wb0 (wb2 wb0 (sch 4 [] [(0, []), (1, []), (2, []), (3, []), (4, []), (5, []), (6, [])])) ⟨fun _ => ?_, wb0⟩
    all_goals
      refine ⟨i + 1, ⟨hlt, by first | omega | (simp only; omega) | assumption⟩, rfl, rfl, ?_, ?_⟩ <;> simp (disch := omega) [wrap64]
    all_goals (refine fit_int ?_; omega)
  · obtain rfl : i = n := by omega
    refine go (L := _ ∧ True) (wa1 @hml) wb0 wb0 wb0 wb0 ⟨fun _ => ?_, wb0⟩
    all_goals rfl
end Go.Own
set_option maxRecDepth 1000000
set_option maxHeartbeats 4000000
namespace Go.Own
attribute [local irreducible] WPc WPL WPS WPS1 WPS2 HAny endP
variable [Laid]
open Go.Lib Go.RowKit
def marksI (k : Int) (n : Nat) : List Int := (List.range n).map fun i => k + (i : Nat)
theorem marksI_len (k : Int) (n : Nat) : (marksI k n).length = n := by simp [marksI]
def markN (k : Int) (c : Nd) : Nd := ⟨k, k + 1, mt (k + 2), marksS (k + 3) c.names.length, marksI (k + 3 + c.names.length) c.args.length⟩
def mkN (c : Nd) : Nat := 3 + c.names.length + c.args.length
def marksN (k : Int) (h : List Nd) : List Nd := h.mapIdx fun i c => markN (k + sumTo mkN h i) c
def sumN (h : List Nd) : Nat := (h.map mkN).sum
theorem marksN_len (k : Int) (h : List Nd) : (marksN k h).length = h.length := by simp [marksN]
theorem c_laws_markIntS (l : List Int) (k : Int) (h1 : -1000000000000 ≤ k) (h2 : k ≤ 1000000000000) (h3 : l.length ≤ 1000000000) : Con PP 208 [.sl 0 1 [] 0 l.length, .sc (.int .i64 k)] [(0, 3, 1, l.map nC)] [0] (fun r o => r = .sc (.int .i64 (k + l.length)) ∧ o = [(0, 3, 1, (marksI k l.length).map nC)]) := by
  have hm : ((marksI k l.length).map nC).length = (l.map nC).length := by simp [marksI]
  refine cof 19 Go.Proofs.Tryz.func208 fun G => ?_
  simp only [entSt, tmOf, List.append_nil, List.cons_append, List.nil_append]
  refine go (L := _ ∧ True) wb0 wb0 wb0 wb0 wb0 ⟨fun _ => ?_, wb0⟩
  refine WPc.loopV (σ := Nat) (fun i => i ≤ l.length) (fun i => l.length - i) (fun i => [(5, .sc (.int .i64 i)), (1, .sc (.int .i64 (k + i)))]) (fun i => [(0, 3, 1, over ((marksI k l.length).map nC) (l.map nC) i)]) [0, 19] 0 (by simp [over_zero]) (by simp [over_zero]) (by simp) ?_
  rintro i hi s hs
  simp at hs
  subst hs
  by_cases hlt : i < l.length
  · have hl := over_len (i := i) hm
    have hge := over_ge (i := i) hm (by simpa using hlt)
    have hn := over_next (i := i) (g := fun r => r.set 0 (.sc (.int .i64 (k + i)))) hm (by simpa using hlt) (by simp [marksI, nC, hlt])
    simp only [List.length_map, List.getElem_map] at hl hge
    refine go (L := _ ∧ True) (wa4 @nC.eq_1 @hlt @hl @hge) wb0 wb0 wb0 wb0 ⟨fun _ => ?_, wb0⟩
    refine ⟨i + 1, ⟨hlt, by first | omega | (simp only; omega) | assumption⟩, rfl, rfl, ?_, ?_⟩ <;> simp (disch := omega) [wrap64, hn]
    all_goals (refine fit_int ?_; omega)
  · obtain rfl : i = l.length := by omega
    have ha := over_all hm
    simp only [List.length_map] at ha
    refine gox (L := _ ∧ _ ∧ True) wb0 wb0 wb0 wb0 (wb1 (outO [(0, 3, 1, (marksI k l.length).map nC)])) ⟨fun _ => ?_, fun _ => ?_, wb0⟩
    · simp [ha]
    · exact ⟨rfl, rfl⟩
theorem c_laws_markNodeS (h : List Nd) (k : Int) (h1 : -1000000000 ≤ k) (h2 : k ≤ 1000000000) (h3 : h.length ≤ 1000000000) (h4 : sumN h ≤ 1000000000) : Con PP 171 [.sl 0 5 [] 0 h.length, .sc (.int .i64 k)] [(0, 136, 5, h.map Nd.ow)] [0] (fun r o => r = .sc (.int .i64 (k + sumN h)) ∧ o = [(0, 136, 5, (marksN k h).map Nd.ow)]) := by
  have hm : ((marksN k h).map Nd.ow).length = (h.map Nd.ow).length := by simp [marksN]
  refine cof 49 Go.Proofs.Tryz.func171 fun G => ?_
  simp only [entSt, tmOf, List.append_nil, List.cons_append, List.nil_append]
  refine go (L := _ ∧ True) wb0 wb0 wb0 wb0 wb0 ⟨fun _ => ?_, wb0⟩
  refine WPc.loopV (σ := Nat) (fun i => i ≤ h.length) (fun i => h.length - i) (fun i => [(5, .sc (.int .i64 i)), (1, .sc (.int .i64 (k + sumTo mkN h i)))]) (fun i => [(0, 136, 5, over ((marksN k h).map Nd.ow) (h.map Nd.ow) i)]) [0, 49] 0 (by simp [over_zero, sumTo_zero]) (by simp [over_zero, sumTo_zero]) (by simp) ?_
  rintro i hi s hs
  simp at hs
  subst hs
  by_cases hlt : i < h.length
  · have hl := over_len (i := i) hm
    have hge := over_ge (i := i) hm (by simpa using hlt)
    have hgo := over_get (i := i) hm (by simpa using hlt)
    simp only [List.length_map, List.getElem_map] at hl hge hgo
    have hs := sumTo_next (f := mkN) hlt
    have hsl := sumTo_le mkN h (i + 1)
    have hmk : mkN h[i] = 3 + h[i].names.length + h[i].args.length := rfl
    unfold sumN at h4
    have e1 : IntKind.i64.wrap (k + sumTo mkN h i + 1) = k + sumTo mkN h i + 1 := wrap64 (by omega) (by omega)
    have e2 : IntKind.i64.wrap (k + sumTo mkN h i + 1 + 1) = k + sumTo mkN h i + 2 := by rw [wrap64 (by omega) (by omega)]; omega
    have e3 : IntKind.i64.wrap (k + sumTo mkN h i + 2 + 1) = k + sumTo mkN h i + 3 := by rw [wrap64 (by omega) (by omega)]; omega
    have hn1 : h[i].names.length ≤ 1000000000 := by omega
    have hn2 : h[i].args.length ≤ 1000000000 := by omega
    have hn : ∀ u v : C, (((((((over ((marksN k h).map Nd.ow) (h.map Nd.ow) i).modify i fun r => r.set 0 (.sc (.int .i64 (k + sumTo mkN h i)))).modify i fun r => r.set 1 (.sc (.int .i64 (k + sumTo mkN h i + 1)))).modify i fun r => r.set 2 (.sc (.string (mt (k + sumTo mkN h i + 2))))).modify i fun r => r.set 3 u).modify i fun r => r.set 3 (.sl 9 1 ((marksS (k + sumTo mkN h i + 3) h[i].names.length).map sC))).modify i fun r => r.set 4 v).modify i (fun r => r.set 4 (.sl 3 1 ((marksI (k + sumTo mkN h i + 3 + h[i].names.length) h[i].args.length).map nC))) = over ((marksN k h).map Nd.ow) (h.map Nd.ow) (i + 1) := fun u v => by
      rw [List.modify_modify_eq, List.modify_modify_eq, List.modify_modify_eq, List.modify_modify_eq, List.modify_modify_eq, List.modify_modify_eq]
      exact over_next hm (by simpa using hlt) (by simp [marksN, markN, Nd.ow, hlt])
    refine gox (L := _ ∧ True) (wa10 @Nd.ow.eq_1 @hlt @hl @hge @hgo @e1 @e2 @e3 @marksS_len @marksI_len) (wb1 (fun v0 (h : _) => c_laws_markText v0 h)) (wb2 (fun v0 v1 (h : _ ∧ _ ∧ _) => c_laws_markStringS v0 v1 h.1 h.2.1 h.2.2) (fun v0 v1 (h : _ ∧ _ ∧ _) => c_laws_markIntS v0 v1 h.1 h.2.1 h.2.2)) wb0 (wb5 wb0 (nm 3 [40, 0, 900001, 1049, i, 3]) (nm 4 [1, 0, 900001, 1049, i, 3]) (nm 3 [47, 0, 900002, 1049, i, 4]) (nm 4 [1, 0, 900002, 1049, i, 4])) ⟨fun _ _ _ => ?_, wb0⟩
    refine ⟨i + 1, ⟨hlt, by first | omega | (simp only; omega) | assumption⟩, rfl, rfl, ?_, ?_⟩ <;> simp (disch := omega) [wrap64, hn]
    all_goals (refine fit_int ?_; omega)
  · obtain rfl : i = h.length := by omega
    have ha := over_all hm
    simp only [List.length_map] at ha
    refine gox (L := _ ∧ _ ∧ True) wb0 wb0 wb0 wb0 (wb1 (outO [(0, 136, 5, (marksN k h).map Nd.ow)])) ⟨fun _ => ?_, fun _ => ?_, wb0⟩
    · simp [ha]
    · refine ⟨?_, rfl⟩
      rw [sumTo_all]; rfl
end Go.Own
set_option maxRecDepth 1000000
set_option maxHeartbeats 4000000
namespace Go.Own
attribute [local irreducible] WPc WPL WPS WPS1 WPS2 HAny endP
variable [Laid]
open Go.Lib Go.RowKit
theorem lenSum {α : Type} {f : α → Nat} (hf : ∀ x, 1 ≤ f x) : ∀ l : List α, l.length ≤ (l.map f).sum
  | [] => by simp
  | x :: l => by
    have := lenSum hf l
    have := hf x
    simp only [List.length_cons, List.map_cons, List.sum_cons]; omega
theorem lenN (l : List Nd) : l.length ≤ sumN l := lenSum (fun x => by unfold mkN; omega) l
def markLk (k : Int) (c : Lk) : Lk := ⟨mt (k), k + 1, mt (k + 2)⟩
def mkLk (c : Lk) : Nat := 3
def sumLk (h : List Lk) : Nat := (h.map mkLk).sum
def marksLk (k : Int) (h : List Lk) : List Lk := h.mapIdx fun i c => markLk (k + sumTo mkLk h i) c
theorem marksLk_len (k : Int) (h : List Lk) : (marksLk k h).length = h.length := by simp [marksLk]
theorem lenLk (l : List Lk) : l.length ≤ sumLk l := lenSum (fun x => by unfold mkLk; omega) l
theorem c_laws_markLinkS (h : List Lk) (k : Int) (h1 : 0 ≤ k) (h2 : k + sumLk h ≤ 1000000000) : Con PP 170 [.sl 0 3 [] 0 h.length, .sc (.int .i64 k)] [(0, 174, 3, h.map Lk.cs)] [0] (fun r o => r = .sc (.int .i64 (k + sumLk h)) ∧ o = [(0, 174, 3, (marksLk k h).map Lk.cs)]) := by
  have hm : ((marksLk k h).map Lk.cs).length = (h.map Lk.cs).length := by simp [marksLk]
  have h3 := lenLk h
  refine cof 36 Go.Proofs.Tryz.func170 fun G => ?_
  simp only [entSt, tmOf, List.append_nil, List.cons_append, List.nil_append]
  refine go (L := _ ∧ True) wb0 wb0 wb0 wb0 wb0 ⟨fun _ => ?_, wb0⟩
  refine WPc.loopV (σ := Nat) (fun i => i ≤ h.length) (fun i => h.length - i) (fun i => [(5, .sc (.int .i64 i)), (1, .sc (.int .i64 (k + sumTo mkLk h i)))]) (fun i => [(0, 174, 3, over ((marksLk k h).map Lk.cs) (h.map Lk.cs) i)]) [0, 36] 0 (by simp [over_zero, sumTo_zero]) (by simp [over_zero, sumTo_zero]) (by simp) ?_
  rintro i hi s hs
  simp at hs
  subst hs
  by_cases hlt : i < h.length
  · have hl := over_len (i := i) hm
    have hge := over_ge (i := i) hm (by simpa using hlt)
    have hgo := over_get (i := i) hm (by simpa using hlt)
    simp only [List.length_map, List.getElem_map] at hl hge hgo
    have hs := sumTo_next (f := mkLk) hlt
    have hsl := sumTo_le mkLk h (i + 1)
    have hmk : mkLk h[i] = 3 := rfl
    unfold sumLk at h2 h3
    have e1 : IntKind.i64.wrap (k + sumTo mkLk h i + 1) = k + sumTo mkLk h i + 1 := by rw [wrap64 (by omega) (by omega)]
    have e2 : IntKind.i64.wrap (k + sumTo mkLk h i + 1 + 1) = k + sumTo mkLk h i + 2 := by rw [wrap64 (by omega) (by omega)]; omega
    have e3 : IntKind.i64.wrap (k + sumTo mkLk h i + 2 + 1) = k + sumTo mkLk h i + 3 := by rw [wrap64 (by omega) (by omega)]; omega
    have hn : ((((((over ((marksLk k h).map Lk.cs) (h.map Lk.cs) i).modify i fun r => r.set 0 (.sc (.string (mt (k + sumTo mkLk h i)))))).modify i fun r => r.set 1 (.sc (.int .i64 (k + sumTo mkLk h i + 1))))).modify i fun r => r.set 2 (.sc (.string (mt (k + sumTo mkLk h i + 2))))) = over ((marksLk k h).map Lk.cs) (h.map Lk.cs) (i + 1) := by
      rw [List.modify_modify_eq, List.modify_modify_eq]
      exact over_next hm (by simpa using hlt) (by simp [marksLk, markLk, Lk.cs, hlt])
    refine go (L := _ ∧ True) (wa8 @Lk.cs.eq_1 @hlt @hl @hge @hgo @e1 @e2 @e3) (wb1 (fun v0 (h : _) => c_laws_markText v0 h)) wb0 wb0 wb0 ⟨fun _ => ?_, wb0⟩
    refine ⟨i + 1, ⟨hlt, by first | omega | (simp only; omega) | assumption⟩, rfl, rfl, ?_, ?_⟩ <;> simp (disch := omega) [wrap64, hn]
    all_goals (refine fit_int ?_; omega)
  · obtain rfl : i = h.length := by omega
    have ha := over_all hm
    simp only [List.length_map] at ha
    refine gox (L := _ ∧ _ ∧ True) wb0 wb0 wb0 wb0 (wb1 (outO [(0, 174, 3, (marksLk k h).map Lk.cs)])) ⟨fun _ => ?_, fun _ => ?_, wb0⟩
    · simp [ha]
    · refine ⟨?_, rfl⟩
      rw [sumTo_all]; rfl
def markTy (k : Int) (c : Ty) : Ty := ⟨mt (k), k + 1⟩
def mkTy (c : Ty) : Nat := 2
def sumTy (h : List Ty) : Nat := (h.map mkTy).sum
def marksTy (k : Int) (h : List Ty) : List Ty := h.mapIdx fun i c => markTy (k + sumTo mkTy h i) c
theorem marksTy_len (k : Int) (h : List Ty) : (marksTy k h).length = h.length := by simp [marksTy]
theorem lenTy (l : List Ty) : l.length ≤ sumTy l := lenSum (fun x => by unfold mkTy; omega) l
theorem c_laws_markTypeS (h : List Ty) (k : Int) (h1 : 0 ≤ k) (h2 : k + sumTy h ≤ 1000000000) : Con PP 113 [.sl 0 2 [] 0 h.length, .sc (.int .i64 k)] [(0, 142, 2, h.map Ty.cs)] [0] (fun r o => r = .sc (.int .i64 (k + sumTy h)) ∧ o = [(0, 142, 2, (marksTy k h).map Ty.cs)]) := by
  have hm : ((marksTy k h).map Ty.cs).length = (h.map Ty.cs).length := by simp [marksTy]
  have h3 := lenTy h
  refine cof 28 Go.Proofs.Tryz.func113 fun G => ?_
  simp only [entSt, tmOf, List.append_nil, List.cons_append, List.nil_append]
  refine go (L := _ ∧ True) wb0 wb0 wb0 wb0 wb0 ⟨fun _ => ?_, wb0⟩
  refine WPc.loopV (σ := Nat) (fun i => i ≤ h.length) (fun i => h.length - i) (fun i => [(5, .sc (.int .i64 i)), (1, .sc (.int .i64 (k + sumTo mkTy h i)))]) (fun i => [(0, 142, 2, over ((marksTy k h).map Ty.cs) (h.map Ty.cs) i)]) [0, 28] 0 (by simp [over_zero, sumTo_zero]) (by simp [over_zero, sumTo_zero]) (by simp) ?_
  rintro i hi s hs
  simp at hs
  subst hs
  by_cases hlt : i < h.length
  · have hl := over_len (i := i) hm
    have hge := over_ge (i := i) hm (by simpa using hlt)
    have hgo := over_get (i := i) hm (by simpa using hlt)
    simp only [List.length_map, List.getElem_map] at hl hge hgo
    have hs := sumTo_next (f := mkTy) hlt
    have hsl := sumTo_le mkTy h (i + 1)
    have hmk : mkTy h[i] = 2 := rfl
    unfold sumTy at h2 h3
    have e1 : IntKind.i64.wrap (k + sumTo mkTy h i + 1) = k + sumTo mkTy h i + 1 := by rw [wrap64 (by omega) (by omega)]
    have e2 : IntKind.i64.wrap (k + sumTo mkTy h i + 1 + 1) = k + sumTo mkTy h i + 2 := by rw [wrap64 (by omega) (by omega)]; omega
    have hn : ((((over ((marksTy k h).map Ty.cs) (h.map Ty.cs) i).modify i fun r => r.set 0 (.sc (.string (mt (k + sumTo mkTy h i)))))).modify i fun r => r.set 1 (.sc (.int .i64 (k + sumTo mkTy h i + 1)))) = over ((marksTy k h).map Ty.cs) (h.map Ty.cs) (i + 1) := by
      rw [List.modify_modify_eq]
      exact over_next hm (by simpa using hlt) (by simp [marksTy, markTy, Ty.cs, hlt])
    refine go (L := _ ∧ True) (wa7 @Ty.cs.eq_1 @hlt @hl @hge @hgo @e1 @e2) (wb1 (fun v0 (h : _) => c_laws_markText v0 h)) wb0 wb0 wb0 ⟨fun _ => ?_, wb0⟩
    refine ⟨i + 1, ⟨hlt, by first | omega | (simp only; omega) | assumption⟩, rfl, rfl, ?_, ?_⟩ <;> simp (disch := omega) [wrap64, hn]
    all_goals (refine fit_int ?_; omega)
  · obtain rfl : i = h.length := by omega
    have ha := over_all hm
    simp only [List.length_map] at ha
    refine gox (L := _ ∧ _ ∧ True) wb0 wb0 wb0 wb0 (wb1 (outO [(0, 142, 2, (marksTy k h).map Ty.cs)])) ⟨fun _ => ?_, fun _ => ?_, wb0⟩
    · simp [ha]
    · refine ⟨?_, rfl⟩
      rw [sumTo_all]; rfl
def markBd (k : Int) (c : Bd) : Bd := ⟨mt (k), ⟨k + 1, k + 2, mt (k + 3)⟩⟩
def mkBd (c : Bd) : Nat := 4
def sumBd (h : List Bd) : Nat := (h.map mkBd).sum
def marksBd (k : Int) (h : List Bd) : List Bd := h.mapIdx fun i c => markBd (k + sumTo mkBd h i) c
theorem marksBd_len (k : Int) (h : List Bd) : (marksBd k h).length = h.length := by simp [marksBd]
theorem lenBd (l : List Bd) : l.length ≤ sumBd l := lenSum (fun x => by unfold mkBd; omega) l
theorem c_laws_markBindS (h : List Bd) (k : Int) (h1 : 0 ≤ k) (h2 : k + sumBd h ≤ 1000000000) : Con PP 115 [.sl 0 4 [] 0 h.length, .sc (.int .i64 k)] [(0, 210, 4, h.map Bd.cs)] [0] (fun r o => r = .sc (.int .i64 (k + sumBd h)) ∧ o = [(0, 210, 4, (marksBd k h).map Bd.cs)]) := by
  have hm : ((marksBd k h).map Bd.cs).length = (h.map Bd.cs).length := by simp [marksBd]
  have h3 := lenBd h
  refine cof 46 Go.Proofs.Tryz.func115 fun G => ?_
  simp only [entSt, tmOf, List.append_nil, List.cons_append, List.nil_append]
  refine go (L := _ ∧ True) wb0 wb0 wb0 wb0 wb0 ⟨fun _ => ?_, wb0⟩
  refine WPc.loopV (σ := Nat) (fun i => i ≤ h.length) (fun i => h.length - i) (fun i => [(5, .sc (.int .i64 i)), (1, .sc (.int .i64 (k + sumTo mkBd h i)))]) (fun i => [(0, 210, 4, over ((marksBd k h).map Bd.cs) (h.map Bd.cs) i)]) [0, 46] 0 (by simp [over_zero, sumTo_zero]) (by simp [over_zero, sumTo_zero]) (by simp) ?_
  rintro i hi s hs
  simp at hs
  subst hs
  by_cases hlt : i < h.length
  · have hl := over_len (i := i) hm
    have hge := over_ge (i := i) hm (by simpa using hlt)
    have hgo := over_get (i := i) hm (by simpa using hlt)
    simp only [List.length_map, List.getElem_map] at hl hge hgo
    have hs := sumTo_next (f := mkBd) hlt
    have hsl := sumTo_le mkBd h (i + 1)
    have hmk : mkBd h[i] = 4 := rfl
    unfold sumBd at h2 h3
    have e1 : IntKind.i64.wrap (k + sumTo mkBd h i + 1) = k + sumTo mkBd h i + 1 := by rw [wrap64 (by omega) (by omega)]
    have e2 : IntKind.i64.wrap (k + sumTo mkBd h i + 1 + 1) = k + sumTo mkBd h i + 2 := by rw [wrap64 (by omega) (by omega)]; omega
    have e3 : IntKind.i64.wrap (k + sumTo mkBd h i + 2 + 1) = k + sumTo mkBd h i + 3 := by rw [wrap64 (by omega) (by omega)]; omega
    have e4 : IntKind.i64.wrap (k + sumTo mkBd h i + 3 + 1) = k + sumTo mkBd h i + 4 := by rw [wrap64 (by omega) (by omega)]; omega
    have hn : ((((((((over ((marksBd k h).map Bd.cs) (h.map Bd.cs) i).modify i fun r => r.set 0 (.sc (.string (mt (k + sumTo mkBd h i)))))).modify i fun r => r.set 1 (.sc (.int .i64 (k + sumTo mkBd h i + 1))))).modify i fun r => r.set 2 (.sc (.int .i64 (k + sumTo mkBd h i + 2))))).modify i fun r => r.set 3 (.sc (.string (mt (k + sumTo mkBd h i + 3))))) = over ((marksBd k h).map Bd.cs) (h.map Bd.cs) (i + 1) := by
      rw [List.modify_modify_eq, List.modify_modify_eq, List.modify_modify_eq]
      exact over_next hm (by simpa using hlt) (by simp [marksBd, markBd, Bd.cs, hlt])
    refine go (L := _ ∧ True) (wa9 @Bd.cs.eq_1 @hlt @hl @hge @hgo @e1 @e2 @e3 @e4) (wb1 (fun v0 (h : _) => c_laws_markText v0 h)) wb0 wb0 wb0 ⟨fun _ => ?_, wb0⟩
    refine ⟨i + 1, ⟨hlt, by first | omega | (simp only; omega) | assumption⟩, rfl, rfl, ?_, ?_⟩ <;> simp (disch := omega) [wrap64, hn]
    all_goals (refine fit_int ?_; omega)
  · obtain rfl : i = h.length := by omega
    have ha := over_all hm
    simp only [List.length_map] at ha
    refine gox (L := _ ∧ _ ∧ True) wb0 wb0 wb0 wb0 (wb1 (outO [(0, 210, 4, (marksBd k h).map Bd.cs)])) ⟨fun _ => ?_, fun _ => ?_, wb0⟩
    · simp [ha]
    · refine ⟨?_, rfl⟩
      rw [sumTo_all]; rfl
def markIn (k : Int) (c : In) : In := ⟨mt (k), k + 1, marksS (k + 2) c.names.length, marksV (k + 2 + c.names.length) c.vals.length, marksLk (k + 2 + c.names.length + 3 * c.vals.length) c.links, marksTy (k + 2 + c.names.length + 3 * c.vals.length + sumLk c.links) c.types⟩
def mkIn (c : In) : Nat := 2 + c.names.length + 3 * c.vals.length + sumLk c.links + sumTy c.types
def sumIn (h : List In) : Nat := (h.map mkIn).sum
def marksIn (k : Int) (h : List In) : List In := h.mapIdx fun i c => markIn (k + sumTo mkIn h i) c
theorem marksIn_len (k : Int) (h : List In) : (marksIn k h).length = h.length := by simp [marksIn]
theorem lenIn (l : List In) : l.length ≤ sumIn l := lenSum (fun x => by unfold mkIn; omega) l
theorem c_laws_markInstS (h : List In) (k : Int) (h1 : 0 ≤ k) (h2 : k + sumIn h ≤ 1000000000) : Con PP 111 [.sl 0 6 [] 0 h.length, .sc (.int .i64 k)] [(0, 68, 6, h.map In.ow)] [0] (fun r o => r = .sc (.int .i64 (k + sumIn h)) ∧ o = [(0, 68, 6, (marksIn k h).map In.ow)]) := by
  have hm : ((marksIn k h).map In.ow).length = (h.map In.ow).length := by simp [marksIn]
  have h3 := lenIn h
  refine cof 56 Go.Proofs.Tryz.func111 fun G => ?_
  simp only [entSt, tmOf, List.append_nil, List.cons_append, List.nil_append]
  refine go (L := _ ∧ True) wb0 wb0 wb0 wb0 wb0 ⟨fun _ => ?_, wb0⟩
  refine WPc.loopV (σ := Nat) (fun i => i ≤ h.length) (fun i => h.length - i) (fun i => [(5, .sc (.int .i64 i)), (1, .sc (.int .i64 (k + sumTo mkIn h i)))]) (fun i => [(0, 68, 6, over ((marksIn k h).map In.ow) (h.map In.ow) i)]) [0, 56] 0 (by simp [over_zero, sumTo_zero]) (by simp [over_zero, sumTo_zero]) (by simp) ?_
  rintro i hi s hs
  simp at hs
  subst hs
  by_cases hlt : i < h.length
  · have hl := over_len (i := i) hm
    have hge := over_ge (i := i) hm (by simpa using hlt)
    have hgo := over_get (i := i) hm (by simpa using hlt)
    simp only [List.length_map, List.getElem_map] at hl hge hgo
    have hs := sumTo_next (f := mkIn) hlt
    have hsl := sumTo_le mkIn h (i + 1)
    have hmk : mkIn h[i] = 2 + h[i].names.length + 3 * h[i].vals.length + sumLk h[i].links + sumTy h[i].types := rfl
    unfold sumIn at h2 h3
    have e1 : IntKind.i64.wrap (k + sumTo mkIn h i + 1) = k + sumTo mkIn h i + 1 := by rw [wrap64 (by omega) (by omega)]
    have e2 : IntKind.i64.wrap (k + sumTo mkIn h i + 1 + 1) = k + sumTo mkIn h i + 2 := by rw [wrap64 (by omega) (by omega)]; omega
    have n1 : h[i].names.length ≤ 1000000000 := by omega
    have n2 : h[i].vals.length ≤ 1000000000 := by omega
    have n3 : h[i].links.length ≤ 1000000000 := by have := lenLk h[i].links; omega
    have n4 : h[i].types.length ≤ 1000000000 := by have := lenTy h[i].types; omega
    have hn : ∀ u0 u1 u2 u3 : C, ((((((((((((((((((((over ((marksIn k h).map In.ow) (h.map In.ow) i).modify i fun r => r.set 0 (.sc (.string (mt (k + sumTo mkIn h i)))))).modify i fun r => r.set 1 (.sc (.int .i64 (k + sumTo mkIn h i + 1))))).modify i fun r => r.set 2 u0)).modify i fun r => r.set 2 (.sl 9 1 ((marksS (k + sumTo mkIn h i + 2) h[i].names.length).map sC)))).modify i fun r => r.set 3 u1)).modify i fun r => r.set 3 (.sl 71 3 ((marksV (k + sumTo mkIn h i + 2 + h[i].names.length) h[i].vals.length).map V.cs)))).modify i fun r => r.set 4 u2)).modify i fun r => r.set 4 (.sl 174 3 ((marksLk (k + sumTo mkIn h i + 2 + h[i].names.length + 3 * h[i].vals.length) h[i].links).map Lk.cs)))).modify i fun r => r.set 5 u3)).modify i fun r => r.set 5 (.sl 142 2 ((marksTy (k + sumTo mkIn h i + 2 + h[i].names.length + 3 * h[i].vals.length + sumLk h[i].links) h[i].types).map Ty.cs))) = over ((marksIn k h).map In.ow) (h.map In.ow) (i + 1) := fun u0 u1 u2 u3 => by
      rw [List.modify_modify_eq, List.modify_modify_eq, List.modify_modify_eq, List.modify_modify_eq, List.modify_modify_eq, List.modify_modify_eq, List.modify_modify_eq, List.modify_modify_eq, List.modify_modify_eq]
      exact over_next hm (by simpa using hlt) (by simp [marksIn, markIn, In.ow, hlt])
    refine gox (L := _ ∧ True) (wa11 @In.ow.eq_1 @hlt @hl @hge @hgo @e1 @e2 @marksS_len @marksV_len @marksLk_len @marksTy_len) (wb1 (fun v0 (h : _) => c_laws_markText v0 h)) (wb4 (fun v0 v1 (h : _ ∧ _ ∧ _) => c_laws_markStringS v0 v1 h.1 h.2.1 h.2.2) (fun v0 v1 (h : _ ∧ _ ∧ _) => c_laws_markValueS v0 v1 h.1 h.2.1 h.2.2) (fun v0 v1 (h : _ ∧ _) => c_laws_markLinkS v0 v1 h.1 h.2) (fun v0 v1 (h : _ ∧ _) => c_laws_markTypeS v0 v1 h.1 h.2)) wb0 (wb9 wb0 (nm 3 [33, 0, 900001, 1056, i, 2]) (nm 4 [1, 0, 900001, 1056, i, 2]) (nm 3 [40, 0, 900002, 1056, i, 3]) (nm 4 [1, 0, 900002, 1056, i, 3]) (nm 3 [47, 0, 900003, 1056, i, 4]) (nm 4 [1, 0, 900003, 1056, i, 4]) (nm 3 [54, 0, 900004, 1056, i, 5]) (nm 4 [1, 0, 900004, 1056, i, 5])) ⟨fun _ _ _ _ _ => ?_, wb0⟩
    refine ⟨i + 1, ⟨hlt, by first | omega | (simp only; omega) | assumption⟩, rfl, rfl, ?_, ?_⟩ <;> simp (disch := omega) [wrap64, hn]
    all_goals (refine fit_int ?_; omega)
  · obtain rfl : i = h.length := by omega
    have ha := over_all hm
    simp only [List.length_map] at ha
    refine gox (L := _ ∧ _ ∧ True) wb0 wb0 wb0 wb0 (wb1 (outO [(0, 68, 6, (marksIn k h).map In.ow)])) ⟨fun _ => ?_, fun _ => ?_, wb0⟩
    · simp [ha]
    · refine ⟨?_, rfl⟩
      rw [sumTo_all]; rfl
def markUn (k : Int) (c : Un) : Un := ⟨k, ⟨marksN (k + 1) c.prog.nodes, k + 1 + sumN c.prog.nodes⟩⟩
def mkUn (c : Un) : Nat := 2 + sumN c.prog.nodes
def sumUn (h : List Un) : Nat := (h.map mkUn).sum
def marksUn (k : Int) (h : List Un) : List Un := h.mapIdx fun i c => markUn (k + sumTo mkUn h i) c
theorem marksUn_len (k : Int) (h : List Un) : (marksUn k h).length = h.length := by simp [marksUn]
theorem lenUn (l : List Un) : l.length ≤ sumUn l := lenSum (fun x => by unfold mkUn; omega) l
theorem c_laws_markUnitS (h : List Un) (k : Int) (h1 : 0 ≤ k) (h2 : k + sumUn h ≤ 1000000000) : Con PP 112 [.sl 0 3 [] 0 h.length, .sc (.int .i64 k)] [(0, 130, 3, h.map Un.ow)] [0] (fun r o => r = .sc (.int .i64 (k + sumUn h)) ∧ o = [(0, 130, 3, (marksUn k h).map Un.ow)]) := by
  have hm : ((marksUn k h).map Un.ow).length = (h.map Un.ow).length := by simp [marksUn]
  have h3 := lenUn h
  refine cof 36 Go.Proofs.Tryz.func112 fun G => ?_
  simp only [entSt, tmOf, List.append_nil, List.cons_append, List.nil_append]
  refine go (L := _ ∧ True) wb0 wb0 wb0 wb0 wb0 ⟨fun _ => ?_, wb0⟩
  refine WPc.loopV (σ := Nat) (fun i => i ≤ h.length) (fun i => h.length - i) (fun i => [(5, .sc (.int .i64 i)), (1, .sc (.int .i64 (k + sumTo mkUn h i)))]) (fun i => [(0, 130, 3, over ((marksUn k h).map Un.ow) (h.map Un.ow) i)]) [0, 36] 0 (by simp [over_zero, sumTo_zero]) (by simp [over_zero, sumTo_zero]) (by simp) ?_
  rintro i hi s hs
  simp at hs
  subst hs
  by_cases hlt : i < h.length
  · have hl := over_len (i := i) hm
    have hge := over_ge (i := i) hm (by simpa using hlt)
    have hgo := over_get (i := i) hm (by simpa using hlt)
    simp only [List.length_map, List.getElem_map] at hl hge hgo
    have hs := sumTo_next (f := mkUn) hlt
    have hsl := sumTo_le mkUn h (i + 1)
    have hmk : mkUn h[i] = 2 + sumN h[i].prog.nodes := rfl
    unfold sumUn at h2 h3
    have e1 : IntKind.i64.wrap (k + sumTo mkUn h i + 1) = k + sumTo mkUn h i + 1 := by rw [wrap64 (by omega) (by omega)]
    have n1 : h[i].prog.nodes.length ≤ 1000000000 := by have := lenN h[i].prog.nodes; omega
    have e2 : IntKind.i64.wrap (k + sumTo mkUn h i + 1 + sumN h[i].prog.nodes + 1) = k + sumTo mkUn h i + 1 + sumN h[i].prog.nodes + 1 := by rw [wrap64 (by omega) (by omega)]
    have hn : ∀ u0 : C, ((((((((over ((marksUn k h).map Un.ow) (h.map Un.ow) i).modify i fun r => r.set 0 (.sc (.int .i64 (k + sumTo mkUn h i))))).modify i fun r => r.set 1 u0)).modify i fun r => r.set 1 (.sl 136 5 ((marksN (k + sumTo mkUn h i + 1) h[i].prog.nodes).map Nd.ow)))).modify i fun r => r.set 2 (.sc (.int .i64 (k + sumTo mkUn h i + 1 + sumN h[i].prog.nodes)))) = over ((marksUn k h).map Un.ow) (h.map Un.ow) (i + 1) := fun u0 => by
      rw [List.modify_modify_eq, List.modify_modify_eq, List.modify_modify_eq]
      exact over_next hm (by simpa using hlt) (by simp [marksUn, markUn, Un.ow, hlt])
    refine gox (L := _ ∧ True) (wa8 @Un.ow.eq_1 @hlt @hl @hge @hgo @e1 @e2 @marksN_len) wb0 (wb1 (fun v0 v1 (h : _ ∧ _ ∧ _ ∧ _) => c_laws_markNodeS v0 v1 h.1 h.2.1 h.2.2.1 h.2.2.2)) wb0 (wb3 wb0 (nm 3 [26, 0, 900001, 1036, i, 1]) (nm 4 [1, 0, 900001, 1036, i, 1])) ⟨fun _ _ => ?_, wb0⟩
    refine ⟨i + 1, ⟨hlt, by first | omega | (simp only; omega) | assumption⟩, rfl, rfl, ?_, ?_⟩ <;> simp (disch := omega) [wrap64, hn]
    all_goals (refine fit_int ?_; omega)
  · obtain rfl : i = h.length := by omega
    have ha := over_all hm
    simp only [List.length_map] at ha
    refine gox (L := _ ∧ _ ∧ True) wb0 wb0 wb0 wb0 (wb1 (outO [(0, 130, 3, (marksUn k h).map Un.ow)])) ⟨fun _ => ?_, fun _ => ?_, wb0⟩
    · simp [ha]
    · refine ⟨?_, rfl⟩
      rw [sumTo_all]; rfl
def markDf (k : Int) (c : Df) : Df := ⟨mt (k), ⟨marksN (k + 1) c.prog.nodes, k + 1 + sumN c.prog.nodes⟩⟩
def mkDf (c : Df) : Nat := 2 + sumN c.prog.nodes
def sumDf (h : List Df) : Nat := (h.map mkDf).sum
def marksDf (k : Int) (h : List Df) : List Df := h.mapIdx fun i c => markDf (k + sumTo mkDf h i) c
theorem marksDf_len (k : Int) (h : List Df) : (marksDf k h).length = h.length := by simp [marksDf]
theorem lenDf (l : List Df) : l.length ≤ sumDf l := lenSum (fun x => by unfold mkDf; omega) l
theorem c_laws_markDefS (h : List Df) (k : Int) (h1 : 0 ≤ k) (h2 : k + sumDf h ≤ 1000000000) : Con PP 114 [.sl 0 3 [] 0 h.length, .sc (.int .i64 k)] [(0, 144, 3, h.map Df.ow)] [0] (fun r o => r = .sc (.int .i64 (k + sumDf h)) ∧ o = [(0, 144, 3, (marksDf k h).map Df.ow)]) := by
  have hm : ((marksDf k h).map Df.ow).length = (h.map Df.ow).length := by simp [marksDf]
  have h3 := lenDf h
  refine cof 37 Go.Proofs.Tryz.func114 fun G => ?_
  simp only [entSt, tmOf, List.append_nil, List.cons_append, List.nil_append]
  refine go (L := _ ∧ True) wb0 wb0 wb0 wb0 wb0 ⟨fun _ => ?_, wb0⟩
  refine WPc.loopV (σ := Nat) (fun i => i ≤ h.length) (fun i => h.length - i) (fun i => [(5, .sc (.int .i64 i)), (1, .sc (.int .i64 (k + sumTo mkDf h i)))]) (fun i => [(0, 144, 3, over ((marksDf k h).map Df.ow) (h.map Df.ow) i)]) [0, 37] 0 (by simp [over_zero, sumTo_zero]) (by simp [over_zero, sumTo_zero]) (by simp) ?_
  rintro i hi s hs
  simp at hs
  subst hs
  by_cases hlt : i < h.length
  · have hl := over_len (i := i) hm
    have hge := over_ge (i := i) hm (by simpa using hlt)
    have hgo := over_get (i := i) hm (by simpa using hlt)
    simp only [List.length_map, List.getElem_map] at hl hge hgo
    have hs := sumTo_next (f := mkDf) hlt
    have hsl := sumTo_le mkDf h (i + 1)
    have hmk : mkDf h[i] = 2 + sumN h[i].prog.nodes := rfl
    unfold sumDf at h2 h3
    have e1 : IntKind.i64.wrap (k + sumTo mkDf h i + 1) = k + sumTo mkDf h i + 1 := by rw [wrap64 (by omega) (by omega)]
    have n1 : h[i].prog.nodes.length ≤ 1000000000 := by have := lenN h[i].prog.nodes; omega
    have e2 : IntKind.i64.wrap (k + sumTo mkDf h i + 1 + sumN h[i].prog.nodes + 1) = k + sumTo mkDf h i + 1 + sumN h[i].prog.nodes + 1 := by rw [wrap64 (by omega) (by omega)]
    have hn : ∀ u0 : C, ((((((((over ((marksDf k h).map Df.ow) (h.map Df.ow) i).modify i fun r => r.set 0 (.sc (.string (mt (k + sumTo mkDf h i)))))).modify i fun r => r.set 1 u0)).modify i fun r => r.set 1 (.sl 136 5 ((marksN (k + sumTo mkDf h i + 1) h[i].prog.nodes).map Nd.ow)))).modify i fun r => r.set 2 (.sc (.int .i64 (k + sumTo mkDf h i + 1 + sumN h[i].prog.nodes)))) = over ((marksDf k h).map Df.ow) (h.map Df.ow) (i + 1) := fun u0 => by
      rw [List.modify_modify_eq, List.modify_modify_eq, List.modify_modify_eq]
      exact over_next hm (by simpa using hlt) (by simp [marksDf, markDf, Df.ow, hlt])
    refine gox (L := _ ∧ True) (wa8 @Df.ow.eq_1 @hlt @hl @hge @hgo @e1 @e2 @marksN_len) (wb1 (fun v0 (h : _) => c_laws_markText v0 h)) (wb1 (fun v0 v1 (h : _ ∧ _ ∧ _ ∧ _) => c_laws_markNodeS v0 v1 h.1 h.2.1 h.2.2.1 h.2.2.2)) wb0 (wb3 wb0 (nm 3 [27, 0, 900001, 1037, i, 1]) (nm 4 [1, 0, 900001, 1037, i, 1])) ⟨fun _ _ => ?_, wb0⟩
    refine ⟨i + 1, ⟨hlt, by first | omega | (simp only; omega) | assumption⟩, rfl, rfl, ?_, ?_⟩ <;> simp (disch := omega) [wrap64, hn]
    all_goals (refine fit_int ?_; omega)
  · obtain rfl : i = h.length := by omega
    have ha := over_all hm
    simp only [List.length_map] at ha
    refine gox (L := _ ∧ _ ∧ True) wb0 wb0 wb0 wb0 (wb1 (outO [(0, 144, 3, (marksDf k h).map Df.ow)])) ⟨fun _ => ?_, fun _ => ?_, wb0⟩
    · simp [ha]
    · refine ⟨?_, rfl⟩
      rw [sumTo_all]; rfl
def markFm (k : Int) (c : Fm) : Fm := ⟨k, k + 1, marksV (k + 2) c.vals.length, marksBd (k + 2 + 3 * c.vals.length) c.env⟩
def mkFm (c : Fm) : Nat := 2 + 3 * c.vals.length + sumBd c.env
def sumFm (h : List Fm) : Nat := (h.map mkFm).sum
def marksFm (k : Int) (h : List Fm) : List Fm := h.mapIdx fun i c => markFm (k + sumTo mkFm h i) c
theorem marksFm_len (k : Int) (h : List Fm) : (marksFm k h).length = h.length := by simp [marksFm]
theorem lenFm (l : List Fm) : l.length ≤ sumFm l := lenSum (fun x => by unfold mkFm; omega) l
theorem c_laws_markFrameS (h : List Fm) (k : Int) (h1 : 0 ≤ k) (h2 : k + sumFm h ≤ 1000000000) : Con PP 116 [.sl 0 4 [] 0 h.length, .sc (.int .i64 k)] [(0, 150, 4, h.map Fm.ow)] [0] (fun r o => r = .sc (.int .i64 (k + sumFm h)) ∧ o = [(0, 150, 4, (marksFm k h).map Fm.ow)]) := by
  have hm : ((marksFm k h).map Fm.ow).length = (h.map Fm.ow).length := by simp [marksFm]
  have h3 := lenFm h
  refine cof 41 Go.Proofs.Tryz.func116 fun G => ?_
  simp only [entSt, tmOf, List.append_nil, List.cons_append, List.nil_append]
  refine go (L := _ ∧ True) wb0 wb0 wb0 wb0 wb0 ⟨fun _ => ?_, wb0⟩
  refine WPc.loopV (σ := Nat) (fun i => i ≤ h.length) (fun i => h.length - i) (fun i => [(5, .sc (.int .i64 i)), (1, .sc (.int .i64 (k + sumTo mkFm h i)))]) (fun i => [(0, 150, 4, over ((marksFm k h).map Fm.ow) (h.map Fm.ow) i)]) [0, 41] 0 (by simp [over_zero, sumTo_zero]) (by simp [over_zero, sumTo_zero]) (by simp) ?_
  rintro i hi s hs
  simp at hs
  subst hs
  by_cases hlt : i < h.length
  · have hl := over_len (i := i) hm
    have hge := over_ge (i := i) hm (by simpa using hlt)
    have hgo := over_get (i := i) hm (by simpa using hlt)
    simp only [List.length_map, List.getElem_map] at hl hge hgo
    have hs := sumTo_next (f := mkFm) hlt
    have hsl := sumTo_le mkFm h (i + 1)
    have hmk : mkFm h[i] = 2 + 3 * h[i].vals.length + sumBd h[i].env := rfl
    unfold sumFm at h2 h3
    have e1 : IntKind.i64.wrap (k + sumTo mkFm h i + 1) = k + sumTo mkFm h i + 1 := by rw [wrap64 (by omega) (by omega)]
    have e2 : IntKind.i64.wrap (k + sumTo mkFm h i + 1 + 1) = k + sumTo mkFm h i + 2 := by rw [wrap64 (by omega) (by omega)]; omega
    have n1 : h[i].vals.length ≤ 1000000000 := by omega
    have n2 : h[i].env.length ≤ 1000000000 := by have := lenBd h[i].env; omega
    have hn : ∀ u0 u1 : C, ((((((((((((over ((marksFm k h).map Fm.ow) (h.map Fm.ow) i).modify i fun r => r.set 0 (.sc (.int .i64 (k + sumTo mkFm h i))))).modify i fun r => r.set 1 (.sc (.int .i64 (k + sumTo mkFm h i + 1))))).modify i fun r => r.set 2 u0)).modify i fun r => r.set 2 (.sl 71 3 ((marksV (k + sumTo mkFm h i + 2) h[i].vals.length).map V.cs)))).modify i fun r => r.set 3 u1)).modify i fun r => r.set 3 (.sl 210 4 ((marksBd (k + sumTo mkFm h i + 2 + 3 * h[i].vals.length) h[i].env).map Bd.cs))) = over ((marksFm k h).map Fm.ow) (h.map Fm.ow) (i + 1) := fun u0 u1 => by
      rw [List.modify_modify_eq, List.modify_modify_eq, List.modify_modify_eq, List.modify_modify_eq, List.modify_modify_eq]
      exact over_next hm (by simpa using hlt) (by simp [marksFm, markFm, Fm.ow, hlt])
    refine gox (L := _ ∧ True) (wa9 @Fm.ow.eq_1 @hlt @hl @hge @hgo @e1 @e2 @marksV_len @marksBd_len) wb0 (wb2 (fun v0 v1 (h : _ ∧ _ ∧ _) => c_laws_markValueS v0 v1 h.1 h.2.1 h.2.2) (fun v0 v1 (h : _ ∧ _) => c_laws_markBindS v0 v1 h.1 h.2)) wb0 (wb5 wb0 (nm 3 [32, 0, 900001, 1041, i, 2]) (nm 4 [1, 0, 900001, 1041, i, 2]) (nm 3 [39, 0, 900002, 1041, i, 3]) (nm 4 [1, 0, 900002, 1041, i, 3])) ⟨fun _ _ _ => ?_, wb0⟩
    refine ⟨i + 1, ⟨hlt, by first | omega | (simp only; omega) | assumption⟩, rfl, rfl, ?_, ?_⟩ <;> simp (disch := omega) [wrap64, hn]
    all_goals (refine fit_int ?_; omega)
  · obtain rfl : i = h.length := by omega
    have ha := over_all hm
    simp only [List.length_map] at ha
    refine gox (L := _ ∧ _ ∧ True) wb0 wb0 wb0 wb0 (wb1 (outO [(0, 150, 4, (marksFm k h).map Fm.ow)])) ⟨fun _ => ?_, fun _ => ?_, wb0⟩
    · simp [ha]
    · refine ⟨?_, rfl⟩
      rw [sumTo_all]; rfl
def markEn (k : Int) (c : En) : En := ⟨⟨mt (k), marksS (k + 1) c.src.imports.length, marksS (k + 1 + c.src.imports.length) c.src.exports.length, marksTy (k + 1 + c.src.imports.length + c.src.exports.length) c.src.types, marksDf (k + 1 + c.src.imports.length + c.src.exports.length + sumTy c.src.types) c.src.defs, marksDf (k + 1 + c.src.imports.length + c.src.exports.length + sumTy c.src.types + sumDf c.src.defs) c.src.convs⟩, k + 1 + c.src.imports.length + c.src.exports.length + sumTy c.src.types + sumDf c.src.defs + sumDf c.src.convs, k + 1 + c.src.imports.length + c.src.exports.length + sumTy c.src.types + sumDf c.src.defs + sumDf c.src.convs + 1⟩
def mkEn (c : En) : Nat := 3 + c.src.imports.length + c.src.exports.length + sumTy c.src.types + sumDf c.src.defs + sumDf c.src.convs
def sumEn (h : List En) : Nat := (h.map mkEn).sum
def marksEn (k : Int) (h : List En) : List En := h.mapIdx fun i c => markEn (k + sumTo mkEn h i) c
theorem marksEn_len (k : Int) (h : List En) : (marksEn k h).length = h.length := by simp [marksEn]
theorem lenEn (l : List En) : l.length ≤ sumEn l := lenSum (fun x => by unfold mkEn; omega) l
theorem c_laws_markEntS (h : List En) (k : Int) (h1 : 0 ≤ k) (h2 : k + sumEn h ≤ 1000000000) : Con PP 53 [.sl 0 8 [] 0 h.length, .sc (.int .i64 k)] [(0, 63, 8, h.map En.ow)] [0] (fun r o => r = .sc (.int .i64 (k + sumEn h)) ∧ o = [(0, 63, 8, (marksEn k h).map En.ow)]) := by
  have hm : ((marksEn k h).map En.ow).length = (h.map En.ow).length := by simp [marksEn]
  have h3 := lenEn h
  refine cof 76 Go.Proofs.Tryz.func53 fun G => ?_
  simp only [entSt, tmOf, List.append_nil, List.cons_append, List.nil_append]
  refine go (L := _ ∧ True) wb0 wb0 wb0 wb0 wb0 ⟨fun _ => ?_, wb0⟩
  refine WPc.loopV (σ := Nat) (fun i => i ≤ h.length) (fun i => h.length - i) (fun i => [(5, .sc (.int .i64 i)), (1, .sc (.int .i64 (k + sumTo mkEn h i)))]) (fun i => [(0, 63, 8, over ((marksEn k h).map En.ow) (h.map En.ow) i)]) [0, 76] 0 (by simp [over_zero, sumTo_zero]) (by simp [over_zero, sumTo_zero]) (by simp) ?_
  rintro i hi s hs
  simp at hs
  subst hs
  by_cases hlt : i < h.length
  · have hl := over_len (i := i) hm
    have hge := over_ge (i := i) hm (by simpa using hlt)
    have hgo := over_get (i := i) hm (by simpa using hlt)
    simp only [List.length_map, List.getElem_map] at hl hge hgo
    have hs := sumTo_next (f := mkEn) hlt
    have hsl := sumTo_le mkEn h (i + 1)
    have hmk : mkEn h[i] = 3 + h[i].src.imports.length + h[i].src.exports.length + sumTy h[i].src.types + sumDf h[i].src.defs + sumDf h[i].src.convs := rfl
    unfold sumEn at h2 h3
    have e1 : IntKind.i64.wrap (k + sumTo mkEn h i + 1) = k + sumTo mkEn h i + 1 := by rw [wrap64 (by omega) (by omega)]
    have n1 : h[i].src.imports.length ≤ 1000000000 := by omega
    have n2 : h[i].src.exports.length ≤ 1000000000 := by omega
    have n3 : h[i].src.types.length ≤ 1000000000 := by have := lenTy h[i].src.types; omega
    have n4 : h[i].src.defs.length ≤ 1000000000 := by have := lenDf h[i].src.defs; omega
    have n5 : h[i].src.convs.length ≤ 1000000000 := by have := lenDf h[i].src.convs; omega
    have e2 : IntKind.i64.wrap (k + sumTo mkEn h i + 1 + h[i].src.imports.length + h[i].src.exports.length + sumTy h[i].src.types + sumDf h[i].src.defs + sumDf h[i].src.convs + 1) = k + sumTo mkEn h i + 1 + h[i].src.imports.length + h[i].src.exports.length + sumTy h[i].src.types + sumDf h[i].src.defs + sumDf h[i].src.convs + 1 := by rw [wrap64 (by omega) (by omega)]
    have e3 : IntKind.i64.wrap (k + sumTo mkEn h i + 1 + h[i].src.imports.length + h[i].src.exports.length + sumTy h[i].src.types + sumDf h[i].src.defs + sumDf h[i].src.convs + 1 + 1) = k + sumTo mkEn h i + 1 + h[i].src.imports.length + h[i].src.exports.length + sumTy h[i].src.types + sumDf h[i].src.defs + sumDf h[i].src.convs + 2 := by rw [wrap64 (by omega) (by omega)]; omega
    have hn : ∀ u0 u1 u2 u3 u4 : C, ((((((((((((((((((((((((((over ((marksEn k h).map En.ow) (h.map En.ow) i).modify i fun r => r.set 0 (.sc (.string (mt (k + sumTo mkEn h i)))))).modify i fun r => r.set 1 u0)).modify i fun r => r.set 1 (.sl 9 1 ((marksS (k + sumTo mkEn h i + 1) h[i].src.imports.length).map sC)))).modify i fun r => r.set 2 u1)).modify i fun r => r.set 2 (.sl 9 1 ((marksS (k + sumTo mkEn h i + 1 + h[i].src.imports.length) h[i].src.exports.length).map sC)))).modify i fun r => r.set 3 u2)).modify i fun r => r.set 3 (.sl 142 2 ((marksTy (k + sumTo mkEn h i + 1 + h[i].src.imports.length + h[i].src.exports.length) h[i].src.types).map Ty.cs)))).modify i fun r => r.set 4 u3)).modify i fun r => r.set 4 (.sl 144 3 ((marksDf (k + sumTo mkEn h i + 1 + h[i].src.imports.length + h[i].src.exports.length + sumTy h[i].src.types) h[i].src.defs).map Df.ow)))).modify i fun r => r.set 5 u4)).modify i fun r => r.set 5 (.sl 144 3 ((marksDf (k + sumTo mkEn h i + 1 + h[i].src.imports.length + h[i].src.exports.length + sumTy h[i].src.types + sumDf h[i].src.defs) h[i].src.convs).map Df.ow)))).modify i fun r => r.set 6 (.sc (.int .i64 (k + sumTo mkEn h i + 1 + h[i].src.imports.length + h[i].src.exports.length + sumTy h[i].src.types + sumDf h[i].src.defs + sumDf h[i].src.convs))))).modify i fun r => r.set 7 (.sc (.int .i64 (k + sumTo mkEn h i + 1 + h[i].src.imports.length + h[i].src.exports.length + sumTy h[i].src.types + sumDf h[i].src.defs + sumDf h[i].src.convs + 1)))) = over ((marksEn k h).map En.ow) (h.map En.ow) (i + 1) := fun u0 u1 u2 u3 u4 => by
      rw [List.modify_modify_eq, List.modify_modify_eq, List.modify_modify_eq, List.modify_modify_eq, List.modify_modify_eq, List.modify_modify_eq, List.modify_modify_eq, List.modify_modify_eq, List.modify_modify_eq, List.modify_modify_eq, List.modify_modify_eq, List.modify_modify_eq]
      exact over_next hm (by simpa using hlt) (by simp [marksEn, markEn, En.ow, hlt])
    repeat' (first
      | (refine WPL.focAt 28 0 900001 1076 [] i 1 ?_ ?_; (focus (simp; done)); refine fun u K hK => ?_; simp -implicitDefEqProofs +contextual [-Int.not_le, -Int.not_lt, -Nat.not_le, -Nat.not_lt, -List.all_eq_true, -List.all_eq_false, -List.any_eq_true, -List.any_eq_false, En.ow, hlt, hl, hge, hgo, e1, e2, e3, marksS_len, marksTy_len, marksDf_len]; (repeat1' (first | apply hK | apply And.intro | intro _)) <;> clear hK K)
      | (refine WPL.attAt (some 1) 0 900001 1076 [] i 1 ?_ rfl ?_; (focus (simp; done)); refine fun K hK => ?_; simp -implicitDefEqProofs +contextual [-Int.not_le, -Int.not_lt, -Nat.not_le, -Nat.not_lt, -List.all_eq_true, -List.all_eq_false, -List.any_eq_true, -List.any_eq_false, En.ow, hlt, hl, hge, hgo, e1, e2, e3, marksS_len, marksTy_len, marksDf_len]; (repeat1' (first | apply hK | apply And.intro | intro _)) <;> clear hK K)
      | (refine WPL.focAt 36 0 900002 1076 [] i 2 ?_ ?_; (focus (simp; done)); refine fun u K hK => ?_; simp -implicitDefEqProofs +contextual [-Int.not_le, -Int.not_lt, -Nat.not_le, -Nat.not_lt, -List.all_eq_true, -List.all_eq_false, -List.any_eq_true, -List.any_eq_false, En.ow, hlt, hl, hge, hgo, e1, e2, e3, marksS_len, marksTy_len, marksDf_len]; (repeat1' (first | apply hK | apply And.intro | intro _)) <;> clear hK K)
      | (refine WPL.attAt (some 1) 0 900002 1076 [] i 2 ?_ rfl ?_; (focus (simp; done)); refine fun K hK => ?_; simp -implicitDefEqProofs +contextual [-Int.not_le, -Int.not_lt, -Nat.not_le, -Nat.not_lt, -List.all_eq_true, -List.all_eq_false, -List.any_eq_true, -List.any_eq_false, En.ow, hlt, hl, hge, hgo, e1, e2, e3, marksS_len, marksTy_len, marksDf_len]; (repeat1' (first | apply hK | apply And.intro | intro _)) <;> clear hK K)
      | (refine WPL.focAt 44 0 900003 1076 [] i 3 ?_ ?_; (focus (simp; done)); refine fun u K hK => ?_; simp -implicitDefEqProofs +contextual [-Int.not_le, -Int.not_lt, -Nat.not_le, -Nat.not_lt, -List.all_eq_true, -List.all_eq_false, -List.any_eq_true, -List.any_eq_false, En.ow, hlt, hl, hge, hgo, e1, e2, e3, marksS_len, marksTy_len, marksDf_len]; (repeat1' (first | apply hK | apply And.intro | intro _)) <;> clear hK K)
      | (refine WPL.attAt (some 1) 0 900003 1076 [] i 3 ?_ rfl ?_; (focus (simp; done)); refine fun K hK => ?_; simp -implicitDefEqProofs +contextual [-Int.not_le, -Int.not_lt, -Nat.not_le, -Nat.not_lt, -List.all_eq_true, -List.all_eq_false, -List.any_eq_true, -List.any_eq_false, En.ow, hlt, hl, hge, hgo, e1, e2, e3, marksS_len, marksTy_len, marksDf_len]; (repeat1' (first | apply hK | apply And.intro | intro _)) <;> clear hK K)
      | (refine WPL.focAt 52 0 900004 1076 [] i 4 ?_ ?_; (focus (simp; done)); refine fun u K hK => ?_; simp -implicitDefEqProofs +contextual [-Int.not_le, -Int.not_lt, -Nat.not_le, -Nat.not_lt, -List.all_eq_true, -List.all_eq_false, -List.any_eq_true, -List.any_eq_false, En.ow, hlt, hl, hge, hgo, e1, e2, e3, marksS_len, marksTy_len, marksDf_len]; (repeat1' (first | apply hK | apply And.intro | intro _)) <;> clear hK K)
      | (refine WPL.attAt (some 1) 0 900004 1076 [] i 4 ?_ rfl ?_; (focus (simp; done)); refine fun K hK => ?_; simp -implicitDefEqProofs +contextual [-Int.not_le, -Int.not_lt, -Nat.not_le, -Nat.not_lt, -List.all_eq_true, -List.all_eq_false, -List.any_eq_true, -List.any_eq_false, En.ow, hlt, hl, hge, hgo, e1, e2, e3, marksS_len, marksTy_len, marksDf_len]; (repeat1' (first | apply hK | apply And.intro | intro _)) <;> clear hK K)
      | (refine WPL.focAt 60 0 900005 1076 [] i 5 ?_ ?_; (focus (simp; done)); refine fun u K hK => ?_; simp -implicitDefEqProofs +contextual [-Int.not_le, -Int.not_lt, -Nat.not_le, -Nat.not_lt, -List.all_eq_true, -List.all_eq_false, -List.any_eq_true, -List.any_eq_false, En.ow, hlt, hl, hge, hgo, e1, e2, e3, marksS_len, marksTy_len, marksDf_len]; (repeat1' (first | apply hK | apply And.intro | intro _)) <;> clear hK K)
      | (refine WPL.attAt (some 1) 0 900005 1076 [] i 5 ?_ rfl ?_; (focus (simp; done)); refine fun K hK => ?_; simp -implicitDefEqProofs +contextual [-Int.not_le, -Int.not_lt, -Nat.not_le, -Nat.not_lt, -List.all_eq_true, -List.all_eq_false, -List.any_eq_true, -List.any_eq_false, En.ow, hlt, hl, hge, hgo, e1, e2, e3, marksS_len, marksTy_len, marksDf_len]; (repeat1' (first | apply hK | apply And.intro | intro _)) <;> clear hK K)
      | ((first | refine WPL.rnTo tok 28 _ (by simp [isFn]; rfl) fun K hK => ?_ | refine WPL.rnTo tok 36 _ (by simp [isFn]; rfl) fun K hK => ?_ | refine WPL.rnTo tok 44 _ (by simp [isFn]; rfl) fun K hK => ?_ | refine WPL.rnTo tok 52 _ (by simp [isFn]; rfl) fun K hK => ?_ | refine WPL.rnTo tok 60 _ (by simp [isFn]; rfl) fun K hK => ?_ | refine WPc.rq tok rfl fun K hK => ?_ | refine WPL.rn tok _ (by simp [ahead, isFn]; rfl) fun K hK => ?_); simp -implicitDefEqProofs +contextual [-Int.not_le, -Int.not_lt, -Nat.not_le, -Nat.not_lt, -List.all_eq_true, -List.all_eq_false, -List.any_eq_true, -List.any_eq_false, En.ow, hlt, hl, hge, hgo, e1, e2, e3, marksS_len, marksTy_len, marksDf_len]; (repeat1' (first | apply hK | apply And.intro | intro _)) <;> clear hK K <;> (try dsimp only [List.drop]))
      | apply WPc.sq
      | apply WPc.block
      | apply WPc.skip
      | refine WPL.nil ?_
      | (apply WPL.cL (c_laws_markText _ ?g1); (case q => (repeat' (first | refine And.intro ?_ ?_ | intro _ | (with_reducible exact cleanOut_nil) | (refine Eqv.mk ?_; first | rfl | (simp -implicitDefEqProofs [En.ow, hlt, hl, hge, hgo, e1, e2, e3, marksS_len, marksTy_len, marksDf_len]; done)) | (simp -implicitDefEqProofs [En.ow, hlt, hl, hge, hgo, e1, e2, e3, marksS_len, marksTy_len, marksDf_len]; done) | (simp -implicitDefEqProofs [En.ow, hlt, hl, hge, hgo, e1, e2, e3, marksS_len, marksTy_len, marksDf_len]; rfl) | (simp; done) | (simp; rfl) | rfl))); (case g1 => (first | assumption | omega)))
      | (apply WPL.cU (c_laws_markStringS _ _ ?g1 ?g2 ?g3); (case q => (repeat' (first | refine And.intro ?_ ?_ | intro _ | (with_reducible exact cleanOut_nil) | (refine Eqv.mk ?_; first | rfl | (simp -implicitDefEqProofs [En.ow, hlt, hl, hge, hgo, e1, e2, e3, marksS_len, marksTy_len, marksDf_len]; done)) | (simp -implicitDefEqProofs [En.ow, hlt, hl, hge, hgo, e1, e2, e3, marksS_len, marksTy_len, marksDf_len]; done) | (simp -implicitDefEqProofs [En.ow, hlt, hl, hge, hgo, e1, e2, e3, marksS_len, marksTy_len, marksDf_len]; rfl) | (simp; done) | (simp; rfl) | rfl))); (case g1 => (first | assumption | omega)); (case g2 => (first | assumption | omega)); (case g3 => (first | assumption | omega)))
      | (apply WPL.cU (c_laws_markTypeS _ _ ?g1 ?g2); (case q => (repeat' (first | refine And.intro ?_ ?_ | intro _ | (with_reducible exact cleanOut_nil) | (refine Eqv.mk ?_; first | rfl | (simp -implicitDefEqProofs [En.ow, hlt, hl, hge, hgo, e1, e2, e3, marksS_len, marksTy_len, marksDf_len]; done)) | (simp -implicitDefEqProofs [En.ow, hlt, hl, hge, hgo, e1, e2, e3, marksS_len, marksTy_len, marksDf_len]; done) | (simp -implicitDefEqProofs [En.ow, hlt, hl, hge, hgo, e1, e2, e3, marksS_len, marksTy_len, marksDf_len]; rfl) | (simp; done) | (simp; rfl) | rfl))); (case g1 => (first | assumption | omega)); (case g2 => (first | assumption | omega)))
      | (apply WPL.cU (c_laws_markDefS _ _ ?g1 ?g2); (case q => (repeat' (first | refine And.intro ?_ ?_ | intro _ | (with_reducible exact cleanOut_nil) | (refine Eqv.mk ?_; first | rfl | (simp -implicitDefEqProofs [En.ow, hlt, hl, hge, hgo, e1, e2, e3, marksS_len, marksTy_len, marksDf_len]; done)) | (simp -implicitDefEqProofs [En.ow, hlt, hl, hge, hgo, e1, e2, e3, marksS_len, marksTy_len, marksDf_len]; done) | (simp -implicitDefEqProofs [En.ow, hlt, hl, hge, hgo, e1, e2, e3, marksS_len, marksTy_len, marksDf_len]; rfl) | (simp; done) | (simp; rfl) | rfl))); (case g1 => (first | assumption | omega)); (case g2 => (first | assumption | omega)))
      | (refine WPc.region ?_; simp only [List.toList_toArray])
      | (refine WPc.condT ?_ ?_; (focus (simp; done))))
    refine ⟨i + 1, ⟨hlt, by first | omega | (simp only; omega) | assumption⟩, rfl, rfl, ?_, ?_⟩ <;> simp (disch := omega) [wrap64, hn]
    all_goals (refine fit_int ?_; omega)
  · obtain rfl : i = h.length := by omega
    have ha := over_all hm
    simp only [List.length_map] at ha
    refine gox (L := _ ∧ _ ∧ True) wb0 wb0 wb0 wb0 (wb1 (outO [(0, 63, 8, (marksEn k h).map En.ow)])) ⟨fun _ => ?_, fun _ => ?_, wb0⟩
    · simp [ha]
    · refine ⟨?_, rfl⟩
      rw [sumTo_all]; rfl
def markTk (k : Int) (c : Tk) : Tk := ⟨k, ⟨k + 1, k + 2, k + 3, marksBd (k + 4) c.mac.env, ⟨k + 4 + sumBd c.mac.env, k + 4 + sumBd c.mac.env + 1, mt (k + 4 + sumBd c.mac.env + 2)⟩, marksFm (k + 4 + sumBd c.mac.env + 3) c.mac.stack, k + 4 + sumBd c.mac.env + 3 + sumFm c.mac.stack⟩⟩
def mkTk (c : Tk) : Nat := 8 + sumBd c.mac.env + sumFm c.mac.stack
def sumTk (h : List Tk) : Nat := (h.map mkTk).sum
def marksTk (k : Int) (h : List Tk) : List Tk := h.mapIdx fun i c => markTk (k + sumTo mkTk h i) c
theorem marksTk_len (k : Int) (h : List Tk) : (marksTk k h).length = h.length := by simp [marksTk]
theorem lenTk (l : List Tk) : l.length ≤ sumTk l := lenSum (fun x => by unfold mkTk; omega) l
theorem c_laws_markTaskS (h : List Tk) (k : Int) (h1 : 0 ≤ k) (h2 : k + sumTk h ≤ 1000000000) : Con PP 54 [.sl 0 10 [] 0 h.length, .sc (.int .i64 k)] [(0, 81, 10, h.map Tk.ow)] [0] (fun r o => r = .sc (.int .i64 (k + sumTk h)) ∧ o = [(0, 81, 10, (marksTk k h).map Tk.ow)]) := by
  have hm : ((marksTk k h).map Tk.ow).length = (h.map Tk.ow).length := by simp [marksTk]
  have h3 := lenTk h
  refine cof 96 Go.Proofs.Tryz.func54 fun G => ?_
  simp only [entSt, tmOf, List.append_nil, List.cons_append, List.nil_append]
  refine go (L := _ ∧ True) wb0 wb0 wb0 wb0 wb0 ⟨fun _ => ?_, wb0⟩
  refine WPc.loopV (σ := Nat) (fun i => i ≤ h.length) (fun i => h.length - i) (fun i => [(5, .sc (.int .i64 i)), (1, .sc (.int .i64 (k + sumTo mkTk h i)))]) (fun i => [(0, 81, 10, over ((marksTk k h).map Tk.ow) (h.map Tk.ow) i)]) [0, 96] 0 (by simp [over_zero, sumTo_zero]) (by simp [over_zero, sumTo_zero]) (by simp) ?_
  rintro i hi s hs
  simp at hs
  subst hs
  by_cases hlt : i < h.length
  · have hl := over_len (i := i) hm
    have hge := over_ge (i := i) hm (by simpa using hlt)
    have hgo := over_get (i := i) hm (by simpa using hlt)
    simp only [List.length_map, List.getElem_map] at hl hge hgo
    have hs := sumTo_next (f := mkTk) hlt
    have hsl := sumTo_le mkTk h (i + 1)
    have hmk : mkTk h[i] = 8 + sumBd h[i].mac.env + sumFm h[i].mac.stack := rfl
    unfold sumTk at h2 h3
    have e1 : IntKind.i64.wrap (k + sumTo mkTk h i + 1) = k + sumTo mkTk h i + 1 := by rw [wrap64 (by omega) (by omega)]
    have e2 : IntKind.i64.wrap (k + sumTo mkTk h i + 1 + 1) = k + sumTo mkTk h i + 2 := by rw [wrap64 (by omega) (by omega)]; omega
    have e3 : IntKind.i64.wrap (k + sumTo mkTk h i + 2 + 1) = k + sumTo mkTk h i + 3 := by rw [wrap64 (by omega) (by omega)]; omega
    have e4 : IntKind.i64.wrap (k + sumTo mkTk h i + 3 + 1) = k + sumTo mkTk h i + 4 := by rw [wrap64 (by omega) (by omega)]; omega
    have n1 : h[i].mac.env.length ≤ 1000000000 := by have := lenBd h[i].mac.env; omega
    have e5 : IntKind.i64.wrap (k + sumTo mkTk h i + 4 + sumBd h[i].mac.env + 1) = k + sumTo mkTk h i + 4 + sumBd h[i].mac.env + 1 := by rw [wrap64 (by omega) (by omega)]
    have e6 : IntKind.i64.wrap (k + sumTo mkTk h i + 4 + sumBd h[i].mac.env + 1 + 1) = k + sumTo mkTk h i + 4 + sumBd h[i].mac.env + 2 := by rw [wrap64 (by omega) (by omega)]; omega
    have e7 : IntKind.i64.wrap (k + sumTo mkTk h i + 4 + sumBd h[i].mac.env + 2 + 1) = k + sumTo mkTk h i + 4 + sumBd h[i].mac.env + 3 := by rw [wrap64 (by omega) (by omega)]; omega
    have n2 : h[i].mac.stack.length ≤ 1000000000 := by have := lenFm h[i].mac.stack; omega
    have e8 : IntKind.i64.wrap (k + sumTo mkTk h i + 4 + sumBd h[i].mac.env + 3 + sumFm h[i].mac.stack + 1) = k + sumTo mkTk h i + 4 + sumBd h[i].mac.env + 3 + sumFm h[i].mac.stack + 1 := by rw [wrap64 (by omega) (by omega)]
    have hn : ∀ u0 u1 : C, ((((((((((((((((((((((((over ((marksTk k h).map Tk.ow) (h.map Tk.ow) i).modify i fun r => r.set 0 (.sc (.int .i64 (k + sumTo mkTk h i))))).modify i fun r => r.set 1 (.sc (.int .i64 (k + sumTo mkTk h i + 1))))).modify i fun r => r.set 2 (.sc (.int .i64 (k + sumTo mkTk h i + 2))))).modify i fun r => r.set 3 (.sc (.int .i64 (k + sumTo mkTk h i + 3))))).modify i fun r => r.set 4 u0)).modify i fun r => r.set 4 (.sl 210 4 ((marksBd (k + sumTo mkTk h i + 4) h[i].mac.env).map Bd.cs)))).modify i fun r => r.set 5 (.sc (.int .i64 (k + sumTo mkTk h i + 4 + sumBd h[i].mac.env))))).modify i fun r => r.set 6 (.sc (.int .i64 (k + sumTo mkTk h i + 4 + sumBd h[i].mac.env + 1))))).modify i fun r => r.set 7 (.sc (.string (mt (k + sumTo mkTk h i + 4 + sumBd h[i].mac.env + 2)))))).modify i fun r => r.set 8 u1)).modify i fun r => r.set 8 (.sl 150 4 ((marksFm (k + sumTo mkTk h i + 4 + sumBd h[i].mac.env + 3) h[i].mac.stack).map Fm.ow)))).modify i fun r => r.set 9 (.sc (.int .i64 (k + sumTo mkTk h i + 4 + sumBd h[i].mac.env + 3 + sumFm h[i].mac.stack)))) = over ((marksTk k h).map Tk.ow) (h.map Tk.ow) (i + 1) := fun u0 u1 => by
      rw [List.modify_modify_eq, List.modify_modify_eq, List.modify_modify_eq, List.modify_modify_eq, List.modify_modify_eq, List.modify_modify_eq, List.modify_modify_eq, List.modify_modify_eq, List.modify_modify_eq, List.modify_modify_eq, List.modify_modify_eq]
      exact over_next hm (by simpa using hlt) (by simp [marksTk, markTk, Tk.ow, hlt])
    refine gox (L := _ ∧ True) (wa15 @Tk.ow.eq_1 @hlt @hl @hge @hgo @e1 @e2 @e3 @e4 @e5 @e6 @e7 @e8 @marksBd_len @marksFm_len) (wb1 (fun v0 (h : _) => c_laws_markText v0 h)) (wb2 (fun v0 v1 (h : _ ∧ _) => c_laws_markBindS v0 v1 h.1 h.2) (fun v0 v1 (h : _ ∧ _) => c_laws_markFrameS v0 v1 h.1 h.2)) wb0 (wb5 wb0 (nm 3 [50, 0, 900001, 1096, i, 4]) (nm 4 [1, 0, 900001, 1096, i, 4]) (nm 3 [86, 0, 900002, 1096, i, 8]) (nm 4 [1, 0, 900002, 1096, i, 8])) ⟨fun _ _ _ => ?_, wb0⟩
    refine ⟨i + 1, ⟨hlt, by first | omega | (simp only; omega) | assumption⟩, rfl, rfl, ?_, ?_⟩ <;> simp (disch := omega) [wrap64, hn]
    all_goals (refine fit_int ?_; omega)
  · obtain rfl : i = h.length := by omega
    have ha := over_all hm
    simp only [List.length_map] at ha
    refine gox (L := _ ∧ _ ∧ True) wb0 wb0 wb0 wb0 (wb1 (outO [(0, 81, 10, (marksTk k h).map Tk.ow)])) ⟨fun _ => ?_, fun _ => ?_, wb0⟩
    · simp [ha]
    · refine ⟨?_, rfl⟩
      rw [sumTo_all]; rfl
end Go.Own
