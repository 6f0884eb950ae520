import Derived.Test.YtfanjfmgacfpjaaGreatDoorTd
import Derived.Test.YtfanjfmgacfpjaaGreatDoorCards
import Derived.Test.YtfanjfmgacfpjaaGreatDoorTie
import Derived.OpenShut
import Derived.Deep.DeepHandedRow
import Derived.Lib.LaidTab
import Derived.Carry
import Derived.Lay
import Derived.SevenTiedAt
/- The card of FnExactPrim is proved, for every input: the program's Prim returns what the reference's returns, for all arguments. Conditions: package-level variables start as the program's text lays them (the card ties them to the pruned copy of the project that lies in the seat); no other condition. -/
set_option linter.unusedVariables false
set_option linter.unusedSimpArgs false
set_option linter.unusedSectionVars false
set_option maxRecDepth 1000000
namespace Go.Own
open Go.ChangeShapes Go.WideShapes Go.Deep
theorem undV : ∃ f0 f1 f2, PP.underlying 86 = some (.struct #[f0, f1, f2]) ∧ f0.type = 3 ∧ f0.offset = 0 ∧ f1.type = 3 ∧ f1.offset = 1 ∧ f2.type = 9 ∧ f2.offset = 2 := ⟨_, _, _, rfl, rfl, rfl, rfl, rfl, rfl, rfl⟩
theorem undC : ∃ f0 f1 f2 f3 f4 f5, PP.underlying 84 = some (.struct #[f0, f1, f2, f3, f4, f5]) ∧ (f0.type = 3 ∧ f0.offset = 0) ∧ (f1.type = 9 ∧ f1.offset = 1) ∧ (f2.type = 3 ∧ f2.offset = 2) ∧ (f3.type = 3 ∧ f3.offset = 3) ∧ (f4.type = 65 ∧ f4.offset = 4) ∧ (f5.type = 36 ∧ f5.offset = 5) := ⟨_, _, _, _, _, _, rfl, ⟨rfl, rfl⟩, ⟨rfl, rfl⟩, ⟨rfl, rfl⟩, ⟨rfl, rfl⟩, ⟨rfl, rfl⟩, ⟨rfl, rfl⟩⟩
theorem undCS : PP.underlying 35 = some (.slice 84) := by kernel_rfl
theorem undVS : PP.underlying 36 = some (.slice 86) := by kernel_rfl
theorem undSS : PP.underlying 65 = some (.slice 9) := by kernel_rfl
theorem undS : PP.underlying 9 = some .string := by kernel_rfl
theorem undI : PP.underlying 3 = some (.int .i64) := by kernel_rfl
theorem clC : PP.cellsOf 84 = 6 := by kernel_rfl
theorem clV : PP.cellsOf 86 = 3 := by kernel_rfl
theorem clS : PP.cellsOf 9 = 1 := by kernel_rfl
theorem clI : PP.cellsOf 3 = 1 := by kernel_rfl
theorem clSS : PP.cellsOf 65 = 1 := by kernel_rfl
theorem clVS : PP.cellsOf 36 = 1 := by kernel_rfl
variable {H : Type} {enc : TypeId × Value → H} {w : World} {base : Nat} {spare : Nat → Bool} {held : Bool} {av : Nat → Prop} {n : Nat} {cs : List Value} {D : DataW H × List MemPlace}
theorem rd_str {v : Value} (h : DataW.trod enc PP w base spare held n 9 [v] = some D) : ∃ s, v = .string s ∧ s.size ≤ maxLen := by
  obtain ⟨s, h1, _, h2⟩ := DataW.trod_string undS h
  exact ⟨s, by simpa using h1, h2⟩
theorem rd_int {v : Value} (h : DataW.trod enc PP w base spare held n 3 [v] = some D) : ∃ k, v = .int .i64 k := by
  obtain ⟨k, h1, _⟩ := DataW.trod_int undI h
  exact ⟨k, by simpa using h1⟩
theorem rd_V (hl : cs.length = 3) (h : DataW.trod enc PP w base spare held n 86 cs = some D) :
    ∃ v : V, v.s.size ≤ maxLen ∧ ∀ (j : Nat) (y : C), (V.cs v)[j]? = some y → ∃ u, cs[j]? = some u ∧ FR av w y u := by
  obtain ⟨f0, f1, f2, hu, t0, o0, t1, o1, t2, o2⟩ := undV
  obtain ⟨xs, m, _, _, _, hx, hf⟩ := DataW.trod_struct hu h
  match cs, hl with
  | [a, b, c], _ =>
    have g0 := hf 0 f0 rfl
    have g1 := hf 1 f1 rfl
    have g2 := hf 2 f2 rfl
    have hx3 : xs.length = 3 := hx
    rw [t0, o0, clI, List.getElem?_eq_getElem (by omega)] at g0
    rw [t1, o1, clI, List.getElem?_eq_getElem (by omega)] at g1
    rw [t2, o2, clS, List.getElem?_eq_getElem (by omega)] at g2
    simp only [List.drop_zero, List.take_succ_cons, List.take_zero, List.drop_succ_cons] at g0 g1 g2
    obtain ⟨k, rfl⟩ := rd_int g0
    obtain ⟨m, rfl⟩ := rd_int g1
    obtain ⟨s, rfl, hs⟩ := rd_str g2
    refine ⟨⟨k, m, s⟩, hs, fun j y hj => ?_⟩
    match j, hj with
    | 0, hj => simp [V.cs] at hj; subst hj; exact ⟨_, rfl, .sc _ rfl⟩
    | 1, hj => simp [V.cs] at hj; subst hj; exact ⟨_, rfl, .sc _ rfl⟩
    | 2, hj => simp [V.cs] at hj; subst hj; exact ⟨_, rfl, .sc _ rfl⟩
    | j + 3, hj => simp [V.cs] at hj
theorem rd_strs (hav : ∀ b, av b) {v : Value} (h : DataW.trod enc PP w base spare held n 65 [v] = some D) : ∃ l : List ByteArray, (∀ s, s ∈ l → s.size ≤ maxLen) ∧ FR av w (.fz (l.map sC)) v :=
  fr_slice sC (fun s => s.size ≤ maxLen) (fun _ => rfl) (by decide) hav undSS clS (fun n cs D hl h => by
    match cs, hl with
    | [a], _ =>
      obtain ⟨s, rfl, hs⟩ := rd_str h
      refine ⟨s, hs, fun j y hj => ?_⟩
      match j, hj with
      | 0, hj => simp [sC] at hj; subst hj; exact ⟨_, rfl, .sc _ rfl⟩
      | j + 1, hj => simp [sC] at hj) h
theorem rd_vals (hav : ∀ b, av b) {v : Value} (h : DataW.trod enc PP w base spare held n 36 [v] = some D) : ∃ l : List V, (∀ v, v ∈ l → v.s.size ≤ maxLen) ∧ FR av w (.fz (l.map V.cs)) v :=
  fr_slice V.cs (fun v => v.s.size ≤ maxLen) (fun _ => rfl) (by decide) hav undVS clV (fun n cs D hl h => rd_V hl h) h
theorem rd_C (hav : ∀ b, av b) (hl : cs.length = 6) (h : DataW.trod enc PP w base spare held n 84 cs = some D) :
    ∃ c : Cl, c.tx ∧ ∀ (j : Nat) (y : C), (Cl.cs c)[j]? = some y → ∃ u, cs[j]? = some u ∧ FR av w y u := by
  obtain ⟨f0, f1, f2, f3, f4, f5, hu, ⟨t0, o0⟩, ⟨t1, o1⟩, ⟨t2, o2⟩, ⟨t3, o3⟩, ⟨t4, o4⟩, ⟨t5, o5⟩⟩ := undC
  obtain ⟨xs, m, _, _, _, hx, hf⟩ := DataW.trod_struct hu h
  have hx6 : xs.length = 6 := hx
  match cs, hl with
  | [a, b, c, d, e, f], _ =>
    have g0 := hf 0 f0 rfl
    have g1 := hf 1 f1 rfl
    have g2 := hf 2 f2 rfl
    have g3 := hf 3 f3 rfl
    have g4 := hf 4 f4 rfl
    have g5 := hf 5 f5 rfl
    rw [t0, o0, clI, List.getElem?_eq_getElem (by omega)] at g0
    rw [t1, o1, clS, List.getElem?_eq_getElem (by omega)] at g1
    rw [t2, o2, clI, List.getElem?_eq_getElem (by omega)] at g2
    rw [t3, o3, clI, List.getElem?_eq_getElem (by omega)] at g3
    rw [t4, o4, clSS, List.getElem?_eq_getElem (by omega)] at g4
    rw [t5, o5, clVS, List.getElem?_eq_getElem (by omega)] at g5
    simp only [List.drop_zero, List.take_succ_cons, List.take_zero, List.drop_succ_cons] at g0 g1 g2 g3 g4 g5
    obtain ⟨k, rfl⟩ := rd_int g0
    obtain ⟨s, rfl, hs⟩ := rd_str g1
    obtain ⟨x, rfl⟩ := rd_int g2
    obtain ⟨y, rfl⟩ := rd_int g3
    obtain ⟨ns, hn1, hn2⟩ := rd_strs (av := av) hav g4
    obtain ⟨vs, hv1, hv2⟩ := rd_vals (av := av) hav g5
    refine ⟨⟨k, s, x, y, ns, vs⟩, ⟨hs, hn1, hv1⟩, fun j z hj => ?_⟩
    match j, hj with
    | 0, hj => simp [Cl.cs] at hj; subst hj; exact ⟨_, rfl, .sc _ rfl⟩
    | 1, hj => simp [Cl.cs] at hj; subst hj; exact ⟨_, rfl, .sc _ rfl⟩
    | 2, hj => simp [Cl.cs] at hj; subst hj; exact ⟨_, rfl, .sc _ rfl⟩
    | 3, hj => simp [Cl.cs] at hj; subst hj; exact ⟨_, rfl, .sc _ rfl⟩
    | 4, hj => simp [Cl.cs] at hj; subst hj; exact ⟨_, rfl, hn2⟩
    | 5, hj => simp [Cl.cs] at hj; subst hj; exact ⟨_, rfl, hv2⟩
    | j + 6, hj => simp [Cl.cs] at hj
theorem rd_heap (hav : ∀ b, av b) {v : Value} (h : DataW.trod enc PP w base spare held n 35 [v] = some D) : ∃ l : List Cl, (∀ c, c ∈ l → c.tx) ∧ FR av w (.fz (l.map Cl.cs)) v :=
  fr_slice Cl.cs Cl.tx (fun _ => rfl) (by decide) hav undCS clC (fun n cs D hl h => rd_C hav hl h) h
end Go.Own
set_option linter.unusedVariables false
set_option linter.unusedSimpArgs false
set_option linter.unusedSectionVars false
set_option maxRecDepth 1000000
namespace Go.Own
open Go.ChangeShapes Go.WideShapes Go.Deep Go.RowKit
def Reads1 (w : World) (n : String) (d : DataW Unit) : Prop :=
  ∃ g t cs fuel p, PP.globalNamed n = some g ∧ (PP.globals[g]?).map (·.type) = some t ∧ w.var? PP n = some cs ∧ DataW.trod (fun _ => ()) PP w 0 (fun _ => true) false fuel t cs.toList = some (d, p)
theorem reads_laid {w : World} : ∀ {l : List (String × DataW Unit)} {ps : List MemPlace}, DataW.LaidVars PP w l ps → ∀ n d, (n, d) ∈ l → Reads1 w n d
  | [], _, _, _, _, hm => by cases hm
  | (n', d') :: r, ps, h, n, d, hm => by
    obtain ⟨g, t, cs, fuel, p, q, h1, h2, h3, h4, h5, _⟩ := h
    rcases List.mem_cons.1 hm with e | e
    · cases e; exact ⟨g, t, cs, fuel, p, h1, h2, h3, h4⟩
    · exact reads_laid h5 n d e
theorem gSyn : PP.globalNamed "strconv.ErrSyntax" = some 1 := by kernel_rfl
theorem gRng : PP.globalNamed "strconv.ErrRange" = some 2 := by kernel_rfl
theorem tSyn : (PP.globals[1]?).map (·.type) = some 152 := by kernel_rfl
theorem tRng : (PP.globals[2]?).map (·.type) = some 152 := by kernel_rfl
theorem undE : ∃ ms, PP.underlying 152 = some (.interface ms) := ⟨_, rfl⟩
theorem err_cell {w : World} {n : String} {g : Nat} {s : List UInt8} (hg : PP.globalNamed n = some g) (ht : (PP.globals[g]?).map (·.type) = some 152) (h : Reads1 w n (.iface "*errors.errorString" (.ptr (.agg [.lit (.string s)])))) :
    ∃ ev, w.cell? ⟨g, 0, none⟩ = some ev ∧ (ev = .nilIface ∨ ∃ te pe, ev = .iface te pe) := by
  obtain ⟨g', t, cs, fuel, p, h1, h2, h3, h4⟩ := h
  obtain rfl := Option.some.inj (hg.symm.trans h1)
  obtain rfl := Option.some.inj (ht.symm.trans h2)
  obtain ⟨ms, hu⟩ := undE
  have key : ∃ u v, cs.toList = [.iface u v] := by
    cases fuel with
    | zero => simp [DataW.trod] at h4
    | succ m =>
      unfold DataW.trod at h4
      rw [hu] at h4
      split at h4 <;> simp_all
  obtain ⟨u, v, hcs⟩ := key
  have := World.var?_cell hg h3 0
  refine ⟨.iface u v, ?_, .inr ⟨u, v, rfl⟩⟩
  rw [this]
  have : cs = #[.iface u v] := by apply Array.toList_inj.1; simpa using hcs
  rw [this]; rfl
open Go.Proofs.YtfanjfmgacfpjaaGreatDoor
theorem facts_of {W : World} (hL : laidMetH PP Rows.fnExactPrimRow.laid W) (hsh : W.ShapedOpen PP) : Facts W := by
  have hL : laidMet PP Rows.fnExactPrimRow.laid W := hL
  obtain ⟨ps, hv, _⟩ := hL
  have rd := fun n d hm => reads_laid hv n d hm
  refine ⟨?_, ?_, ?_, ?_⟩
  · exact Go.Proofs.cell_of_shapedOpen_int (zero := #[.int .i64 0]) (t := 3) hsh (of_decide_eq_true (by kernel_rfl)) (by kernel_rfl) rfl (by kernel_rfl) (by kernel_rfl) undI
  · exact err_cell gSyn tSyn (rd "strconv.ErrSyntax" _ (by simp [Rows.fnExactPrimRow, Rows.laid_strconv_ErrSyntax]; rfl))
  · exact err_cell gRng tRng (rd "strconv.ErrRange" _ (by simp [Rows.fnExactPrimRow, Rows.laid_strconv_ErrRange]; rfl))
  · obtain ⟨g, t, cs, fuel, p, h1, h2, h3, h4⟩ := rd "internal/strconv.uint64pow10" Rows.laid_internal_strconv_uint64pow10 (by simp [Rows.fnExactPrimRow])
    have ht : t = 184 := by
      have : (PP.globalNamed "internal/strconv.uint64pow10").bind (fun g => (PP.globals[g]?).map (·.type)) = some 184 := by kernel_rfl
      rw [h1] at this
      exact Option.some.inj (h2.symm.trans this)
    subst ht
    unfold Lib.TabIs
    rw [h3, ← Lib.cells_of_tab (e := 165) (n := 20) (k := .u64) (zs := Lib.pow10Tab) (by kernel_rfl) (by kernel_rfl) (by kernel_rfl) (by kernel_rfl) h4]
end Go.Own
set_option linter.unusedVariables false
set_option linter.unusedSimpArgs false
set_option linter.unusedSectionVars false
set_option maxRecDepth 1000000
namespace Go.Own
open Go.ChangeShapes Go.WideShapes Go.Deep Go.RowKit Go.ChangeAt Go.Proofs.YtfanjfmgacfpjaaGreatDoor
theorem post_of_below {H : Type} {enc : TypeId × Value → H} {P : Program} {f : Func} {s : ChangeSpec} {apart fresh handsOn again : Bool} {W W' : World} {args : Array Value} {v : Value} {ds gs : List (DataW H)} {before pa pv : List MemPlace}
    (hW : DataW.Whole enc P f.params.toList s.vars apart W args.toList ds gs before)
    (hres : ∀ (b : Nat) (sp : Nat → Bool) (hd : Bool), DataW.TrodAll enc P W' b sp hd f.resultTypes.toList (v.resultList f.resultTypes.size) (s.fn H (ds ++ gs)).results [])
    (hargs : ∀ sp : Nat → Bool, (∀ p ∈ before, sp p.block = true) → DataW.TrodAll enc P W' 0 sp true f.params.toList args.toList (s.fn H (ds ++ gs)).args pa)
    (hvars : ∀ sp : Nat → Bool, (∀ p ∈ before, sp p.block = true) → DataW.TrodVars enc P W' sp s.vars (s.fn H (ds ++ gs)).vars pv)
    (hps : before = pa ++ pv) (hk : W.keptBut W' (· ∈ before)) (hfz : ∀ b off, b < W.heap.size → W'.frozen? ⟨b, off, none⟩ = W.frozen? ⟨b, off, none⟩)
    (hok : ∀ (j : Nat) (t : TypeId) (r : Value), f.resultTypes[j]? = some t → (v.resultList f.resultTypes.size)[j]? = some r → Value.okWide P W' .any 0 t r) :
    s.post enc P f apart fresh handsOn again W args v W' := by
  have hold : ∀ p ∈ before, (fun b => decide (b < W.heap.size)) p.block = true := fun p hp => by simpa using hW.lt p hp
  have hlt := hW.lt
  refine ⟨ds, gs, before, [], pa, pv, hW, hres _ _ _, hargs _ hold, hvars _ hold, World.keptBut_mono (fun p hp => ⟨hp, ?_⟩) hk, fun _ => ?_⟩
  · rw [hps, List.mem_append] at hp
    exact Or.inr hp
  · obtain ⟨_, _, _, _, _, hz, hn⟩ := hW
    refine ⟨hok, _, _, ([] ++ pa) ++ pv, ⟨[] ++ pa, pv, trodAll_append (hargs _ (fun _ _ => rfl)) (hres _ _ _), hvars _ (fun _ _ => rfl), rfl, ?_, ?_⟩, ?_⟩
    · intro b off hp
      have hp' : MemPlace.cell b off ∈ before := by rw [hps]; simpa using hp
      rw [hfz b off (hlt _ hp')]
      exact hz b off hp'
    · intro ha
      have := hn ha
      rw [hps] at this
      simpa using this
    · intro p hp _
      rw [hps]
      simpa using hp
@[reducible] def LI : Laid where
  n := 4
  ok := Facts
  mono := fun w w' h hf => by
    have hc : ∀ b, b < 4 → w'.cell? ⟨b, 0, none⟩ = w.cell? ⟨b, 0, none⟩ := fun b hb => World.cell?_of_block (w := w) (h b hb)
    refine ⟨by rw [hc 0 (by omega)]; exact hf.maxLen, by rw [hc 1 (by omega)]; exact hf.syn, by rw [hc 2 (by omega)]; exact hf.rng, ?_⟩
    have hp := hf.pow
    unfold Lib.TabIs World.var? at hp ⊢
    have hg : PP.globalNamed "internal/strconv.uint64pow10" = some 3 := by kernel_rfl
    rw [hg] at hp ⊢
    simp only [Option.bind_some] at hp ⊢
    rw [h 3 (by omega)]
    exact hp
theorem slice_cells {W : World} {base : Nat} {t e : TypeId} {v : Value} (ht : PP.underlying t = some (.slice e)) (h : Value.okWide PP W .any base t v) : v.cells.toList = [v] := by
  simp only [Value.okWide, ht, Cell.okWide, Cell.ok] at h
  cases v <;> simp_all [Value.cells]
theorem string_cells {W : World} {base : Nat} {t : TypeId} {v : Value} (ht : PP.underlying t = some .string) (h : Value.okWide PP W .any base t v) : v.cells.toList = [v] := by
  simp only [Value.okWide, ht, Cell.okWide, Cell.ok] at h
  cases v <;> simp_all [Value.cells]
theorem par4 : Go.Proofs.Tryz.f4.params = #[35, 9, 36] := by kernel_rfl
theorem undB : PP.underlying 4 = some .bool := by kernel_rfl
theorem laidOut : laidOutB PP = true := by kernel_rfl
theorem contract (H : Type) (enc : TypeId × Value → H) (W : World) (base : Nat) (args : Array Value) (ds gs : List (DataW H)) (before : List MemPlace)
    (hval : ∀ (j : Nat) t v, Go.Proofs.Tryz.f4.params[j]? = some t → args[j]? = some v → Value.okWide PP W .any base t v)
    (hW : DataW.Whole enc PP Go.Proofs.Tryz.f4.params.toList Rows.fnExactPrimSpec.vars false W args.toList ds gs before) (hL : laidMetH PP Rows.fnExactPrimRow.laid W) (hsh : W.ShapedOpen PP) :
    Calls PP 4 args W fun e W' => ∃ v, e = .returned v ∧ Rows.fnExactPrimSpec.post enc PP Go.Proofs.Tryz.f4 false true false false W args v W' := by
  have hW' := hW
  obtain ⟨p, q, hA0, hV, rfl, hfz, hnd⟩ := hW
  have hA : DataW.TrodAll enc PP W 0 (fun _ => true) true Go.Proofs.Tryz.f4.params.toList args.toList ds p := hA0
  rw [par4] at hA hval
  obtain ⟨v0, vs0, d0, ds0, p0, q0, hargs, rfl, rfl, h0, r0⟩ := trodAll_cons hA
  obtain ⟨v1, vs1, d1, ds1, p1, q1, rfl, rfl, rfl, h1, r1⟩ := trodAll_cons r0
  obtain ⟨v2, vs2, d2, ds2, p2, q2, rfl, rfl, rfl, h2, r2⟩ := trodAll_cons r1
  obtain ⟨rfl, rfl, rfl⟩ := trodAll_nil r2
  obtain rfl : args = #[v0, v1, v2] := by cases args; simp_all
  obtain ⟨rfl, rfl⟩ := trodVars_none hV
  have o0 := slice_cells undCS (hval 0 _ v0 rfl rfl)
  have o1 := string_cells undS (hval 1 _ v1 rfl rfl)
  have o2 := slice_cells undVS (hval 2 _ v2 rfl rfl)
  obtain ⟨n0, t0⟩ := h0
  obtain ⟨n1, t1⟩ := h1
  obtain ⟨n2, t2⟩ := h2
  have t0' := t0
  have t2' := t2
  rw [o0] at t0'
  rw [o1] at t1
  rw [o2] at t2'
  obtain ⟨h, hh1, hh2⟩ := rd_heap (av := fun b => (fun _ : Nat => (none : Option (Nat × Pth))) b = none) (fun _ => rfl) t0'
  obtain ⟨s, rfl, hs⟩ := rd_str t1
  obtain ⟨a, ha1, ha2⟩ := rd_vals (av := fun b => (fun _ : Nat => (none : Option (Nat × Pth))) b = none) (fun _ => rfl) t2'
  have hf := facts_of hL hsh
  letI := LI
  haveI : Facts.Of := ⟨fun w h => h⟩
  have hsz : 4 ≤ W.heap.size := by
    have := (hf.pow)
    unfold Lib.TabIs World.var? at this
    have hg : PP.globalNamed "internal/strconv.uint64pow10" = some 3 := by kernel_rfl
    rw [hg] at this
    simp only [Option.bind_some] at this
    split at this
    · rename_i hx; exact (Array.getElem?_eq_some_iff.1 hx).1
    · simp at this
  refine ((c_laws_FnExactPrim h s a hs hh1 ha1).run (fun _ => none) W #[v0, .string s, v2] ⟨hf, hsz, fun _ _ => rfl⟩ rfl (fun i v hi => ?_) (fun _ _ _ _ h => by simp [lo] at h) (fun _ _ _ h => by simp at h) (fun _ _ h => by simp at h)).mono ?_
  · match i, hi with
    | 0, hi => simp at hi; subst hi; exact .fz _ _ hh2
    | 1, hi => simp at hi; subst hi; exact .sc _
    | 2, hi => simp at hi; subst hi; exact .fz _ _ ha2
    | i + 3, hi => simp at hi
  rintro e W' ⟨u, res, ob', β', rfl, hp⟩
  have hb : Below W.heap.size W W' := ⟨hp.os, hp.tape, hp.output, hp.hs, fun b hb => hp.fr b hb rfl⟩
  have hu : u = .bool true := by
    have := hp.res
    rw [hp.ok] at this
    exact this.sc_inv
  subst hu
  have hlt := hW'.lt
  simp only [List.append_nil, List.append_assoc] at hlt
  refine ⟨_, rfl, post_of_below (pa := p0 ++ (p1 ++ (p2 ++ []))) (pv := []) hW' (fun _ _ _ => trodAll_cons_mk (shut_bool undB _) trodAll_mk0) (fun sp hsp => ?_) (fun _ _ => rfl) (by simp) (hb.frame _) (fun b off hlt => hb.frozen hlt) (ok_one (by kernel_rfl) rfl (okWide_bool_mk undB _))⟩
  rw [par4]
  have hsp' : ∀ x, x ∈ p0 ∨ x ∈ p1 ∨ x ∈ p2 → sp x.block = true ∧ x.block < W.heap.size := fun x hx => by
    have hm : x ∈ p0 ++ (p1 ++ p2) := by simpa using hx
    exact ⟨hsp x (by simpa using hm), hlt x (by simpa using hm)⟩
  refine trodAll_cons_mk (WideElems.Trod_stays laidOut (by kernel_rfl) (of_decide_eq_true (by kernel_rfl)) ⟨n0, t0⟩ (fun x hx => hb.same (hsp' x (.inl hx)).2) (fun x hx => (hsp' x (.inl hx)).1)) ?_
  refine trodAll_cons_mk (WideElems.Trod_stays laidOut (by kernel_rfl) (of_decide_eq_true (by kernel_rfl)) ⟨n1, by rw [o1]; exact t1⟩ (fun x hx => hb.same (hsp' x (.inr (.inl hx))).2) (fun x hx => (hsp' x (.inr (.inl hx))).1)) ?_
  exact trodAll_cons_mk (WideElems.Trod_stays laidOut (by kernel_rfl) (of_decide_eq_true (by kernel_rfl)) ⟨n2, t2⟩ (fun x hx => hb.same (hsp' x (.inr (.inr hx))).2) (fun x hx => (hsp' x (.inr (.inr hx))).1)) trodAll_mk0
end Go.Own
set_option linter.unusedVariables false
set_option maxRecDepth 1000000
namespace Go.Own
open Go.ChangeShapes Go.WideShapes Go.Deep Go.RowKit Go.ChangeAt Go.Proofs.YtfanjfmgacfpjaaGreatDoor
theorem own4 : ownKnob PP.godebug = none := by kernel_rfl
def wargs : Array Value := #[.slice none 0 0, .string ⟨#[]⟩, .slice none 0 0]
noncomputable def wW (os : Os) : World := World.laidAll PP os Rows.fnExactPrimRow.laid
theorem laid_met (os : Os) : laidMetH PP Rows.fnExactPrimRow.laid ((wW os).forCall (fun _ _ => 0) ⟨#[], wargs, []⟩).memory :=
  show laidMet PP Rows.fnExactPrimRow.laid _ from laidMet_laidAll wargs (by kernel_rfl) (by kernel_rfl)
theorem wreads (os : Os) {H : Type} (enc : TypeId × Value → H) : ∃ places, DataW.whole enc PP ((wW os).forCall (fun _ _ => 0) ⟨#[], wargs, []⟩).memory Go.Proofs.Tryz.f4.params.toList Rows.fnExactPrimSpec.vars false wargs.toList 8 = some ([.nil, .lit (.string []), .nil], [], places) :=
  ⟨[], by kernel_rfl⟩
theorem lifted (os : Os) (started : os.Started) (H : Type) (enc : TypeId × Value → H) (F : Stop.Interp) :
    ReturnsInHanded {} Go.Proofs.Tryz.checked os 4 .any ((OpenSpec.ofChange Rows.fnExactPrimSpec).preRow enc PP Go.Proofs.Tryz.f4 Rows.fnExactPrimRow.domain false Rows.fnExactPrimRow.laid) (((OpenSpec.ofChange Rows.fnExactPrimSpec).at F).post enc PP Go.Proofs.Tryz.f4 false true false false) := by
  obtain ⟨places, hx⟩ := wreads os enc
  refine returnsInHanded_of_row (C := Go.Proofs.Tryz.checked) (s := OpenSpec.ofChange Rows.fnExactPrimSpec) own4 started (by kernel_rfl) Go.Proofs.Tryz.func4
    (witness_row_at (enc := enc) (C := Go.Proofs.Tryz.checked) false (wW os) wargs (World.laidAll_os _ _ _) (by kernel_rfl) (by kernel_rfl) (by kernel_rfl)
      (OpenSpec.preRow_of_cond 8 hx (by kernel_rfl) (fun k hk => by cases hk) (by kernel_rfl) (laid_met os))) ?_
  intro W base args ds gs before hval hW _ _ _ hL hsh _
  exact contract H enc W base args ds gs before hval hW hL hsh
theorem said : Rows.FnExactPrimSaid :=
  OpenClaim.holds_of_cond 4 Go.Proofs.Tryz.f4 rfl rfl rfl rfl rfl rfl rfl ⟨rfl, rfl, rfl, rfl, rfl⟩ rfl rfl rfl rfl rfl (by kernel_rfl) Go.Proofs.Tryz.func4 (by kernel_rfl)
    (of_decide_eq_true (by kernel_rfl)) (by unfold Func.isWrapper; first | (rw [if_pos (by decide +kernel)]; kernel_rfl) | (rw [if_neg (by decide +kernel)]; exact ⟨rfl, rfl⟩))
    (fun os started H enc _ F => by rw [OpenClaim.pre_eq_preRow]; exact lifted os started H enc F)
end Go.Own
set_option linter.unusedVariables false
set_option maxRecDepth 1000000
namespace Go.Own
open Go.ChangeShapes Go.WideShapes Go.Deep Go.RowKit Go.ChangeAt Go.Proofs.YtfanjfmgacfpjaaGreatDoor
theorem plain4 (f : FuncId) (fn : Func) (hf : Tryz.pinned.checked.prog.funcNamed "loop.example/g00765/laws.FnExactPrim" = some f) (hfn : Tryz.pinned.checked.prog.funcs[f]? = some fn) :
    true = Tryz.pinned.checked.prog.looks [] ∧ ∀ (j : Nat) t, fn.params[j]? = some t → Tryz.pinned.checked.prog.wantsStandIn t = false := by
  obtain rfl : f = 4 := Option.some.inj ((show PP.funcNamed "loop.example/g00765/laws.FnExactPrim" = some 4 by kernel_rfl).symm.trans hf) |>.symm
  obtain rfl : fn = Go.Proofs.Tryz.f4 := (Option.some.inj (Go.Proofs.Tryz.func4.symm.trans hfn)).symm
  refine ⟨by kernel_rfl, fun j t ht => ?_⟩
  rw [par4] at ht
  have hm := Array.mem_of_getElem? ht
  simp at hm
  rcases hm with rfl | rfl | rfl
  · exact (show PP.wantsStandIn 35 = false by kernel_rfl)
  · exact (show PP.wantsStandIn 9 = false by kernel_rfl)
  · exact (show PP.wantsStandIn 36 = false by kernel_rfl)
theorem card : Rows.FnExactPrimCardSaid :=
  Claim7.holds_tied_plain_at .later [] _ _ _ _ said (fun _ h => by cases h) (by kernel_rfl) (fun _ h => by cases h) fnExactPrim_row_tie rfl ⟨rfl, rfl⟩ (by kernel_rfl) rfl plain4 (by kernel_rfl)
end Go.Own
namespace Go.Proofs.YtfanjfmgacfpjaaGreatDoor
theorem fnExactPrim_holds : Rows.FnExactPrimCardSaid := Go.Own.card
end Go.Proofs.YtfanjfmgacfpjaaGreatDoor
