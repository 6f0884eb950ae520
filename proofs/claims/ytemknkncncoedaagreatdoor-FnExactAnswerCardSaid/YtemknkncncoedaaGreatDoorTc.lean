import Derived.Test.YtemknkncncoedaaGreatDoorTb
import Derived.Test.YtemknkncncoedaaGreatDoorProg
import Derived.WalkKit
import Derived.Shelf.Small.Strs
import Derived.Shelf.Strconv.Atoi
import Derived.Shelf.Strconv.Itoa0
import Derived.Shelf.Strconv.Itoa1
import Derived.Shelf.LaysM
import Derived.Shelf.Strconv.Itoa2
import Derived.Shelf.Strconv.Itoa3
import Derived.Shelf.Strconv.AtoiErrFast
import Derived.Shelf.Strconv.ParseIntEmpty
import Derived.Shelf.Strconv.AtoiFail
import Derived.Shelf.Strconv.Clone
import Derived.Shelf.Strconv.SyntaxError
import Derived.Shelf.LaysC
import Derived.Shelf.Strconv.ToError
import Derived.Shelf.Strconv.Lower
import Derived.Shelf.Strconv.ParseUint10
import Derived.Shelf.Strconv.ParseUint10Empty
import Derived.Shelf.Strconv.ParseUint10Any
import Derived.Shelf.Strconv.ParseInt10
import Derived.Shelf.Strconv.AtoiLong
import Derived.Shelf.Strconv.AtoiInnerAll
import Derived.Shelf.Strconv.RangeError
import Derived.Shelf.Strconv.ToErrorRange
import Derived.Shelf.Strconv.AtoiAll
import Derived.Shelf.Strings.Search1
import Derived.Shelf.Strings.Search2
import Derived.Shelf.Strings.Search3
import Derived.Shelf.Strings.Shaped
import Derived.Shelf.Strings.Prefix
import Derived.Ground.Names2Prog
import Derived.Shelf.Slices.Clone
import Derived.Ground.SlgnProg
import Derived.Shelf.SlicesE.Clone
import Derived.Lib.AppendIntMem
import Derived.Lib.IndexMore
import Derived.Lib.ItoaLen
import Derived.Lib.AtoiAll
import Derived.Lib.Bytealg
import Derived.Lib.IndexLaws
import Derived.Lib.AtoiAllCases
import Derived.Laws.BytesArg
import Derived.Lib.Strings
/- Lemmas for the proof in the last text of this claim. -/
set_option linter.unusedVariables false
set_option linter.unusedSimpArgs false
set_option linter.unusedSectionVars false
set_option maxRecDepth 1000000
namespace Go.Own
variable [Laid]
structure Bx (p : Prop) : Prop where
  o : p
structure Sch (id : Nat) (te l : List (Nat × List Nat)) : Prop where
  o : True
structure Outs (is : List Nat) : Prop where
  o : True
structure Nm (k : Nat) (l : List Nat) : Prop where
  o : True
theorem nm (k : Nat) (l : List Nat) : Nm k l := ⟨trivial⟩
structure OutO (ob : List (Nat × Root)) : Prop where
  o : True
theorem outO (ob : List (Nat × Root)) : OutO ob := ⟨trivial⟩
section
variable {P : Program} {tt : Nat → Option TI} {st : St} {ops : Array Oper} {l : List Oper} {ls : List (Nat × List Nat)} {Ψ : St → Prop} {Φ : Exit → St → Prop} {b : Bool} {kk d id nid i j t g e k r x : Nat} {rest : List Nat}
theorem WPL.detStH (z : Nm 1 [d, id, nid, i, j]) (hd : stHd d l = true) (h : ∀ K : St → Prop, (∀ s, WPL P ops l s Ψ → K s) → ∃ s, Own.detS st id nid [] i j = some s ∧ K s) : WPL P ops l st Ψ := WPL.detSt d id nid [] i j hd h
theorem WPS.detStH (z : Nm 1 [d, id, nid, i, j]) (hd : stHdS d ops ls = true) (hn : (nid - 500000) % 100000 = id ∧ 500000 ≤ nid ∧ nid < 900000) (h : ∀ K : St → Prop, (∀ s, WPS P ops ls s Ψ → K s) → ∃ s, Own.detS st id nid [] i j = some s ∧ K s) : WPS P ops ls st Ψ := WPS.detSt d id nid [] i j hd hn h
theorem WPL.detAtH (z : Nm 2 [d, id, nid, i, j]) (hd : dstOf l = some d) (h : ∀ K : St → Prop, (∀ s, WPL P ops l s Ψ → K s) → ∃ s, Own.detS st id nid [] i j = some s ∧ K s) : WPL P ops l st Ψ := WPL.detAt d id nid [] i j hd h
theorem WPS.detAtH (z : Nm 2 [d, id, nid, i, j]) (hd : dstS ops ls = some d) (hn : (nid - 500000) % 100000 = id ∧ 500000 ≤ nid ∧ nid < 900000) (h : ∀ K : St → Prop, (∀ s, WPS P ops ls s Ψ → K s) → ∃ s, Own.detS st id nid [] i j = some s ∧ K s) : WPS P ops ls st Ψ := WPS.detAt d id nid [] i j hd hn h
theorem WPL.focAtH (z : Nm 3 [d, id, nid, g, i, j]) (hd : dstOf l = some d) (h : ∀ u, ∀ K : St → Prop, (∀ s, WPL P ops l s Ψ → K s) → ∃ s, Own.detG st id nid g [] i j u = some s ∧ K s) : WPL P ops l st Ψ := WPL.focAt d id nid g [] i j hd h
theorem WPL.attAtH (z : Nm 4 [x, id, nid, g, i, j]) {G0 : Nat → Value} {u : Value} (hd : dstOf l = some x) (hG : st.G = updG G0 g u) (h : ∀ K : St → Prop, (∀ s, WPL P ops l s Ψ → K s) → ∃ r : Value × St, Own.attS st id nid g [] i j G0 = some r ∧ r.1 = u ∧ K r.2) : WPL P ops l st Ψ := WPL.attAt (some x) id nid g [] i j hd hG h
theorem WPL.attEndH (z : Nm 5 [id, nid, g, i, j]) {G0 : Nat → Value} {u : Value} (hd : dstOf l = none) (hG : st.G = updG G0 g u) (h : ∀ K : St → Prop, (∀ s, WPL P ops l s Ψ → K s) → ∃ r : Value × St, Own.attS st id nid g [] i j G0 = some r ∧ r.1 = u ∧ K r.2) : WPL P ops l st Ψ := WPL.attAt none id nid g [] i j hd hG h
theorem WPc.renRH (z : Nm 6 [id, nid]) (h : ∀ K : St → Prop, (∀ s, WPc P .ret s Φ → K s) → ∃ s, Own.renS st id nid = some s ∧ K s) : WPc P .ret st Φ := WPc.renR id nid h
theorem WPc.detRH (z : Nm 7 [id, nid, i, j]) (h : ∀ K : St → Prop, (∀ s, WPc P .ret s Φ → K s) → ∃ s, Own.detS st id nid [] i j = some s ∧ K s) : WPc P .ret st Φ := WPc.detR id nid [] i j h
theorem WPc.renRgH (z : Nm 8 [r, id, nid]) (h : ∀ K : St → Prop, (∀ s, WPc P (.region r ops b) s Φ → K s) → ∃ s, Own.renS st id nid = some s ∧ K s) : WPc P (.region r ops b) st Φ := WPc.renRg id nid h
theorem WPc.dropRH (z : Nm 9 []) {g : Nat} {G0 : Nat → Value} {u : Value} (hG : st.G = updG G0 g u) (h : WPc P .ret { st with G := G0, tm := (g, .un) :: st.tm } Φ) : WPc P .ret st Φ := WPc.dropR hG h
theorem WPc.dropRgH (z : Nm 10 [r]) {g : Nat} {G0 : Nat → Value} {u : Value} (hG : st.G = updG G0 g u) (h : WPc P (.region r ops b) { st with G := G0, tm := (g, .un) :: st.tm } Φ) : WPc P (.region r ops b) st Φ := WPc.dropRg hG h
theorem WPc.openRg (z : Nm 11 [r]) (h : WPL P ops ops.toList st (Φ .normal)) : WPc P (.region r ops false) st Φ := WPc.region h
theorem WPL.unAtH (z : Nm 12 [d, t, g, i]) (hd : dstOf l = some d) (h : ∀ K : St → Prop, (∀ s, WPL P ops l s Ψ → K s) → ∃ r : Value × St, Own.unS st t g i = some r ∧ st.G g = r.1 ∧ K r.2) : WPL P ops l st Ψ := WPL.unAt d t g i hd h
theorem WPS.unAtH (z : Nm 12 [d, t, g, i]) (hd : dstS ops ls = some d) (h : ∀ K : St → Prop, (∀ s, WPS P ops ls s Ψ → K s) → ∃ r : Value × St, Own.unS st t g i = some r ∧ st.G g = r.1 ∧ K r.2) : WPS P ops ls st Ψ := WPS.unAt d t g i hd h
theorem WPL.adAtH (z : Nm 13 [d, t, i, nid, e, k]) (hd : dstOf l = some d) (h : ∀ K : St → Prop, (∀ s, WPL P ops l s Ψ → K s) → ∃ s, Own.adoptC st t i nid e k = some s ∧ K s) : WPL P ops l st Ψ := WPL.adAt d t i nid e k hd h
theorem WPS.adAtH (z : Nm 13 [d, t, i, nid, e, k]) (hd : dstS ops ls = some d) (h : ∀ K : St → Prop, (∀ s, WPS P ops ls s Ψ → K s) → ∃ s, Own.adoptC st t i nid e k = some s ∧ K s) : WPS P ops ls st Ψ := WPS.adAt d t i nid e k hd h
theorem WPL.utAtH (z : Nm 14 [d, t, g]) (hd : dstOf l = some d) (h : ∀ K : St → Prop, (∀ s, WPL P ops l s Ψ → K s) → ∃ r : Value × St, Own.unT st t g = some r ∧ st.G g = r.1 ∧ K r.2) : WPL P ops l st Ψ := WPL.utAt d t g hd h
theorem WPS.utAtH (z : Nm 14 [d, t, g]) (hd : dstS ops ls = some d) (h : ∀ K : St → Prop, (∀ s, WPS P ops ls s Ψ → K s) → ∃ r : Value × St, Own.unT st t g = some r ∧ st.G g = r.1 ∧ K r.2) : WPS P ops ls st Ψ := WPS.utAt d t g hd h
theorem WPL.rnToH (tok : TOk P tt) (z : Nm kk (d :: rest)) (m : Nat) (hm : upTo d l 0 = m + 1) (h : ∀ K : St → Prop, (∀ s, WPL P ops (l.drop (m + 1)) s Ψ → K s) → ∃ s, runL tt ops (l.take (m + 1)) st = some s ∧ K s) : WPL P ops l st Ψ := WPL.rnTo tok d m hm h
theorem WPL.rnToStH (tok : TOk P tt) (z : Nm 1 (d :: rest)) (m : Nat) (hm : upToSt d l 0 = m + 1) (h : ∀ K : St → Prop, (∀ s, WPL P ops (l.drop (m + 1)) s Ψ → K s) → ∃ s, runL tt ops (l.take (m + 1)) st = some s ∧ K s) : WPL P ops l st Ψ := WPL.rnToSt tok d m hm h
theorem WPS.rnToH (tok : TOk P tt) (z : Nm kk (d :: rest)) (m : Nat) (hm : upToS ops d ls 0 = m + 1) (h : ∀ K : St → Prop, (∀ s, WPS P ops (ls.drop (m + 1)) s Ψ → K s) → ∃ s, runS tt ops (ls.take (m + 1)) st = some s ∧ K s) : WPS P ops ls st Ψ := WPS.rnTo tok d m hm h
theorem endP.ownH {nt : Nat} {rs : List ResultVar} {G : Nat → Value} {ins : List AV} {keep : List Nat} {Φ : AV → List (Nat × Root) → Prop} {e : Exit} {s : St} {r : AV} {ob' : List (Nat × Root)} (z : OutO ob') (he : e = .normal ∨ e = .ret) (hs : s.nt = nt) (hg : s.G = G)
    (h : resA tt s rs = some r) (hO : FitO s ob') (hΦ : Φ r ob') (hk : ∀ i, i ∈ keep → ∀ v, ins[i]? = some v → lk s.tm (nt + i) = v) : endP tt nt rs G ins keep Φ e s := endP.own ob' he hs hg h hO hΦ hk
end
theorem sch (id : Nat) (te l : List (Nat × List Nat)) : Sch id te l := ⟨trivial⟩
theorem outs (is : List Nat) : Outs is := ⟨trivial⟩
theorem WPc.schedH {P : Program} {tt : Nat → Option TI} {st : St} (tok : TOk P tt) {id : Nat} {ops : Array Oper} {Φ : Exit → St → Prop} {te l : List (Nat × List Nat)} (z : Sch id te l) (hn : (Region.noSelect ops && schedF te ops (Array.replicate ops.size false) l && (l.length == ops.size)) = true)
    (h : WPS P ops l st (Φ .normal)) : WPc P (.region id ops true) st Φ := WPc.sched tok te l hn h
theorem endP.selH {tt : Nat → Option TI} {nt : Nat} {rs : List ResultVar} {G : Nat → Value} {ins : List AV} {keep : List Nat} {Φ : AV → List (Nat × Root) → Prop} {e : Exit} {s : St} {r : AV} {ob' : List (Nat × Root)} {is : List Nat} (z : Outs is) (he : e = .normal ∨ e = .ret) (hs : s.nt = nt) (hg : s.G = G)
    (h : resA tt s rs = some r) (hO : selO s.ob is = some ob') (hΦ : Φ r ob') (hk : ∀ i, i ∈ keep → ∀ v, ins[i]? = some v → lk s.tm (nt + i) = v) : endP tt nt rs G ins keep Φ e s := endP.sel is he hs hg h hO hΦ hk
section
variable {P : Program} {st : St} {ops : Array Oper} {l : List Oper} {ls : List (Nat × List Nat)} {k f d : Nat} {T : List Nat} {ins ins0 : List AV} {args : Array Operand} {tys : Array TypeId} {ty : TypeId} {pos : String} {af : Array Edge} {g : Option (Nat × Bool)} {lent : List Nat} {Ψ : St → Prop}
theorem WPL.isCall (h : WPL P ops ({ dst := some d, op := .call { callee := .value (.func f), args := args, argTypes := tys }, type := ty, pos := pos, after := af, guard := g } :: l) st Ψ) : WPL P ops ({ dst := some d, op := .call { callee := .value (.func f), args := args, argTypes := tys }, type := ty, pos := pos, after := af, guard := g } :: l) st Ψ := h
theorem WPS.isCall (ho : ops[k]? = some { dst := some d, op := .call { callee := .value (.func f), args := args, argTypes := tys }, type := ty, pos := pos, after := af, guard := g }) (h : WPS P ops ((k, T) :: ls) st Ψ) : WPS P ops ((k, T) :: ls) st Ψ := h
theorem WPL.cLH {H : Prop} {res : AV} (hc : H → Con P f ins [] [] (fun r _ => r = res))
    (q : (wantA ops st { dst := some d, op := .call { callee := .value (.func f), args := args, argTypes := tys }, type := ty, pos := pos, after := af, guard := g } = some true ∧ d < st.nt ∧ lentOf st args.toList = lent ∧ below lent = true ∧ insA st [] lent args.toList = some ins0 ∧ Eqv ins0 ins) ∧ (lent = [] ∨ nzT res = true)) (hh : H) (hk : WPL P ops l (putSt st (some d) (rnT [] res)) Ψ) :
    WPL P ops ({ dst := some d, op := .call { callee := .value (.func f), args := args, argTypes := tys }, type := ty, pos := pos, after := af, guard := g } :: l) st Ψ := WPL.cL (hc hh) q hk
theorem WPL.cUH {H : Prop} {ob ob0 : List (Nat × Root)} {keep : List Nat} {ren nw : List (Nat × Nat)} {kP kS : List Nat} {R : AV} {O : List (Nat × Root)} {s : St} (hc : H → Con P f ins ob keep (fun r o => r = R ∧ o = O))
    (q : (wantA ops st { dst := some d, op := .call { callee := .value (.func f), args := args, argTypes := tys }, type := ty, pos := pos, after := af, guard := g } = some true ∧ d < st.nt ∧ lentAt st ins args.toList = lent ∧ renAt st lent args.toList = ren ∧ insA st ren lent args.toList = some ins0 ∧ Eqv ins0 ins ∧ obIn st ren = ob0 ∧ Eqv ob0 ob) ∧ (nwAt d ren 0 (keys O) = nw ∧ callOk ren lent nw = true ∧ kpOf ren nw (partsAt st keep args.toList) = kP ∧ ksOf ren nw (partsAt st keep args.toList) = kS ∧ cleanOut lent R O = true ∧ putSt (callSt st ren nw kP kS O) (some d) (rnT nw R) = s))
    (hh : H) (hk : WPL P ops l s Ψ) : WPL P ops ({ dst := some d, op := .call { callee := .value (.func f), args := args, argTypes := tys }, type := ty, pos := pos, after := af, guard := g } :: l) st Ψ := WPL.cU (hc hh) q hk
theorem WPL.cRH {H : Prop} {ob ob0 : List (Nat × Root)} {keep : List Nat} {ren nw : List (Nat × Nat)} {kP kS : List Nat} {σ : Type} {I : σ → Prop} {R : σ → AV} {O : σ → List (Nat × Root)} (hc : H → Con P f ins ob keep (fun r o => ∃ y, I y ∧ r = R y ∧ o = O y))
    (q : (wantA ops st { dst := some d, op := .call { callee := .value (.func f), args := args, argTypes := tys }, type := ty, pos := pos, after := af, guard := g } = some true ∧ d < st.nt ∧ lentAt st ins args.toList = lent ∧ renAt st lent args.toList = ren ∧ insA st ren lent args.toList = some ins0 ∧ Eqv ins0 ins ∧ obIn st ren = ob0 ∧ Eqv ob0 ob) ∧ ((∀ y, nwAt d ren 0 (keys (O y)) = nw) ∧ callOk ren lent nw = true ∧ kpOf ren nw (partsAt st keep args.toList) = kP ∧ ksOf ren nw (partsAt st keep args.toList) = kS ∧ ∀ y, I y → cleanOut lent (R y) (O y) = true))
    (hh : H) (hk : ∀ y, I y → ∀ s, putSt (callSt st ren nw kP kS (O y)) (some d) (rnT nw (R y)) = s → WPL P ops l s Ψ) :
    WPL P ops ({ dst := some d, op := .call { callee := .value (.func f), args := args, argTypes := tys }, type := ty, pos := pos, after := af, guard := g } :: l) st Ψ := WPL.cR (hc hh) q hk
theorem WPS.cLH {H : Prop} {res : AV} (ho : ops[k]? = some { dst := some d, op := .call { callee := .value (.func f), args := args, argTypes := tys }, type := ty, pos := pos, after := af, guard := g })
    (hc : H → Con P f ins [] [] (fun r _ => r = res))
    (q : (wantA ops st { dst := some d, op := .call { callee := .value (.func f), args := args, argTypes := tys }, type := ty, pos := pos, after := af, guard := g } = some true ∧ d < st.nt ∧ lentOf st args.toList = lent ∧ below lent = true ∧ insA st [] lent args.toList = some ins0 ∧ Eqv ins0 ins) ∧ (lent = [] ∨ nzT res = true)) (hh : H) (hk : WPS P ops ls (putSt st (some d) (rnT [] res)) Ψ) : WPS P ops ((k, T) :: ls) st Ψ := WPS.cL ho (hc hh) q hk
theorem WPS.cUH {H : Prop} {ob ob0 : List (Nat × Root)} {keep : List Nat} {ren nw : List (Nat × Nat)} {kP kS : List Nat} {R : AV} {O : List (Nat × Root)} {s : St} (ho : ops[k]? = some { dst := some d, op := .call { callee := .value (.func f), args := args, argTypes := tys }, type := ty, pos := pos, after := af, guard := g })
    (hc : H → Con P f ins ob keep (fun r o => r = R ∧ o = O))
    (q : (wantA ops st { dst := some d, op := .call { callee := .value (.func f), args := args, argTypes := tys }, type := ty, pos := pos, after := af, guard := g } = some true ∧ d < st.nt ∧ lentAt st ins args.toList = lent ∧ renAt st lent args.toList = ren ∧ insA st ren lent args.toList = some ins0 ∧ Eqv ins0 ins ∧ obIn st ren = ob0 ∧ Eqv ob0 ob) ∧ (nwAt d ren 0 (keys O) = nw ∧ callOk ren lent nw = true ∧ kpOf ren nw (partsAt st keep args.toList) = kP ∧ ksOf ren nw (partsAt st keep args.toList) = kS ∧ cleanOut lent R O = true ∧ subB (ren.map (·.1) ++ nw.map (·.2)) T = true ∧ putSt (callSt st ren nw kP kS O) (some d) (rnT nw R) = s))
    (hh : H) (hk : WPS P ops ls s Ψ) : WPS P ops ((k, T) :: ls) st Ψ := WPS.cU ho (hc hh) q hk
theorem WPS.cRH {H : Prop} {ob ob0 : List (Nat × Root)} {keep : List Nat} {ren nw : List (Nat × Nat)} {kP kS : List Nat} {σ : Type} {I : σ → Prop} {R : σ → AV} {O : σ → List (Nat × Root)} (ho : ops[k]? = some { dst := some d, op := .call { callee := .value (.func f), args := args, argTypes := tys }, type := ty, pos := pos, after := af, guard := g })
    (hc : H → Con P f ins ob keep (fun r o => ∃ y, I y ∧ r = R y ∧ o = O y))
    (q : (wantA ops st { dst := some d, op := .call { callee := .value (.func f), args := args, argTypes := tys }, type := ty, pos := pos, after := af, guard := g } = some true ∧ d < st.nt ∧ lentAt st ins args.toList = lent ∧ renAt st lent args.toList = ren ∧ insA st ren lent args.toList = some ins0 ∧ Eqv ins0 ins ∧ obIn st ren = ob0 ∧ Eqv ob0 ob) ∧ ((∀ y, nwAt d ren 0 (keys (O y)) = nw) ∧ callOk ren lent nw = true ∧ kpOf ren nw (partsAt st keep args.toList) = kP ∧ ksOf ren nw (partsAt st keep args.toList) = kS ∧ (∀ y, I y → cleanOut lent (R y) (O y) = true) ∧ subB (ren.map (·.1) ++ nw.map (·.2)) T = true))
    (hh : H) (hk : ∀ y, I y → ∀ s, putSt (callSt st ren nw kP kS (O y)) (some d) (rnT nw (R y)) = s → WPS P ops ls s Ψ) : WPS P ops ((k, T) :: ls) st Ψ := WPS.cR ho (hc hh) q hk
end
theorem wa1 {A0 : Prop} (x0 : A0) : A0 := x0
theorem wa2 {A0 A1 : Prop} (x0 : A0) (x1 : A1) : A0 ∧ A1 := ⟨x0, x1⟩
theorem wa3 {A0 A1 A2 : Prop} (x0 : A0) (x1 : A1) (x2 : A2) : A0 ∧ A1 ∧ A2 := ⟨x0, x1, x2⟩
theorem wa4 {A0 A1 A2 A3 : Prop} (x0 : A0) (x1 : A1) (x2 : A2) (x3 : A3) : A0 ∧ A1 ∧ A2 ∧ A3 := ⟨x0, x1, x2, x3⟩
theorem wa5 {A0 A1 A2 A3 A4 : Prop} (x0 : A0) (x1 : A1) (x2 : A2) (x3 : A3) (x4 : A4) : A0 ∧ A1 ∧ A2 ∧ A3 ∧ A4 := ⟨x0, x1, x2, x3, x4⟩
theorem wa6 {A0 A1 A2 A3 A4 A5 : Prop} (x0 : A0) (x1 : A1) (x2 : A2) (x3 : A3) (x4 : A4) (x5 : A5) : A0 ∧ A1 ∧ A2 ∧ A3 ∧ A4 ∧ A5 := ⟨x0, x1, x2, x3, x4, x5⟩
theorem wa7 {A0 A1 A2 A3 A4 A5 A6 : Prop} (x0 : A0) (x1 : A1) (x2 : A2) (x3 : A3) (x4 : A4) (x5 : A5) (x6 : A6) : A0 ∧ A1 ∧ A2 ∧ A3 ∧ A4 ∧ A5 ∧ A6 := ⟨x0, x1, x2, x3, x4, x5, x6⟩
theorem wa8 {A0 A1 A2 A3 A4 A5 A6 A7 : Prop} (x0 : A0) (x1 : A1) (x2 : A2) (x3 : A3) (x4 : A4) (x5 : A5) (x6 : A6) (x7 : A7) : A0 ∧ A1 ∧ A2 ∧ A3 ∧ A4 ∧ A5 ∧ A6 ∧ A7 := ⟨x0, x1, x2, x3, x4, x5, x6, x7⟩
theorem wa9 {A0 A1 A2 A3 A4 A5 A6 A7 A8 : Prop} (x0 : A0) (x1 : A1) (x2 : A2) (x3 : A3) (x4 : A4) (x5 : A5) (x6 : A6) (x7 : A7) (x8 : A8) : A0 ∧ A1 ∧ A2 ∧ A3 ∧ A4 ∧ A5 ∧ A6 ∧ A7 ∧ A8 := ⟨x0, x1, x2, x3, x4, x5, x6, x7, x8⟩
theorem wa11 {A0 A1 A2 A3 A4 A5 A6 A7 A8 A9 A10 : Prop} (x0 : A0) (x1 : A1) (x2 : A2) (x3 : A3) (x4 : A4) (x5 : A5) (x6 : A6) (x7 : A7) (x8 : A8) (x9 : A9) (x10 : A10) : A0 ∧ A1 ∧ A2 ∧ A3 ∧ A4 ∧ A5 ∧ A6 ∧ A7 ∧ A8 ∧ A9 ∧ A10 := ⟨x0, x1, x2, x3, x4, x5, x6, x7, x8, x9, x10⟩
theorem wa12 {A0 A1 A2 A3 A4 A5 A6 A7 A8 A9 A10 A11 : Prop} (x0 : A0) (x1 : A1) (x2 : A2) (x3 : A3) (x4 : A4) (x5 : A5) (x6 : A6) (x7 : A7) (x8 : A8) (x9 : A9) (x10 : A10) (x11 : A11) : A0 ∧ A1 ∧ A2 ∧ A3 ∧ A4 ∧ A5 ∧ A6 ∧ A7 ∧ A8 ∧ A9 ∧ A10 ∧ A11 := ⟨x0, x1, x2, x3, x4, x5, x6, x7, x8, x9, x10, x11⟩
theorem wa15 {A0 A1 A2 A3 A4 A5 A6 A7 A8 A9 A10 A11 A12 A13 A14 : Prop} (x0 : A0) (x1 : A1) (x2 : A2) (x3 : A3) (x4 : A4) (x5 : A5) (x6 : A6) (x7 : A7) (x8 : A8) (x9 : A9) (x10 : A10) (x11 : A11) (x12 : A12) (x13 : A13) (x14 : A14) : A0 ∧ A1 ∧ A2 ∧ A3 ∧ A4 ∧ A5 ∧ A6 ∧ A7 ∧ A8 ∧ A9 ∧ A10 ∧ A11 ∧ A12 ∧ A13 ∧ A14 := ⟨x0, x1, x2, x3, x4, x5, x6, x7, x8, x9, x10, x11, x12, x13, x14⟩
theorem wb0  : True := trivial
theorem wb1 {A0 : Prop} (x0 : A0) : A0 ∧ True := ⟨x0, trivial⟩
theorem wb2 {A0 A1 : Prop} (x0 : A0) (x1 : A1) : A0 ∧ A1 ∧ True := ⟨x0, x1, trivial⟩
theorem wb3 {A0 A1 A2 : Prop} (x0 : A0) (x1 : A1) (x2 : A2) : A0 ∧ A1 ∧ A2 ∧ True := ⟨x0, x1, x2, trivial⟩
theorem wb4 {A0 A1 A2 A3 : Prop} (x0 : A0) (x1 : A1) (x2 : A2) (x3 : A3) : A0 ∧ A1 ∧ A2 ∧ A3 ∧ True := ⟨x0, x1, x2, x3, trivial⟩
theorem wb5 {A0 A1 A2 A3 A4 : Prop} (x0 : A0) (x1 : A1) (x2 : A2) (x3 : A3) (x4 : A4) : A0 ∧ A1 ∧ A2 ∧ A3 ∧ A4 ∧ True := ⟨x0, x1, x2, x3, x4, trivial⟩
theorem gox {p W UL UU UR Z L : Prop} (w : W) (uL : UL) (uU : UU) (uR : UR) (z : Z) (n : L) (h : Bx W → Bx UL → Bx UU → Bx UR → Bx Z → Bx L → p := by
  intro w_ uL_ uU_ uR_ z_ n_
  repeat' (first
    | ((first | (refine WPL.detStH z_.o.2.1 ?_ ?_; (focus (simp; done)); refine fun K hK => ?_) | (refine WPS.detStH z_.o.2.1 ?_ (by decide) ?_; (focus (simp; done)); refine fun K hK => ?_) | (refine WPL.detAtH z_.o.2.1 ?_ ?_; (focus (simp; done)); refine fun K hK => ?_) | (refine WPS.detAtH z_.o.2.1 ?_ (by decide) ?_; (focus (simp; done)); refine fun K hK => ?_) | (refine WPL.focAtH z_.o.2.1 ?_ ?_; (focus (simp; done)); refine fun u_ K hK => ?_) | (refine WPL.attAtH z_.o.2.1 ?_ rfl ?_; (focus (simp; done)); refine fun K hK => ?_) | (refine WPL.attEndH z_.o.2.1 ?_ rfl ?_; (focus (simp; done)); refine fun K hK => ?_) | (refine WPc.renRH z_.o.2.1 fun K hK => ?_) | (refine WPc.detRH z_.o.2.1 fun K hK => ?_) | (refine WPc.renRgH z_.o.2.1 fun K hK => ?_) | (refine WPL.unAtH z_.o.2.1 ?_ ?_; (focus (simp; done)); refine fun K hK => ?_) | (refine WPS.unAtH z_.o.2.1 ?_ ?_; (focus (simp; done)); refine fun K hK => ?_) | (refine WPL.adAtH z_.o.2.1 ?_ ?_; (focus (simp; done)); refine fun K hK => ?_) | (refine WPS.adAtH z_.o.2.1 ?_ ?_; (focus (simp; done)); refine fun K hK => ?_) | (refine WPL.utAtH z_.o.2.1 ?_ ?_; (focus (simp; done)); refine fun K hK => ?_) | (refine WPS.utAtH z_.o.2.1 ?_ ?_; (focus (simp; done)); refine fun K hK => ?_)); simp -implicitDefEqProofs +contextual [-Int.not_le, -Int.not_lt, -Nat.not_le, -Nat.not_lt, -List.all_eq_true, -List.all_eq_false, -List.any_eq_true, -List.any_eq_false, w_.o]; (repeat1' (first | refine hK _ ?_ | refine And.intro ?_ ?_ | intro ha_)) <;> clear hK K)
    | (refine WPc.openRg z_.o.2.1 ?_; simp only [List.toList_toArray])
    | (refine WPc.dropRgH z_.o.2.1 rfl ?_; dsimp only)
    | (refine WPc.dropRH z_.o.2.1 rfl ?_; dsimp only)
    | ((first | refine WPL.rnToStH tok z_.o.2.1 _ (by simp [isFn]; rfl) fun K hK => ?_ | refine WPL.rnToH tok z_.o.2.1 _ (by simp [isFn]; rfl) fun K hK => ?_ | refine WPS.rnToH tok z_.o.2.1 _ (by simp; rfl) fun K hK => ?_); simp -implicitDefEqProofs +contextual [-Int.not_le, -Int.not_lt, -Nat.not_le, -Nat.not_lt, -List.all_eq_true, -List.all_eq_false, -List.any_eq_true, -List.any_eq_false, w_.o]; (repeat1' (first | refine hK _ ?_ | refine And.intro ?_ ?_ | intro ha_)) <;> clear hK K <;> (try dsimp only [List.drop]))
    | ((first | (refine WPL.detStH z_.o.2.2.1 ?_ ?_; (focus (simp; done)); refine fun K hK => ?_) | (refine WPS.detStH z_.o.2.2.1 ?_ (by decide) ?_; (focus (simp; done)); refine fun K hK => ?_) | (refine WPL.detAtH z_.o.2.2.1 ?_ ?_; (focus (simp; done)); refine fun K hK => ?_) | (refine WPS.detAtH z_.o.2.2.1 ?_ (by decide) ?_; (focus (simp; done)); refine fun K hK => ?_) | (refine WPL.focAtH z_.o.2.2.1 ?_ ?_; (focus (simp; done)); refine fun u_ K hK => ?_) | (refine WPL.attAtH z_.o.2.2.1 ?_ rfl ?_; (focus (simp; done)); refine fun K hK => ?_) | (refine WPL.attEndH z_.o.2.2.1 ?_ rfl ?_; (focus (simp; done)); refine fun K hK => ?_) | (refine WPc.renRH z_.o.2.2.1 fun K hK => ?_) | (refine WPc.detRH z_.o.2.2.1 fun K hK => ?_) | (refine WPc.renRgH z_.o.2.2.1 fun K hK => ?_) | (refine WPL.unAtH z_.o.2.2.1 ?_ ?_; (focus (simp; done)); refine fun K hK => ?_) | (refine WPS.unAtH z_.o.2.2.1 ?_ ?_; (focus (simp; done)); refine fun K hK => ?_) | (refine WPL.adAtH z_.o.2.2.1 ?_ ?_; (focus (simp; done)); refine fun K hK => ?_) | (refine WPS.adAtH z_.o.2.2.1 ?_ ?_; (focus (simp; done)); refine fun K hK => ?_) | (refine WPL.utAtH z_.o.2.2.1 ?_ ?_; (focus (simp; done)); refine fun K hK => ?_) | (refine WPS.utAtH z_.o.2.2.1 ?_ ?_; (focus (simp; done)); refine fun K hK => ?_)); simp -implicitDefEqProofs +contextual [-Int.not_le, -Int.not_lt, -Nat.not_le, -Nat.not_lt, -List.all_eq_true, -List.all_eq_false, -List.any_eq_true, -List.any_eq_false, w_.o]; (repeat1' (first | refine hK _ ?_ | refine And.intro ?_ ?_ | intro ha_)) <;> clear hK K)
    | (refine WPc.openRg z_.o.2.2.1 ?_; simp only [List.toList_toArray])
    | (refine WPc.dropRgH z_.o.2.2.1 rfl ?_; dsimp only)
    | (refine WPc.dropRH z_.o.2.2.1 rfl ?_; dsimp only)
    | ((first | refine WPL.rnToStH tok z_.o.2.2.1 _ (by simp [isFn]; rfl) fun K hK => ?_ | refine WPL.rnToH tok z_.o.2.2.1 _ (by simp [isFn]; rfl) fun K hK => ?_ | refine WPS.rnToH tok z_.o.2.2.1 _ (by simp; rfl) fun K hK => ?_); simp -implicitDefEqProofs +contextual [-Int.not_le, -Int.not_lt, -Nat.not_le, -Nat.not_lt, -List.all_eq_true, -List.all_eq_false, -List.any_eq_true, -List.any_eq_false, w_.o]; (repeat1' (first | refine hK _ ?_ | refine And.intro ?_ ?_ | intro ha_)) <;> clear hK K <;> (try dsimp only [List.drop]))
    | ((first | (refine WPL.detStH z_.o.2.2.2.1 ?_ ?_; (focus (simp; done)); refine fun K hK => ?_) | (refine WPS.detStH z_.o.2.2.2.1 ?_ (by decide) ?_; (focus (simp; done)); refine fun K hK => ?_) | (refine WPL.detAtH z_.o.2.2.2.1 ?_ ?_; (focus (simp; done)); refine fun K hK => ?_) | (refine WPS.detAtH z_.o.2.2.2.1 ?_ (by decide) ?_; (focus (simp; done)); refine fun K hK => ?_) | (refine WPL.focAtH z_.o.2.2.2.1 ?_ ?_; (focus (simp; done)); refine fun u_ K hK => ?_) | (refine WPL.attAtH z_.o.2.2.2.1 ?_ rfl ?_; (focus (simp; done)); refine fun K hK => ?_) | (refine WPL.attEndH z_.o.2.2.2.1 ?_ rfl ?_; (focus (simp; done)); refine fun K hK => ?_) | (refine WPc.renRH z_.o.2.2.2.1 fun K hK => ?_) | (refine WPc.detRH z_.o.2.2.2.1 fun K hK => ?_) | (refine WPc.renRgH z_.o.2.2.2.1 fun K hK => ?_) | (refine WPL.unAtH z_.o.2.2.2.1 ?_ ?_; (focus (simp; done)); refine fun K hK => ?_) | (refine WPS.unAtH z_.o.2.2.2.1 ?_ ?_; (focus (simp; done)); refine fun K hK => ?_) | (refine WPL.adAtH z_.o.2.2.2.1 ?_ ?_; (focus (simp; done)); refine fun K hK => ?_) | (refine WPS.adAtH z_.o.2.2.2.1 ?_ ?_; (focus (simp; done)); refine fun K hK => ?_) | (refine WPL.utAtH z_.o.2.2.2.1 ?_ ?_; (focus (simp; done)); refine fun K hK => ?_) | (refine WPS.utAtH z_.o.2.2.2.1 ?_ ?_; (focus (simp; done)); refine fun K hK => ?_)); simp -implicitDefEqProofs +contextual [-Int.not_le, -Int.not_lt, -Nat.not_le, -Nat.not_lt, -List.all_eq_true, -List.all_eq_false, -List.any_eq_true, -List.any_eq_false, w_.o]; (repeat1' (first | refine hK _ ?_ | refine And.intro ?_ ?_ | intro ha_)) <;> clear hK K)
    | (refine WPc.openRg z_.o.2.2.2.1 ?_; simp only [List.toList_toArray])
    | (refine WPc.dropRgH z_.o.2.2.2.1 rfl ?_; dsimp only)
    | (refine WPc.dropRH z_.o.2.2.2.1 rfl ?_; dsimp only)
    | ((first | refine WPL.rnToStH tok z_.o.2.2.2.1 _ (by simp [isFn]; rfl) fun K hK => ?_ | refine WPL.rnToH tok z_.o.2.2.2.1 _ (by simp [isFn]; rfl) fun K hK => ?_ | refine WPS.rnToH tok z_.o.2.2.2.1 _ (by simp; rfl) fun K hK => ?_); simp -implicitDefEqProofs +contextual [-Int.not_le, -Int.not_lt, -Nat.not_le, -Nat.not_lt, -List.all_eq_true, -List.all_eq_false, -List.any_eq_true, -List.any_eq_false, w_.o]; (repeat1' (first | refine hK _ ?_ | refine And.intro ?_ ?_ | intro ha_)) <;> clear hK K <;> (try dsimp only [List.drop]))
    | ((first | (refine WPL.detStH z_.o.2.2.2.2.1 ?_ ?_; (focus (simp; done)); refine fun K hK => ?_) | (refine WPS.detStH z_.o.2.2.2.2.1 ?_ (by decide) ?_; (focus (simp; done)); refine fun K hK => ?_) | (refine WPL.detAtH z_.o.2.2.2.2.1 ?_ ?_; (focus (simp; done)); refine fun K hK => ?_) | (refine WPS.detAtH z_.o.2.2.2.2.1 ?_ (by decide) ?_; (focus (simp; done)); refine fun K hK => ?_) | (refine WPL.focAtH z_.o.2.2.2.2.1 ?_ ?_; (focus (simp; done)); refine fun u_ K hK => ?_) | (refine WPL.attAtH z_.o.2.2.2.2.1 ?_ rfl ?_; (focus (simp; done)); refine fun K hK => ?_) | (refine WPL.attEndH z_.o.2.2.2.2.1 ?_ rfl ?_; (focus (simp; done)); refine fun K hK => ?_) | (refine WPc.renRH z_.o.2.2.2.2.1 fun K hK => ?_) | (refine WPc.detRH z_.o.2.2.2.2.1 fun K hK => ?_) | (refine WPc.renRgH z_.o.2.2.2.2.1 fun K hK => ?_) | (refine WPL.unAtH z_.o.2.2.2.2.1 ?_ ?_; (focus (simp; done)); refine fun K hK => ?_) | (refine WPS.unAtH z_.o.2.2.2.2.1 ?_ ?_; (focus (simp; done)); refine fun K hK => ?_) | (refine WPL.adAtH z_.o.2.2.2.2.1 ?_ ?_; (focus (simp; done)); refine fun K hK => ?_) | (refine WPS.adAtH z_.o.2.2.2.2.1 ?_ ?_; (focus (simp; done)); refine fun K hK => ?_) | (refine WPL.utAtH z_.o.2.2.2.2.1 ?_ ?_; (focus (simp; done)); refine fun K hK => ?_) | (refine WPS.utAtH z_.o.2.2.2.2.1 ?_ ?_; (focus (simp; done)); refine fun K hK => ?_)); simp -implicitDefEqProofs +contextual [-Int.not_le, -Int.not_lt, -Nat.not_le, -Nat.not_lt, -List.all_eq_true, -List.all_eq_false, -List.any_eq_true, -List.any_eq_false, w_.o]; (repeat1' (first | refine hK _ ?_ | refine And.intro ?_ ?_ | intro ha_)) <;> clear hK K)
    | (refine WPc.openRg z_.o.2.2.2.2.1 ?_; simp only [List.toList_toArray])
    | (refine WPc.dropRgH z_.o.2.2.2.2.1 rfl ?_; dsimp only)
    | (refine WPc.dropRH z_.o.2.2.2.2.1 rfl ?_; dsimp only)
    | ((first | refine WPL.rnToStH tok z_.o.2.2.2.2.1 _ (by simp [isFn]; rfl) fun K hK => ?_ | refine WPL.rnToH tok z_.o.2.2.2.2.1 _ (by simp [isFn]; rfl) fun K hK => ?_ | refine WPS.rnToH tok z_.o.2.2.2.2.1 _ (by simp; rfl) fun K hK => ?_); simp -implicitDefEqProofs +contextual [-Int.not_le, -Int.not_lt, -Nat.not_le, -Nat.not_lt, -List.all_eq_true, -List.all_eq_false, -List.any_eq_true, -List.any_eq_false, w_.o]; (repeat1' (first | refine hK _ ?_ | refine And.intro ?_ ?_ | intro ha_)) <;> clear hK K <;> (try dsimp only [List.drop]))
    | ((first | (refine WPL.detStH z_.o.2.2.2.2.2.1 ?_ ?_; (focus (simp; done)); refine fun K hK => ?_) | (refine WPS.detStH z_.o.2.2.2.2.2.1 ?_ (by decide) ?_; (focus (simp; done)); refine fun K hK => ?_) | (refine WPL.detAtH z_.o.2.2.2.2.2.1 ?_ ?_; (focus (simp; done)); refine fun K hK => ?_) | (refine WPS.detAtH z_.o.2.2.2.2.2.1 ?_ (by decide) ?_; (focus (simp; done)); refine fun K hK => ?_) | (refine WPL.focAtH z_.o.2.2.2.2.2.1 ?_ ?_; (focus (simp; done)); refine fun u_ K hK => ?_) | (refine WPL.attAtH z_.o.2.2.2.2.2.1 ?_ rfl ?_; (focus (simp; done)); refine fun K hK => ?_) | (refine WPL.attEndH z_.o.2.2.2.2.2.1 ?_ rfl ?_; (focus (simp; done)); refine fun K hK => ?_) | (refine WPc.renRH z_.o.2.2.2.2.2.1 fun K hK => ?_) | (refine WPc.detRH z_.o.2.2.2.2.2.1 fun K hK => ?_) | (refine WPc.renRgH z_.o.2.2.2.2.2.1 fun K hK => ?_) | (refine WPL.unAtH z_.o.2.2.2.2.2.1 ?_ ?_; (focus (simp; done)); refine fun K hK => ?_) | (refine WPS.unAtH z_.o.2.2.2.2.2.1 ?_ ?_; (focus (simp; done)); refine fun K hK => ?_) | (refine WPL.adAtH z_.o.2.2.2.2.2.1 ?_ ?_; (focus (simp; done)); refine fun K hK => ?_) | (refine WPS.adAtH z_.o.2.2.2.2.2.1 ?_ ?_; (focus (simp; done)); refine fun K hK => ?_) | (refine WPL.utAtH z_.o.2.2.2.2.2.1 ?_ ?_; (focus (simp; done)); refine fun K hK => ?_) | (refine WPS.utAtH z_.o.2.2.2.2.2.1 ?_ ?_; (focus (simp; done)); refine fun K hK => ?_)); simp -implicitDefEqProofs +contextual [-Int.not_le, -Int.not_lt, -Nat.not_le, -Nat.not_lt, -List.all_eq_true, -List.all_eq_false, -List.any_eq_true, -List.any_eq_false, w_.o]; (repeat1' (first | refine hK _ ?_ | refine And.intro ?_ ?_ | intro ha_)) <;> clear hK K)
    | (refine WPc.openRg z_.o.2.2.2.2.2.1 ?_; simp only [List.toList_toArray])
    | (refine WPc.dropRgH z_.o.2.2.2.2.2.1 rfl ?_; dsimp only)
    | (refine WPc.dropRH z_.o.2.2.2.2.2.1 rfl ?_; dsimp only)
    | ((first | refine WPL.rnToStH tok z_.o.2.2.2.2.2.1 _ (by simp [isFn]; rfl) fun K hK => ?_ | refine WPL.rnToH tok z_.o.2.2.2.2.2.1 _ (by simp [isFn]; rfl) fun K hK => ?_ | refine WPS.rnToH tok z_.o.2.2.2.2.2.1 _ (by simp; rfl) fun K hK => ?_); simp -implicitDefEqProofs +contextual [-Int.not_le, -Int.not_lt, -Nat.not_le, -Nat.not_lt, -List.all_eq_true, -List.all_eq_false, -List.any_eq_true, -List.any_eq_false, w_.o]; (repeat1' (first | refine hK _ ?_ | refine And.intro ?_ ?_ | intro ha_)) <;> clear hK K <;> (try dsimp only [List.drop]))
    | ((first | (refine WPL.detStH z_.o.2.2.2.2.2.2.1 ?_ ?_; (focus (simp; done)); refine fun K hK => ?_) | (refine WPS.detStH z_.o.2.2.2.2.2.2.1 ?_ (by decide) ?_; (focus (simp; done)); refine fun K hK => ?_) | (refine WPL.detAtH z_.o.2.2.2.2.2.2.1 ?_ ?_; (focus (simp; done)); refine fun K hK => ?_) | (refine WPS.detAtH z_.o.2.2.2.2.2.2.1 ?_ (by decide) ?_; (focus (simp; done)); refine fun K hK => ?_) | (refine WPL.focAtH z_.o.2.2.2.2.2.2.1 ?_ ?_; (focus (simp; done)); refine fun u_ K hK => ?_) | (refine WPL.attAtH z_.o.2.2.2.2.2.2.1 ?_ rfl ?_; (focus (simp; done)); refine fun K hK => ?_) | (refine WPL.attEndH z_.o.2.2.2.2.2.2.1 ?_ rfl ?_; (focus (simp; done)); refine fun K hK => ?_) | (refine WPc.renRH z_.o.2.2.2.2.2.2.1 fun K hK => ?_) | (refine WPc.detRH z_.o.2.2.2.2.2.2.1 fun K hK => ?_) | (refine WPc.renRgH z_.o.2.2.2.2.2.2.1 fun K hK => ?_) | (refine WPL.unAtH z_.o.2.2.2.2.2.2.1 ?_ ?_; (focus (simp; done)); refine fun K hK => ?_) | (refine WPS.unAtH z_.o.2.2.2.2.2.2.1 ?_ ?_; (focus (simp; done)); refine fun K hK => ?_) | (refine WPL.adAtH z_.o.2.2.2.2.2.2.1 ?_ ?_; (focus (simp; done)); refine fun K hK => ?_) | (refine WPS.adAtH z_.o.2.2.2.2.2.2.1 ?_ ?_; (focus (simp; done)); refine fun K hK => ?_) | (refine WPL.utAtH z_.o.2.2.2.2.2.2.1 ?_ ?_; (focus (simp; done)); refine fun K hK => ?_) | (refine WPS.utAtH z_.o.2.2.2.2.2.2.1 ?_ ?_; (focus (simp; done)); refine fun K hK => ?_)); simp -implicitDefEqProofs +contextual [-Int.not_le, -Int.not_lt, -Nat.not_le, -Nat.not_lt, -List.all_eq_true, -List.all_eq_false, -List.any_eq_true, -List.any_eq_false, w_.o]; (repeat1' (first | refine hK _ ?_ | refine And.intro ?_ ?_ | intro ha_)) <;> clear hK K)
    | (refine WPc.openRg z_.o.2.2.2.2.2.2.1 ?_; simp only [List.toList_toArray])
    | (refine WPc.dropRgH z_.o.2.2.2.2.2.2.1 rfl ?_; dsimp only)
    | (refine WPc.dropRH z_.o.2.2.2.2.2.2.1 rfl ?_; dsimp only)
    | ((first | refine WPL.rnToStH tok z_.o.2.2.2.2.2.2.1 _ (by simp [isFn]; rfl) fun K hK => ?_ | refine WPL.rnToH tok z_.o.2.2.2.2.2.2.1 _ (by simp [isFn]; rfl) fun K hK => ?_ | refine WPS.rnToH tok z_.o.2.2.2.2.2.2.1 _ (by simp; rfl) fun K hK => ?_); simp -implicitDefEqProofs +contextual [-Int.not_le, -Int.not_lt, -Nat.not_le, -Nat.not_lt, -List.all_eq_true, -List.all_eq_false, -List.any_eq_true, -List.any_eq_false, w_.o]; (repeat1' (first | refine hK _ ?_ | refine And.intro ?_ ?_ | intro ha_)) <;> clear hK K <;> (try dsimp only [List.drop]))
    | ((first | (refine WPL.detStH z_.o.2.2.2.2.2.2.2.1 ?_ ?_; (focus (simp; done)); refine fun K hK => ?_) | (refine WPS.detStH z_.o.2.2.2.2.2.2.2.1 ?_ (by decide) ?_; (focus (simp; done)); refine fun K hK => ?_) | (refine WPL.detAtH z_.o.2.2.2.2.2.2.2.1 ?_ ?_; (focus (simp; done)); refine fun K hK => ?_) | (refine WPS.detAtH z_.o.2.2.2.2.2.2.2.1 ?_ (by decide) ?_; (focus (simp; done)); refine fun K hK => ?_) | (refine WPL.focAtH z_.o.2.2.2.2.2.2.2.1 ?_ ?_; (focus (simp; done)); refine fun u_ K hK => ?_) | (refine WPL.attAtH z_.o.2.2.2.2.2.2.2.1 ?_ rfl ?_; (focus (simp; done)); refine fun K hK => ?_) | (refine WPL.attEndH z_.o.2.2.2.2.2.2.2.1 ?_ rfl ?_; (focus (simp; done)); refine fun K hK => ?_) | (refine WPc.renRH z_.o.2.2.2.2.2.2.2.1 fun K hK => ?_) | (refine WPc.detRH z_.o.2.2.2.2.2.2.2.1 fun K hK => ?_) | (refine WPc.renRgH z_.o.2.2.2.2.2.2.2.1 fun K hK => ?_) | (refine WPL.unAtH z_.o.2.2.2.2.2.2.2.1 ?_ ?_; (focus (simp; done)); refine fun K hK => ?_) | (refine WPS.unAtH z_.o.2.2.2.2.2.2.2.1 ?_ ?_; (focus (simp; done)); refine fun K hK => ?_) | (refine WPL.adAtH z_.o.2.2.2.2.2.2.2.1 ?_ ?_; (focus (simp; done)); refine fun K hK => ?_) | (refine WPS.adAtH z_.o.2.2.2.2.2.2.2.1 ?_ ?_; (focus (simp; done)); refine fun K hK => ?_) | (refine WPL.utAtH z_.o.2.2.2.2.2.2.2.1 ?_ ?_; (focus (simp; done)); refine fun K hK => ?_) | (refine WPS.utAtH z_.o.2.2.2.2.2.2.2.1 ?_ ?_; (focus (simp; done)); refine fun K hK => ?_)); simp -implicitDefEqProofs +contextual [-Int.not_le, -Int.not_lt, -Nat.not_le, -Nat.not_lt, -List.all_eq_true, -List.all_eq_false, -List.any_eq_true, -List.any_eq_false, w_.o]; (repeat1' (first | refine hK _ ?_ | refine And.intro ?_ ?_ | intro ha_)) <;> clear hK K)
    | (refine WPc.openRg z_.o.2.2.2.2.2.2.2.1 ?_; simp only [List.toList_toArray])
    | (refine WPc.dropRgH z_.o.2.2.2.2.2.2.2.1 rfl ?_; dsimp only)
    | (refine WPc.dropRH z_.o.2.2.2.2.2.2.2.1 rfl ?_; dsimp only)
    | ((first | refine WPL.rnToStH tok z_.o.2.2.2.2.2.2.2.1 _ (by simp [isFn]; rfl) fun K hK => ?_ | refine WPL.rnToH tok z_.o.2.2.2.2.2.2.2.1 _ (by simp [isFn]; rfl) fun K hK => ?_ | refine WPS.rnToH tok z_.o.2.2.2.2.2.2.2.1 _ (by simp; rfl) fun K hK => ?_); simp -implicitDefEqProofs +contextual [-Int.not_le, -Int.not_lt, -Nat.not_le, -Nat.not_lt, -List.all_eq_true, -List.all_eq_false, -List.any_eq_true, -List.any_eq_false, w_.o]; (repeat1' (first | refine hK _ ?_ | refine And.intro ?_ ?_ | intro ha_)) <;> clear hK K <;> (try dsimp only [List.drop]))
    | ((first | (refine WPL.detStH z_.o.2.2.2.2.2.2.2.2.1 ?_ ?_; (focus (simp; done)); refine fun K hK => ?_) | (refine WPS.detStH z_.o.2.2.2.2.2.2.2.2.1 ?_ (by decide) ?_; (focus (simp; done)); refine fun K hK => ?_) | (refine WPL.detAtH z_.o.2.2.2.2.2.2.2.2.1 ?_ ?_; (focus (simp; done)); refine fun K hK => ?_) | (refine WPS.detAtH z_.o.2.2.2.2.2.2.2.2.1 ?_ (by decide) ?_; (focus (simp; done)); refine fun K hK => ?_) | (refine WPL.focAtH z_.o.2.2.2.2.2.2.2.2.1 ?_ ?_; (focus (simp; done)); refine fun u_ K hK => ?_) | (refine WPL.attAtH z_.o.2.2.2.2.2.2.2.2.1 ?_ rfl ?_; (focus (simp; done)); refine fun K hK => ?_) | (refine WPL.attEndH z_.o.2.2.2.2.2.2.2.2.1 ?_ rfl ?_; (focus (simp; done)); refine fun K hK => ?_) | (refine WPc.renRH z_.o.2.2.2.2.2.2.2.2.1 fun K hK => ?_) | (refine WPc.detRH z_.o.2.2.2.2.2.2.2.2.1 fun K hK => ?_) | (refine WPc.renRgH z_.o.2.2.2.2.2.2.2.2.1 fun K hK => ?_) | (refine WPL.unAtH z_.o.2.2.2.2.2.2.2.2.1 ?_ ?_; (focus (simp; done)); refine fun K hK => ?_) | (refine WPS.unAtH z_.o.2.2.2.2.2.2.2.2.1 ?_ ?_; (focus (simp; done)); refine fun K hK => ?_) | (refine WPL.adAtH z_.o.2.2.2.2.2.2.2.2.1 ?_ ?_; (focus (simp; done)); refine fun K hK => ?_) | (refine WPS.adAtH z_.o.2.2.2.2.2.2.2.2.1 ?_ ?_; (focus (simp; done)); refine fun K hK => ?_) | (refine WPL.utAtH z_.o.2.2.2.2.2.2.2.2.1 ?_ ?_; (focus (simp; done)); refine fun K hK => ?_) | (refine WPS.utAtH z_.o.2.2.2.2.2.2.2.2.1 ?_ ?_; (focus (simp; done)); refine fun K hK => ?_)); simp -implicitDefEqProofs +contextual [-Int.not_le, -Int.not_lt, -Nat.not_le, -Nat.not_lt, -List.all_eq_true, -List.all_eq_false, -List.any_eq_true, -List.any_eq_false, w_.o]; (repeat1' (first | refine hK _ ?_ | refine And.intro ?_ ?_ | intro ha_)) <;> clear hK K)
    | (refine WPc.openRg z_.o.2.2.2.2.2.2.2.2.1 ?_; simp only [List.toList_toArray])
    | (refine WPc.dropRgH z_.o.2.2.2.2.2.2.2.2.1 rfl ?_; dsimp only)
    | (refine WPc.dropRH z_.o.2.2.2.2.2.2.2.2.1 rfl ?_; dsimp only)
    | ((first | refine WPL.rnToStH tok z_.o.2.2.2.2.2.2.2.2.1 _ (by simp [isFn]; rfl) fun K hK => ?_ | refine WPL.rnToH tok z_.o.2.2.2.2.2.2.2.2.1 _ (by simp [isFn]; rfl) fun K hK => ?_ | refine WPS.rnToH tok z_.o.2.2.2.2.2.2.2.2.1 _ (by simp; rfl) fun K hK => ?_); simp -implicitDefEqProofs +contextual [-Int.not_le, -Int.not_lt, -Nat.not_le, -Nat.not_lt, -List.all_eq_true, -List.all_eq_false, -List.any_eq_true, -List.any_eq_false, w_.o]; (repeat1' (first | refine hK _ ?_ | refine And.intro ?_ ?_ | intro ha_)) <;> clear hK K <;> (try dsimp only [List.drop]))
    | (apply WPc.ret; apply (endP.selH z_.o.1 (.inr rfl)); (case hs => rfl); (case hg => rfl); (case h => (simp; rfl)); (case hO => (simp; rfl)); (case hk => (simp; done)))
    | (apply (endP.selH z_.o.1 (.inl rfl)); (case hs => rfl); (case hg => rfl); (case h => (simp; rfl)); (case hO => (simp; rfl)); (case hk => (simp; done)))
    | (refine WPc.ret (endP.ownH z_.o.1 (.inr rfl) rfl rfl (by simp; rfl) ?_ ?_ (by simp)))
    | apply WPc.sq
    | apply WPc.block
    | apply WPc.skip
    | apply WPc.exit
    | refine WPL.nil ?_
    | refine WPS.nil ?_
    | (apply WPc.ret; apply (endP.selH z_.o.1 (.inr rfl)); (case hs => rfl); (case hg => rfl); (case h => (simp; rfl)); (case hO => (simp; rfl)); (case hk => (simp; done)))
    | (refine WPc.ret (endP.val (.inr rfl) rfl rfl (by simp; rfl) ?_))
    | (refine WPL.isCall ?_; first
      | (apply WPL.cLH; (case' hc => with_reducible (first | apply uL_.o.1 | apply uL_.o.2.1 | apply uL_.o.2.2.1 | apply uL_.o.2.2.2.1 | apply uL_.o.2.2.2.2.1 | apply uL_.o.2.2.2.2.2.1 | apply uL_.o.2.2.2.2.2.2.1 | apply uL_.o.2.2.2.2.2.2.2.1 | apply uL_.o.2.2.2.2.2.2.2.2.1 | apply uL_.o.2.2.2.2.2.2.2.2.2.1)); (case q => (repeat' (first | refine And.intro ?_ ?_ | intro _ | (with_reducible exact cleanOut_nil) | (refine Eqv.mk ?_; first | rfl | (simp -implicitDefEqProofs [w_.o]; done)) | (simp -implicitDefEqProofs [w_.o]; done) | (simp -implicitDefEqProofs [w_.o]; rfl) | (simp; done) | (simp; rfl) | rfl))); (case hh => (repeat' (first | exact True.intro | assumption | apply And.intro | omega | (simp; done) | (intros; omega) | decide | (simp_all; done)))))
      | (apply WPL.cUH; (case' hc => with_reducible (first | apply uU_.o.1 | apply uU_.o.2.1 | apply uU_.o.2.2.1 | apply uU_.o.2.2.2.1 | apply uU_.o.2.2.2.2.1 | apply uU_.o.2.2.2.2.2.1 | apply uU_.o.2.2.2.2.2.2.1 | apply uU_.o.2.2.2.2.2.2.2.1 | apply uU_.o.2.2.2.2.2.2.2.2.1 | apply uU_.o.2.2.2.2.2.2.2.2.2.1)); (case q => (repeat' (first | refine And.intro ?_ ?_ | intro _ | (with_reducible exact cleanOut_nil) | (refine Eqv.mk ?_; first | rfl | (simp -implicitDefEqProofs [w_.o]; done)) | (simp -implicitDefEqProofs [w_.o]; done) | (simp -implicitDefEqProofs [w_.o]; rfl) | (simp; done) | (simp; rfl) | rfl))); (case hh => (repeat' (first | exact True.intro | assumption | apply And.intro | omega | (simp; done) | (intros; omega) | decide | (simp_all; done)))))
      | (apply WPL.cRH; (case' hc => with_reducible (first | apply uR_.o.1 | apply uR_.o.2.1 | apply uR_.o.2.2.1 | apply uR_.o.2.2.2.1 | apply uR_.o.2.2.2.2.1 | apply uR_.o.2.2.2.2.2.1 | apply uR_.o.2.2.2.2.2.2.1 | apply uR_.o.2.2.2.2.2.2.2.1 | apply uR_.o.2.2.2.2.2.2.2.2.1 | apply uR_.o.2.2.2.2.2.2.2.2.2.1)); (case q => (repeat' (first | refine And.intro ?_ ?_ | intro _ | (with_reducible exact cleanOut_nil) | (refine Eqv.mk ?_; first | rfl | (simp -implicitDefEqProofs [w_.o]; done)) | (simp -implicitDefEqProofs [w_.o]; done) | (simp -implicitDefEqProofs [w_.o]; rfl) | (simp; done) | (simp; rfl) | rfl))); (case hh => (repeat' (first | exact True.intro | assumption | apply And.intro | omega | (simp; done) | (intros; omega) | decide | (simp_all; done)))); (intro y_ hy_ s hs; simp at hs; subst hs))
      | (refine WPL.call0f ?_ ?_ ?_; (focus (simp; done)); (focus (simp; done))))
    | (apply WPS.isCall; (case ho => exact rfl); first
      | (apply WPS.cLH; (case ho => exact rfl); (case' hc => with_reducible (first | apply uL_.o.1 | apply uL_.o.2.1 | apply uL_.o.2.2.1 | apply uL_.o.2.2.2.1 | apply uL_.o.2.2.2.2.1 | apply uL_.o.2.2.2.2.2.1 | apply uL_.o.2.2.2.2.2.2.1 | apply uL_.o.2.2.2.2.2.2.2.1 | apply uL_.o.2.2.2.2.2.2.2.2.1 | apply uL_.o.2.2.2.2.2.2.2.2.2.1)); (case q => (repeat' (first | refine And.intro ?_ ?_ | intro _ | (with_reducible exact cleanOut_nil) | (refine Eqv.mk ?_; first | rfl | (simp -implicitDefEqProofs [w_.o]; done)) | (simp -implicitDefEqProofs [w_.o]; done) | (simp -implicitDefEqProofs [w_.o]; rfl) | (simp; done) | (simp; rfl) | rfl))); (case hh => (repeat' (first | exact True.intro | assumption | apply And.intro | omega | (simp; done) | (intros; omega) | decide | (simp_all; done)))))
      | (apply WPS.cUH; (case ho => exact rfl); (case' hc => with_reducible (first | apply uU_.o.1 | apply uU_.o.2.1 | apply uU_.o.2.2.1 | apply uU_.o.2.2.2.1 | apply uU_.o.2.2.2.2.1 | apply uU_.o.2.2.2.2.2.1 | apply uU_.o.2.2.2.2.2.2.1 | apply uU_.o.2.2.2.2.2.2.2.1 | apply uU_.o.2.2.2.2.2.2.2.2.1 | apply uU_.o.2.2.2.2.2.2.2.2.2.1)); (case q => (repeat' (first | refine And.intro ?_ ?_ | intro _ | (with_reducible exact cleanOut_nil) | (refine Eqv.mk ?_; first | rfl | (simp -implicitDefEqProofs [w_.o]; done)) | (simp -implicitDefEqProofs [w_.o]; done) | (simp -implicitDefEqProofs [w_.o]; rfl) | (simp; done) | (simp; rfl) | rfl))); (case hh => (repeat' (first | exact True.intro | assumption | apply And.intro | omega | (simp; done) | (intros; omega) | decide | (simp_all; done)))))
      | (apply WPS.cRH; (case ho => exact rfl); (case' hc => with_reducible (first | apply uR_.o.1 | apply uR_.o.2.1 | apply uR_.o.2.2.1 | apply uR_.o.2.2.2.1 | apply uR_.o.2.2.2.2.1 | apply uR_.o.2.2.2.2.2.1 | apply uR_.o.2.2.2.2.2.2.1 | apply uR_.o.2.2.2.2.2.2.2.1 | apply uR_.o.2.2.2.2.2.2.2.2.1 | apply uR_.o.2.2.2.2.2.2.2.2.2.1)); (case q => (repeat' (first | refine And.intro ?_ ?_ | intro _ | (with_reducible exact cleanOut_nil) | (refine Eqv.mk ?_; first | rfl | (simp -implicitDefEqProofs [w_.o]; done)) | (simp -implicitDefEqProofs [w_.o]; done) | (simp -implicitDefEqProofs [w_.o]; rfl) | (simp; done) | (simp; rfl) | rfl))); (case hh => (repeat' (first | exact True.intro | assumption | apply And.intro | omega | (simp; done) | (intros; omega) | decide | (simp_all; done)))); (intro y_ hy_ s hs; simp at hs; subst hs))
      | (apply WPS.callf (ho := rfl); (case hg => (simp; done)); (case hd => (simp; done))))
    | ((first | refine WPc.rq tok rfl fun K hK => ?_ | refine WPL.rn tok _ (by simp [ahead, isFn]; rfl) fun K hK => ?_ | refine WPS.rn tok _ (by simp [aheadS]; rfl) fun K hK => ?_ | refine WPS.eff tok fun K hK => ?_); simp -implicitDefEqProofs +contextual [-Int.not_le, -Int.not_lt, -Nat.not_le, -Nat.not_lt, -List.all_eq_true, -List.all_eq_false, -List.any_eq_true, -List.any_eq_false, w_.o]; (repeat1' (first | refine hK _ ?_ | refine And.intro ?_ ?_ | intro ha_)) <;> clear hK K <;> (try dsimp only [List.drop]))
    | (first | refine WPc.schedH tok z_.o.2.1 (by kernel_rfl) ?_ | refine WPc.schedH tok z_.o.2.2.1 (by kernel_rfl) ?_ | refine WPc.schedH tok z_.o.2.2.2.1 (by kernel_rfl) ?_ | refine WPc.schedH tok z_.o.2.2.2.2.1 (by kernel_rfl) ?_ | refine WPc.schedH tok z_.o.2.2.2.2.2.1 (by kernel_rfl) ?_ | refine WPc.schedH tok z_.o.2.2.2.2.2.2.1 (by kernel_rfl) ?_ | refine WPc.schedH tok z_.o.2.2.2.2.2.2.2.1 (by kernel_rfl) ?_ | refine WPc.schedH tok z_.o.2.2.2.2.2.2.2.2.1 (by kernel_rfl) ?_)
    | (refine WPc.region ?_; simp only [List.toList_toArray])
    | (refine WPc.condT ?_ ?_; (focus (simp; done)))
    | (refine WPc.condF ?_ ?_; (focus (simp; done)))
    | (refine WPc.cond (by simp [-Bool.not_eq_eq_eq_not]; rfl) (fun hq_ => ?_) (fun hq_ => ?_) <;> simp only [hq_] <;> (try (exfalso; (simp only [decide_eq_true_eq, decide_eq_false_iff_not] at hq_); omega))))
  all_goals ((repeat revert hq_); (repeat revert ha_); (repeat revert hy_); (repeat revert y_); (repeat revert u_); revert w_)
  all_goals (with_reducible (first | exact And.left n_.o | exact And.left (And.right n_.o) | exact And.left (And.right (And.right n_.o)) | exact And.left (And.right (And.right (And.right n_.o))) | exact And.left (And.right (And.right (And.right (And.right n_.o)))) | exact And.left (And.right (And.right (And.right (And.right (And.right n_.o))))) | exact And.left (And.right (And.right (And.right (And.right (And.right (And.right n_.o)))))) | exact And.left (And.right (And.right (And.right (And.right (And.right (And.right (And.right n_.o))))))) | exact And.left (And.right (And.right (And.right (And.right (And.right (And.right (And.right (And.right n_.o)))))))) | exact And.left (And.right (And.right (And.right (And.right (And.right (And.right (And.right (And.right (And.right n_.o))))))))) | exact And.left (And.right (And.right (And.right (And.right (And.right (And.right (And.right (And.right (And.right (And.right n_.o)))))))))) | exact And.left (And.right (And.right (And.right (And.right (And.right (And.right (And.right (And.right (And.right (And.right (And.right n_.o)))))))))))))) : p := h ⟨w⟩ ⟨uL⟩ ⟨uU⟩ ⟨uR⟩ ⟨z⟩ ⟨n⟩
theorem go {p W UL UU UR Z L : Prop} (w : W) (uL : UL) (uU : UU) (uR : UR) (z : Z) (n : L) (h : Bx W → Bx UL → Bx UU → Bx UR → Bx Z → Bx L → p := by
  intro w_ uL_ uU_ uR_ z_ n_
  repeat' (first
    | apply WPc.sq
    | apply WPc.block
    | apply WPc.skip
    | apply WPc.exit
    | refine WPL.nil ?_
    | refine WPS.nil ?_
    | (apply WPc.ret; apply (endP.selH z_.o.1 (.inr rfl)); (case hs => rfl); (case hg => rfl); (case h => (simp; rfl)); (case hO => (simp; rfl)); (case hk => (simp; done)))
    | (refine WPc.ret (endP.val (.inr rfl) rfl rfl (by simp; rfl) ?_))
    | (refine WPL.isCall ?_; first
      | (apply WPL.cLH; (case' hc => with_reducible (first | apply uL_.o.1 | apply uL_.o.2.1 | apply uL_.o.2.2.1 | apply uL_.o.2.2.2.1 | apply uL_.o.2.2.2.2.1 | apply uL_.o.2.2.2.2.2.1 | apply uL_.o.2.2.2.2.2.2.1 | apply uL_.o.2.2.2.2.2.2.2.1 | apply uL_.o.2.2.2.2.2.2.2.2.1 | apply uL_.o.2.2.2.2.2.2.2.2.2.1)); (case q => (repeat' (first | refine And.intro ?_ ?_ | intro _ | (with_reducible exact cleanOut_nil) | (refine Eqv.mk ?_; first | rfl | (simp -implicitDefEqProofs [w_.o]; done)) | (simp -implicitDefEqProofs [w_.o]; done) | (simp -implicitDefEqProofs [w_.o]; rfl) | (simp; done) | (simp; rfl) | rfl))); (case hh => (repeat' (first | exact True.intro | assumption | apply And.intro | omega | (simp; done) | (intros; omega) | decide | (simp_all; done)))))
      | (apply WPL.cUH; (case' hc => with_reducible (first | apply uU_.o.1 | apply uU_.o.2.1 | apply uU_.o.2.2.1 | apply uU_.o.2.2.2.1 | apply uU_.o.2.2.2.2.1 | apply uU_.o.2.2.2.2.2.1 | apply uU_.o.2.2.2.2.2.2.1 | apply uU_.o.2.2.2.2.2.2.2.1 | apply uU_.o.2.2.2.2.2.2.2.2.1 | apply uU_.o.2.2.2.2.2.2.2.2.2.1)); (case q => (repeat' (first | refine And.intro ?_ ?_ | intro _ | (with_reducible exact cleanOut_nil) | (refine Eqv.mk ?_; first | rfl | (simp -implicitDefEqProofs [w_.o]; done)) | (simp -implicitDefEqProofs [w_.o]; done) | (simp -implicitDefEqProofs [w_.o]; rfl) | (simp; done) | (simp; rfl) | rfl))); (case hh => (repeat' (first | exact True.intro | assumption | apply And.intro | omega | (simp; done) | (intros; omega) | decide | (simp_all; done)))))
      | (apply WPL.cRH; (case' hc => with_reducible (first | apply uR_.o.1 | apply uR_.o.2.1 | apply uR_.o.2.2.1 | apply uR_.o.2.2.2.1 | apply uR_.o.2.2.2.2.1 | apply uR_.o.2.2.2.2.2.1 | apply uR_.o.2.2.2.2.2.2.1 | apply uR_.o.2.2.2.2.2.2.2.1 | apply uR_.o.2.2.2.2.2.2.2.2.1 | apply uR_.o.2.2.2.2.2.2.2.2.2.1)); (case q => (repeat' (first | refine And.intro ?_ ?_ | intro _ | (with_reducible exact cleanOut_nil) | (refine Eqv.mk ?_; first | rfl | (simp -implicitDefEqProofs [w_.o]; done)) | (simp -implicitDefEqProofs [w_.o]; done) | (simp -implicitDefEqProofs [w_.o]; rfl) | (simp; done) | (simp; rfl) | rfl))); (case hh => (repeat' (first | exact True.intro | assumption | apply And.intro | omega | (simp; done) | (intros; omega) | decide | (simp_all; done)))); (intro y_ hy_ s hs; simp at hs; subst hs))
      | (refine WPL.call0f ?_ ?_ ?_; (focus (simp; done)); (focus (simp; done))))
    | (apply WPS.isCall; (case ho => exact rfl); first
      | (apply WPS.cLH; (case ho => exact rfl); (case' hc => with_reducible (first | apply uL_.o.1 | apply uL_.o.2.1 | apply uL_.o.2.2.1 | apply uL_.o.2.2.2.1 | apply uL_.o.2.2.2.2.1 | apply uL_.o.2.2.2.2.2.1 | apply uL_.o.2.2.2.2.2.2.1 | apply uL_.o.2.2.2.2.2.2.2.1 | apply uL_.o.2.2.2.2.2.2.2.2.1 | apply uL_.o.2.2.2.2.2.2.2.2.2.1)); (case q => (repeat' (first | refine And.intro ?_ ?_ | intro _ | (with_reducible exact cleanOut_nil) | (refine Eqv.mk ?_; first | rfl | (simp -implicitDefEqProofs [w_.o]; done)) | (simp -implicitDefEqProofs [w_.o]; done) | (simp -implicitDefEqProofs [w_.o]; rfl) | (simp; done) | (simp; rfl) | rfl))); (case hh => (repeat' (first | exact True.intro | assumption | apply And.intro | omega | (simp; done) | (intros; omega) | decide | (simp_all; done)))))
      | (apply WPS.cUH; (case ho => exact rfl); (case' hc => with_reducible (first | apply uU_.o.1 | apply uU_.o.2.1 | apply uU_.o.2.2.1 | apply uU_.o.2.2.2.1 | apply uU_.o.2.2.2.2.1 | apply uU_.o.2.2.2.2.2.1 | apply uU_.o.2.2.2.2.2.2.1 | apply uU_.o.2.2.2.2.2.2.2.1 | apply uU_.o.2.2.2.2.2.2.2.2.1 | apply uU_.o.2.2.2.2.2.2.2.2.2.1)); (case q => (repeat' (first | refine And.intro ?_ ?_ | intro _ | (with_reducible exact cleanOut_nil) | (refine Eqv.mk ?_; first | rfl | (simp -implicitDefEqProofs [w_.o]; done)) | (simp -implicitDefEqProofs [w_.o]; done) | (simp -implicitDefEqProofs [w_.o]; rfl) | (simp; done) | (simp; rfl) | rfl))); (case hh => (repeat' (first | exact True.intro | assumption | apply And.intro | omega | (simp; done) | (intros; omega) | decide | (simp_all; done)))))
      | (apply WPS.cRH; (case ho => exact rfl); (case' hc => with_reducible (first | apply uR_.o.1 | apply uR_.o.2.1 | apply uR_.o.2.2.1 | apply uR_.o.2.2.2.1 | apply uR_.o.2.2.2.2.1 | apply uR_.o.2.2.2.2.2.1 | apply uR_.o.2.2.2.2.2.2.1 | apply uR_.o.2.2.2.2.2.2.2.1 | apply uR_.o.2.2.2.2.2.2.2.2.1 | apply uR_.o.2.2.2.2.2.2.2.2.2.1)); (case q => (repeat' (first | refine And.intro ?_ ?_ | intro _ | (with_reducible exact cleanOut_nil) | (refine Eqv.mk ?_; first | rfl | (simp -implicitDefEqProofs [w_.o]; done)) | (simp -implicitDefEqProofs [w_.o]; done) | (simp -implicitDefEqProofs [w_.o]; rfl) | (simp; done) | (simp; rfl) | rfl))); (case hh => (repeat' (first | exact True.intro | assumption | apply And.intro | omega | (simp; done) | (intros; omega) | decide | (simp_all; done)))); (intro y_ hy_ s hs; simp at hs; subst hs))
      | (apply WPS.callf (ho := rfl); (case hg => (simp; done)); (case hd => (simp; done))))
    | ((first | refine WPc.rq tok rfl fun K hK => ?_ | refine WPL.rn tok _ (by simp [ahead, isFn]; rfl) fun K hK => ?_ | refine WPS.rn tok _ (by simp [aheadS]; rfl) fun K hK => ?_ | refine WPS.eff tok fun K hK => ?_); simp -implicitDefEqProofs +contextual [-Int.not_le, -Int.not_lt, -Nat.not_le, -Nat.not_lt, -List.all_eq_true, -List.all_eq_false, -List.any_eq_true, -List.any_eq_false, w_.o]; (repeat1' (first | refine hK _ ?_ | refine And.intro ?_ ?_ | intro ha_)) <;> clear hK K <;> (try dsimp only [List.drop]))
    | (first | refine WPc.schedH tok z_.o.2.1 (by kernel_rfl) ?_ | refine WPc.schedH tok z_.o.2.2.1 (by kernel_rfl) ?_ | refine WPc.schedH tok z_.o.2.2.2.1 (by kernel_rfl) ?_ | refine WPc.schedH tok z_.o.2.2.2.2.1 (by kernel_rfl) ?_ | refine WPc.schedH tok z_.o.2.2.2.2.2.1 (by kernel_rfl) ?_ | refine WPc.schedH tok z_.o.2.2.2.2.2.2.1 (by kernel_rfl) ?_ | refine WPc.schedH tok z_.o.2.2.2.2.2.2.2.1 (by kernel_rfl) ?_ | refine WPc.schedH tok z_.o.2.2.2.2.2.2.2.2.1 (by kernel_rfl) ?_)
    | (refine WPc.region ?_; simp only [List.toList_toArray])
    | (refine WPc.condT ?_ ?_; (focus (simp; done)))
    | (refine WPc.condF ?_ ?_; (focus (simp; done)))
    | (refine WPc.cond (by simp [-Bool.not_eq_eq_eq_not]; rfl) (fun hq_ => ?_) (fun hq_ => ?_) <;> simp only [hq_] <;> (try (exfalso; (simp only [decide_eq_true_eq, decide_eq_false_iff_not] at hq_); omega))))
  all_goals ((repeat revert hq_); (repeat revert ha_); (repeat revert hy_); (repeat revert y_); (repeat revert u_); revert w_)
  all_goals (with_reducible (first | exact And.left n_.o | exact And.left (And.right n_.o) | exact And.left (And.right (And.right n_.o)) | exact And.left (And.right (And.right (And.right n_.o))) | exact And.left (And.right (And.right (And.right (And.right n_.o)))) | exact And.left (And.right (And.right (And.right (And.right (And.right n_.o))))) | exact And.left (And.right (And.right (And.right (And.right (And.right (And.right n_.o)))))) | exact And.left (And.right (And.right (And.right (And.right (And.right (And.right (And.right n_.o))))))) | exact And.left (And.right (And.right (And.right (And.right (And.right (And.right (And.right (And.right n_.o)))))))) | exact And.left (And.right (And.right (And.right (And.right (And.right (And.right (And.right (And.right (And.right n_.o))))))))) | exact And.left (And.right (And.right (And.right (And.right (And.right (And.right (And.right (And.right (And.right (And.right n_.o)))))))))) | exact And.left (And.right (And.right (And.right (And.right (And.right (And.right (And.right (And.right (And.right (And.right (And.right n_.o)))))))))))))) : p := h ⟨w⟩ ⟨uL⟩ ⟨uU⟩ ⟨uR⟩ ⟨z⟩ ⟨n⟩
end Go.Own
set_option maxRecDepth 1000000
namespace Go.Own
noncomputable abbrev PP : Program := Go.Proofs.Tryz.prog
def ti3 : TI := { size := 1, bytes := 8, kind := .int .i64, zero := [.int .i64 0] }
def ti4 : TI := { size := 1, bytes := 1, kind := .bool, zero := [.bool false] }
def ti5 : TI := { size := 1, bytes := 1, kind := .int .u8, zero := [.int .u8 0] }
def ti9 : TI := { size := 1, bytes := 16, kind := .str, zero := [.string ⟨#[]⟩] }
def ti12 : TI := { size := 1, bytes := 8, kind := .int .u64, zero := [.int .u64 0] }
def ti13 : TI := { size := 2, bytes := 24, kind := .struct [(0, 9), (1, 12)], zero := [.string ⟨#[]⟩, .int .u64 0] }
def ti22 : TI := { size := 1, bytes := 24, kind := .slice 144, zero := [.slice none 0 0] }
def ti23 : TI := { size := 1, bytes := 24, kind := .slice 149, zero := [.slice none 0 0] }
def ti24 : TI := { size := 1, bytes := 24, kind := .slice 155, zero := [.slice none 0 0] }
def ti25 : TI := { size := 1, bytes := 24, kind := .slice 9, zero := [.slice none 0 0] }
def ti27 : TI := { size := 4, bytes := 96, kind := .struct [(0, 22), (1, 23), (2, 24), (3, 25)], zero := [.slice none 0 0, .slice none 0 0, .slice none 0 0, .slice none 0 0] }
def ti28 : TI := { size := 1, bytes := 24, kind := .slice 158, zero := [.slice none 0 0] }
def ti30 : TI := { size := 3, bytes := 32, kind := .struct [(0, 3), (1, 3), (2, 9)], zero := [.int .i64 0, .int .i64 0, .string ⟨#[]⟩], eqk := [.i, .i, .s] }
def ti31 : TI := { size := 1, bytes := 24, kind := .slice 161, zero := [.slice none 0 0] }
def ti33 : TI := { size := 9, bytes := 112, kind := .struct [(0, 3), (1, 3), (2, 3), (3, 28), (4, 30), (7, 31), (8, 3)], zero := [.int .i64 0, .int .i64 0, .int .i64 0, .slice none 0 0, .int .i64 0, .int .i64 0, .string ⟨#[]⟩, .slice none 0 0, .int .i64 0] }
def ti37 : TI := { size := 1, bytes := 24, kind := .slice 171, zero := [.slice none 0 0] }
def ti38 : TI := { size := 1, bytes := 24, kind := .slice 114, zero := [.slice none 0 0] }
def ti39 : TI := { size := 1, bytes := 24, kind := .slice 168, zero := [.slice none 0 0] }
def ti41 : TI := { size := 4, bytes := 96, kind := .struct [(0, 37), (1, 38), (2, 39), (3, 25)], zero := [.slice none 0 0, .slice none 0 0, .slice none 0 0, .slice none 0 0] }
def ti43 : TI := { size := 1, bytes := 24, kind := .slice 177, zero := [.slice none 0 0] }
def ti44 : TI := { size := 3, bytes := 32, kind := .struct [(0, 3), (1, 3), (2, 9)], zero := [.int .i64 0, .int .i64 0, .string ⟨#[]⟩], eqk := [.i, .i, .s] }
def ti45 : TI := { size := 1, bytes := 24, kind := .slice 86, zero := [.slice none 0 0] }
def ti47 : TI := { size := 9, bytes := 112, kind := .struct [(0, 3), (1, 3), (2, 3), (3, 43), (4, 44), (7, 45), (8, 3)], zero := [.int .i64 0, .int .i64 0, .int .i64 0, .slice none 0 0, .int .i64 0, .int .i64 0, .string ⟨#[]⟩, .slice none 0 0, .int .i64 0] }
def ti53 : TI := { size := 1, bytes := 24, kind := .slice 200, zero := [.slice none 0 0] }
def ti54 : TI := { size := 1, bytes := 24, kind := .slice 203, zero := [.slice none 0 0] }
def ti56 : TI := { size := 7, bytes := 152, kind := .struct [(0, 27), (4, 53), (5, 54), (6, 3)], zero := [.slice none 0 0, .slice none 0 0, .slice none 0 0, .slice none 0 0, .slice none 0 0, .slice none 0 0, .int .i64 0] }
def ti59 : TI := { size := 1, bytes := 24, kind := .slice 110, zero := [.slice none 0 0] }
def ti60 : TI := { size := 1, bytes := 24, kind := .slice 121, zero := [.slice none 0 0] }
def ti62 : TI := { size := 7, bytes := 152, kind := .struct [(0, 41), (4, 59), (5, 60), (6, 3)], zero := [.slice none 0 0, .slice none 0 0, .slice none 0 0, .slice none 0 0, .slice none 0 0, .slice none 0 0, .int .i64 0] }
def ti84 : TI := { size := 1, bytes := 24, kind := .slice 44, zero := [.slice none 0 0] }
def ti86 : TI := { size := 4, bytes := 64, kind := .struct [(0, 3), (1, 3), (2, 84), (3, 43)], zero := [.int .i64 0, .int .i64 0, .slice none 0 0, .slice none 0 0] }
def ti105 : TI := { size := 1, bytes := 24, kind := .slice 208, zero := [.slice none 0 0] }
def ti106 : TI := { size := 1, bytes := 24, kind := .slice 210, zero := [.slice none 0 0] }
def ti108 : TI := { size := 6, bytes := 136, kind := .struct [(0, 9), (1, 25), (2, 25), (3, 105), (4, 106), (5, 106)], zero := [.string ⟨#[]⟩, .slice none 0 0, .slice none 0 0, .slice none 0 0, .slice none 0 0, .slice none 0 0] }
def ti110 : TI := { size := 8, bytes := 152, kind := .struct [(0, 108), (6, 3), (7, 3)], zero := [.string ⟨#[]⟩, .slice none 0 0, .slice none 0 0, .slice none 0 0, .slice none 0 0, .slice none 0 0, .int .i64 0, .int .i64 0] }
def ti112 : TI := { size := 1, bytes := 24, kind := .slice 223, zero := [.slice none 0 0] }
def ti114 : TI := { size := 6, bytes := 120, kind := .struct [(0, 9), (1, 3), (2, 25), (3, 84), (4, 112), (5, 105)], zero := [.string ⟨#[]⟩, .int .i64 0, .slice none 0 0, .slice none 0 0, .slice none 0 0, .slice none 0 0] }
def ti118 : TI := { size := 1, bytes := 24, kind := .slice 108, zero := [.slice none 0 0] }
def ti121 : TI := { size := 10, bytes := 120, kind := .struct [(0, 3), (1, 47)], zero := [.int .i64 0, .int .i64 0, .int .i64 0, .int .i64 0, .slice none 0 0, .int .i64 0, .int .i64 0, .string ⟨#[]⟩, .slice none 0 0, .int .i64 0] }
def ti131 : TI := { size := 1, bytes := 24, kind := .slice 4, zero := [.slice none 0 0] }
def ti133 : TI := { size := 3, bytes := 72, kind := .struct [(0, 131), (1, 131), (2, 131)], zero := [.slice none 0 0, .slice none 0 0, .slice none 0 0] }
def ti142 : TI := { size := 1, bytes := 24, kind := .slice 30, zero := [.slice none 0 0] }
def ti144 : TI := { size := 6, bytes := 88, kind := .struct [(0, 3), (1, 9), (2, 3), (3, 3), (4, 25), (5, 142)], zero := [.int .i64 0, .string ⟨#[]⟩, .int .i64 0, .int .i64 0, .slice none 0 0, .slice none 0 0] }
def ti146 : TI := { size := 1, bytes := 24, kind := .slice 286, zero := [.slice none 0 0] }
def ti147 : TI := { size := 1, bytes := 24, kind := .slice 288, zero := [.slice none 0 0] }
def ti149 : TI := { size := 6, bytes := 120, kind := .struct [(0, 9), (1, 3), (2, 25), (3, 142), (4, 146), (5, 147)], zero := [.string ⟨#[]⟩, .int .i64 0, .slice none 0 0, .slice none 0 0, .slice none 0 0, .slice none 0 0] }
def ti151 : TI := { size := 1, bytes := 24, kind := .slice 309, zero := [.slice none 0 0] }
def ti153 : TI := { size := 2, bytes := 32, kind := .struct [(0, 151), (1, 3)], zero := [.slice none 0 0, .int .i64 0] }
def ti155 : TI := { size := 3, bytes := 40, kind := .struct [(0, 3), (1, 153)], zero := [.int .i64 0, .slice none 0 0, .int .i64 0] }
def ti158 : TI := { size := 4, bytes := 48, kind := .struct [(0, 9), (1, 30)], zero := [.string ⟨#[]⟩, .int .i64 0, .int .i64 0, .string ⟨#[]⟩] }
def ti161 : TI := { size := 4, bytes := 64, kind := .struct [(0, 3), (1, 3), (2, 142), (3, 28)], zero := [.int .i64 0, .int .i64 0, .slice none 0 0, .slice none 0 0] }
def ti164 : TI := { size := 1, bytes := 24, kind := .slice 174, zero := [.slice none 0 0] }
def ti166 : TI := { size := 2, bytes := 32, kind := .struct [(0, 164), (1, 3)], zero := [.slice none 0 0, .int .i64 0] }
def ti168 : TI := { size := 3, bytes := 40, kind := .struct [(0, 3), (1, 166)], zero := [.int .i64 0, .slice none 0 0, .int .i64 0] }
def ti171 : TI := { size := 6, bytes := 88, kind := .struct [(0, 3), (1, 9), (2, 3), (3, 3), (4, 25), (5, 84)], zero := [.int .i64 0, .string ⟨#[]⟩, .int .i64 0, .int .i64 0, .slice none 0 0, .slice none 0 0] }
def ti172 : TI := { size := 1, bytes := 24, kind := .slice 3, zero := [.slice none 0 0] }
def ti174 : TI := { size := 5, bytes := 80, kind := .struct [(0, 3), (1, 3), (2, 9), (3, 25), (4, 172)], zero := [.int .i64 0, .int .i64 0, .string ⟨#[]⟩, .slice none 0 0, .slice none 0 0] }
def ti177 : TI := { size := 4, bytes := 48, kind := .struct [(0, 9), (1, 44)], zero := [.string ⟨#[]⟩, .int .i64 0, .int .i64 0, .string ⟨#[]⟩] }
def ti186 : TI := { size := 1, bytes := 8, kind := .oth, zero := [.pointer none] }
def ti196 : TI := { size := 1, bytes := 24, kind := .slice 320, zero := [.slice none 0 0] }
def ti198 : TI := { size := 6, bytes := 136, kind := .struct [(0, 9), (1, 25), (2, 25), (3, 147), (4, 196), (5, 196)], zero := [.string ⟨#[]⟩, .slice none 0 0, .slice none 0 0, .slice none 0 0, .slice none 0 0, .slice none 0 0] }
def ti200 : TI := { size := 8, bytes := 152, kind := .struct [(0, 198), (6, 3), (7, 3)], zero := [.string ⟨#[]⟩, .slice none 0 0, .slice none 0 0, .slice none 0 0, .slice none 0 0, .slice none 0 0, .int .i64 0, .int .i64 0] }
def ti203 : TI := { size := 10, bytes := 120, kind := .struct [(0, 3), (1, 33)], zero := [.int .i64 0, .int .i64 0, .int .i64 0, .int .i64 0, .slice none 0 0, .int .i64 0, .int .i64 0, .string ⟨#[]⟩, .slice none 0 0, .int .i64 0] }
def ti208 : TI := { size := 2, bytes := 24, kind := .struct [(0, 9), (1, 3)], zero := [.string ⟨#[]⟩, .int .i64 0] }
def ti210 : TI := { size := 3, bytes := 48, kind := .struct [(0, 9), (1, 166)], zero := [.string ⟨#[]⟩, .slice none 0 0, .int .i64 0] }
def ti223 : TI := { size := 3, bytes := 40, kind := .struct [(0, 9), (1, 3), (2, 9)], zero := [.string ⟨#[]⟩, .int .i64 0, .string ⟨#[]⟩] }
def ti225 : TI := { size := 7, bytes := 152, kind := .struct [(0, 186), (1, 133), (4, 172), (5, 172), (6, 172)], zero := [.pointer none, .slice none 0 0, .slice none 0 0, .slice none 0 0, .slice none 0 0, .slice none 0 0, .slice none 0 0] }
def ti235 : TI := { size := 1, bytes := 24, kind := .slice 5, zero := [.slice none 0 0] }
def ti265 : TI := { size := 2, bytes := 48, kind := .struct [(0, 37), (1, 235)], zero := [.slice none 0 0, .slice none 0 0] }
def ti275 : TI := { size := 1, bytes := 8, kind := .oth, zero := [.pointer none] }
def ti280 : TI := { size := 1, bytes := 8, kind := .oth, zero := [.pointer none] }
def ti286 : TI := { size := 3, bytes := 40, kind := .struct [(0, 9), (1, 3), (2, 9)], zero := [.string ⟨#[]⟩, .int .i64 0, .string ⟨#[]⟩] }
def ti288 : TI := { size := 2, bytes := 24, kind := .struct [(0, 9), (1, 3)], zero := [.string ⟨#[]⟩, .int .i64 0] }
def ti300 : TI := { size := 1, bytes := 8, kind := .oth, zero := [.pointer none] }
def ti309 : TI := { size := 5, bytes := 80, kind := .struct [(0, 3), (1, 3), (2, 9), (3, 25), (4, 172)], zero := [.int .i64 0, .int .i64 0, .string ⟨#[]⟩, .slice none 0 0, .slice none 0 0] }
def ti314 : TI := { size := 1, bytes := 16, kind := .ifc, zero := [.nilIface] }
def ti320 : TI := { size := 3, bytes := 48, kind := .struct [(0, 9), (1, 153)], zero := [.string ⟨#[]⟩, .slice none 0 0, .int .i64 0] }
def tt : Nat → Option TI
  | 3 => some ti3
  | 4 => some ti4
  | 5 => some ti5
  | 9 => some ti9
  | 12 => some ti12
  | 13 => some ti13
  | 22 => some ti22
  | 23 => some ti23
  | 24 => some ti24
  | 25 => some ti25
  | 27 => some ti27
  | 28 => some ti28
  | 30 => some ti30
  | 31 => some ti31
  | 33 => some ti33
  | 37 => some ti37
  | 38 => some ti38
  | 39 => some ti39
  | 41 => some ti41
  | 43 => some ti43
  | 44 => some ti44
  | 45 => some ti45
  | 47 => some ti47
  | 53 => some ti53
  | 54 => some ti54
  | 56 => some ti56
  | 59 => some ti59
  | 60 => some ti60
  | 62 => some ti62
  | 84 => some ti84
  | 86 => some ti86
  | 105 => some ti105
  | 106 => some ti106
  | 108 => some ti108
  | 110 => some ti110
  | 112 => some ti112
  | 114 => some ti114
  | 118 => some ti118
  | 121 => some ti121
  | 131 => some ti131
  | 133 => some ti133
  | 142 => some ti142
  | 144 => some ti144
  | 146 => some ti146
  | 147 => some ti147
  | 149 => some ti149
  | 151 => some ti151
  | 153 => some ti153
  | 155 => some ti155
  | 158 => some ti158
  | 161 => some ti161
  | 164 => some ti164
  | 166 => some ti166
  | 168 => some ti168
  | 171 => some ti171
  | 172 => some ti172
  | 174 => some ti174
  | 177 => some ti177
  | 186 => some ti186
  | 196 => some ti196
  | 198 => some ti198
  | 200 => some ti200
  | 203 => some ti203
  | 208 => some ti208
  | 210 => some ti210
  | 223 => some ti223
  | 225 => some ti225
  | 235 => some ti235
  | 265 => some ti265
  | 275 => some ti275
  | 280 => some ti280
  | 286 => some ti286
  | 288 => some ti288
  | 300 => some ti300
  | 309 => some ti309
  | 314 => some ti314
  | 320 => some ti320
  | _ => none
def RowOk (t : Nat) (i : TI) : Prop := ∃ info d z, PP.info? t = some info ∧ PP.underlying t = some d ∧ info.size = i.size ∧ info.bytes = i.bytes ∧ info.zero = some z ∧ z.cells.toList = i.zero ∧ i.kind.ok d
theorem row3 : RowOk 3 ti3 := ⟨_, _, _, rfl, rfl, rfl, rfl, rfl, rfl, rfl⟩
theorem row4 : RowOk 4 ti4 := ⟨_, _, _, rfl, rfl, rfl, rfl, rfl, rfl, rfl⟩
theorem row5 : RowOk 5 ti5 := ⟨_, _, _, rfl, rfl, rfl, rfl, rfl, rfl, rfl⟩
theorem row9 : RowOk 9 ti9 := ⟨_, _, _, rfl, rfl, rfl, rfl, rfl, rfl, rfl⟩
theorem row12 : RowOk 12 ti12 := ⟨_, _, _, rfl, rfl, rfl, rfl, rfl, rfl, rfl⟩
theorem row13 : RowOk 13 ti13 := ⟨_, _, _, rfl, rfl, rfl, rfl, rfl, rfl, ⟨_, rfl, rfl⟩⟩
theorem row22 : RowOk 22 ti22 := ⟨_, _, _, rfl, rfl, rfl, rfl, rfl, rfl, rfl⟩
theorem row23 : RowOk 23 ti23 := ⟨_, _, _, rfl, rfl, rfl, rfl, rfl, rfl, rfl⟩
theorem row24 : RowOk 24 ti24 := ⟨_, _, _, rfl, rfl, rfl, rfl, rfl, rfl, rfl⟩
theorem row25 : RowOk 25 ti25 := ⟨_, _, _, rfl, rfl, rfl, rfl, rfl, rfl, rfl⟩
theorem row27 : RowOk 27 ti27 := ⟨_, _, _, rfl, rfl, rfl, rfl, rfl, rfl, ⟨_, rfl, rfl⟩⟩
theorem row28 : RowOk 28 ti28 := ⟨_, _, _, rfl, rfl, rfl, rfl, rfl, rfl, rfl⟩
theorem row30 : RowOk 30 ti30 := ⟨_, _, _, rfl, rfl, rfl, rfl, rfl, rfl, ⟨_, rfl, rfl⟩⟩
theorem row31 : RowOk 31 ti31 := ⟨_, _, _, rfl, rfl, rfl, rfl, rfl, rfl, rfl⟩
theorem row33 : RowOk 33 ti33 := ⟨_, _, _, rfl, rfl, rfl, rfl, rfl, rfl, ⟨_, rfl, rfl⟩⟩
theorem row37 : RowOk 37 ti37 := ⟨_, _, _, rfl, rfl, rfl, rfl, rfl, rfl, rfl⟩
theorem row38 : RowOk 38 ti38 := ⟨_, _, _, rfl, rfl, rfl, rfl, rfl, rfl, rfl⟩
theorem row39 : RowOk 39 ti39 := ⟨_, _, _, rfl, rfl, rfl, rfl, rfl, rfl, rfl⟩
theorem row41 : RowOk 41 ti41 := ⟨_, _, _, rfl, rfl, rfl, rfl, rfl, rfl, ⟨_, rfl, rfl⟩⟩
theorem row43 : RowOk 43 ti43 := ⟨_, _, _, rfl, rfl, rfl, rfl, rfl, rfl, rfl⟩
theorem row44 : RowOk 44 ti44 := ⟨_, _, _, rfl, rfl, rfl, rfl, rfl, rfl, ⟨_, rfl, rfl⟩⟩
theorem row45 : RowOk 45 ti45 := ⟨_, _, _, rfl, rfl, rfl, rfl, rfl, rfl, rfl⟩
theorem row47 : RowOk 47 ti47 := ⟨_, _, _, rfl, rfl, rfl, rfl, rfl, rfl, ⟨_, rfl, rfl⟩⟩
theorem row53 : RowOk 53 ti53 := ⟨_, _, _, rfl, rfl, rfl, rfl, rfl, rfl, rfl⟩
theorem row54 : RowOk 54 ti54 := ⟨_, _, _, rfl, rfl, rfl, rfl, rfl, rfl, rfl⟩
theorem row56 : RowOk 56 ti56 := ⟨_, _, _, rfl, rfl, rfl, rfl, rfl, rfl, ⟨_, rfl, rfl⟩⟩
theorem row59 : RowOk 59 ti59 := ⟨_, _, _, rfl, rfl, rfl, rfl, rfl, rfl, rfl⟩
theorem row60 : RowOk 60 ti60 := ⟨_, _, _, rfl, rfl, rfl, rfl, rfl, rfl, rfl⟩
theorem row62 : RowOk 62 ti62 := ⟨_, _, _, rfl, rfl, rfl, rfl, rfl, rfl, ⟨_, rfl, rfl⟩⟩
theorem row84 : RowOk 84 ti84 := ⟨_, _, _, rfl, rfl, rfl, rfl, rfl, rfl, rfl⟩
theorem row86 : RowOk 86 ti86 := ⟨_, _, _, rfl, rfl, rfl, rfl, rfl, rfl, ⟨_, rfl, rfl⟩⟩
theorem row105 : RowOk 105 ti105 := ⟨_, _, _, rfl, rfl, rfl, rfl, rfl, rfl, rfl⟩
theorem row106 : RowOk 106 ti106 := ⟨_, _, _, rfl, rfl, rfl, rfl, rfl, rfl, rfl⟩
theorem row108 : RowOk 108 ti108 := ⟨_, _, _, rfl, rfl, rfl, rfl, rfl, rfl, ⟨_, rfl, rfl⟩⟩
theorem row110 : RowOk 110 ti110 := ⟨_, _, _, rfl, rfl, rfl, rfl, rfl, rfl, ⟨_, rfl, rfl⟩⟩
theorem row112 : RowOk 112 ti112 := ⟨_, _, _, rfl, rfl, rfl, rfl, rfl, rfl, rfl⟩
theorem row114 : RowOk 114 ti114 := ⟨_, _, _, rfl, rfl, rfl, rfl, rfl, rfl, ⟨_, rfl, rfl⟩⟩
theorem row118 : RowOk 118 ti118 := ⟨_, _, _, rfl, rfl, rfl, rfl, rfl, rfl, rfl⟩
theorem row121 : RowOk 121 ti121 := ⟨_, _, _, rfl, rfl, rfl, rfl, rfl, rfl, ⟨_, rfl, rfl⟩⟩
theorem row131 : RowOk 131 ti131 := ⟨_, _, _, rfl, rfl, rfl, rfl, rfl, rfl, rfl⟩
theorem row133 : RowOk 133 ti133 := ⟨_, _, _, rfl, rfl, rfl, rfl, rfl, rfl, ⟨_, rfl, rfl⟩⟩
theorem row142 : RowOk 142 ti142 := ⟨_, _, _, rfl, rfl, rfl, rfl, rfl, rfl, rfl⟩
theorem row144 : RowOk 144 ti144 := ⟨_, _, _, rfl, rfl, rfl, rfl, rfl, rfl, ⟨_, rfl, rfl⟩⟩
theorem row146 : RowOk 146 ti146 := ⟨_, _, _, rfl, rfl, rfl, rfl, rfl, rfl, rfl⟩
theorem row147 : RowOk 147 ti147 := ⟨_, _, _, rfl, rfl, rfl, rfl, rfl, rfl, rfl⟩
theorem row149 : RowOk 149 ti149 := ⟨_, _, _, rfl, rfl, rfl, rfl, rfl, rfl, ⟨_, rfl, rfl⟩⟩
theorem row151 : RowOk 151 ti151 := ⟨_, _, _, rfl, rfl, rfl, rfl, rfl, rfl, rfl⟩
theorem row153 : RowOk 153 ti153 := ⟨_, _, _, rfl, rfl, rfl, rfl, rfl, rfl, ⟨_, rfl, rfl⟩⟩
theorem row155 : RowOk 155 ti155 := ⟨_, _, _, rfl, rfl, rfl, rfl, rfl, rfl, ⟨_, rfl, rfl⟩⟩
theorem row158 : RowOk 158 ti158 := ⟨_, _, _, rfl, rfl, rfl, rfl, rfl, rfl, ⟨_, rfl, rfl⟩⟩
theorem row161 : RowOk 161 ti161 := ⟨_, _, _, rfl, rfl, rfl, rfl, rfl, rfl, ⟨_, rfl, rfl⟩⟩
theorem row164 : RowOk 164 ti164 := ⟨_, _, _, rfl, rfl, rfl, rfl, rfl, rfl, rfl⟩
theorem row166 : RowOk 166 ti166 := ⟨_, _, _, rfl, rfl, rfl, rfl, rfl, rfl, ⟨_, rfl, rfl⟩⟩
theorem row168 : RowOk 168 ti168 := ⟨_, _, _, rfl, rfl, rfl, rfl, rfl, rfl, ⟨_, rfl, rfl⟩⟩
theorem row171 : RowOk 171 ti171 := ⟨_, _, _, rfl, rfl, rfl, rfl, rfl, rfl, ⟨_, rfl, rfl⟩⟩
theorem row172 : RowOk 172 ti172 := ⟨_, _, _, rfl, rfl, rfl, rfl, rfl, rfl, rfl⟩
theorem row174 : RowOk 174 ti174 := ⟨_, _, _, rfl, rfl, rfl, rfl, rfl, rfl, ⟨_, rfl, rfl⟩⟩
theorem row177 : RowOk 177 ti177 := ⟨_, _, _, rfl, rfl, rfl, rfl, rfl, rfl, ⟨_, rfl, rfl⟩⟩
theorem row186 : RowOk 186 ti186 := ⟨_, _, _, rfl, rfl, rfl, rfl, rfl, rfl, trivial⟩
theorem row196 : RowOk 196 ti196 := ⟨_, _, _, rfl, rfl, rfl, rfl, rfl, rfl, rfl⟩
theorem row198 : RowOk 198 ti198 := ⟨_, _, _, rfl, rfl, rfl, rfl, rfl, rfl, ⟨_, rfl, rfl⟩⟩
theorem row200 : RowOk 200 ti200 := ⟨_, _, _, rfl, rfl, rfl, rfl, rfl, rfl, ⟨_, rfl, rfl⟩⟩
theorem row203 : RowOk 203 ti203 := ⟨_, _, _, rfl, rfl, rfl, rfl, rfl, rfl, ⟨_, rfl, rfl⟩⟩
theorem row208 : RowOk 208 ti208 := ⟨_, _, _, rfl, rfl, rfl, rfl, rfl, rfl, ⟨_, rfl, rfl⟩⟩
theorem row210 : RowOk 210 ti210 := ⟨_, _, _, rfl, rfl, rfl, rfl, rfl, rfl, ⟨_, rfl, rfl⟩⟩
theorem row223 : RowOk 223 ti223 := ⟨_, _, _, rfl, rfl, rfl, rfl, rfl, rfl, ⟨_, rfl, rfl⟩⟩
theorem row225 : RowOk 225 ti225 := ⟨_, _, _, rfl, rfl, rfl, rfl, rfl, rfl, ⟨_, rfl, rfl⟩⟩
theorem row235 : RowOk 235 ti235 := ⟨_, _, _, rfl, rfl, rfl, rfl, rfl, rfl, rfl⟩
theorem row265 : RowOk 265 ti265 := ⟨_, _, _, rfl, rfl, rfl, rfl, rfl, rfl, ⟨_, rfl, rfl⟩⟩
theorem row275 : RowOk 275 ti275 := ⟨_, _, _, rfl, rfl, rfl, rfl, rfl, rfl, trivial⟩
theorem row280 : RowOk 280 ti280 := ⟨_, _, _, rfl, rfl, rfl, rfl, rfl, rfl, trivial⟩
theorem row286 : RowOk 286 ti286 := ⟨_, _, _, rfl, rfl, rfl, rfl, rfl, rfl, ⟨_, rfl, rfl⟩⟩
theorem row288 : RowOk 288 ti288 := ⟨_, _, _, rfl, rfl, rfl, rfl, rfl, rfl, ⟨_, rfl, rfl⟩⟩
theorem row300 : RowOk 300 ti300 := ⟨_, _, _, rfl, rfl, rfl, rfl, rfl, rfl, trivial⟩
theorem row309 : RowOk 309 ti309 := ⟨_, _, _, rfl, rfl, rfl, rfl, rfl, rfl, ⟨_, rfl, rfl⟩⟩
theorem row314 : RowOk 314 ti314 := ⟨_, _, _, rfl, rfl, rfl, rfl, rfl, rfl, ⟨_, rfl⟩⟩
theorem row320 : RowOk 320 ti320 := ⟨_, _, _, rfl, rfl, rfl, rfl, rfl, rfl, ⟨_, rfl, rfl⟩⟩
theorem tt_ok : ∀ t i, tt t = some i → RowOk t i := by
  intro t i h
  unfold tt at h
  split at h
  · injection h with h; subst h; exact row3
  · injection h with h; subst h; exact row4
  · injection h with h; subst h; exact row5
  · injection h with h; subst h; exact row9
  · injection h with h; subst h; exact row12
  · injection h with h; subst h; exact row13
  · injection h with h; subst h; exact row22
  · injection h with h; subst h; exact row23
  · injection h with h; subst h; exact row24
  · injection h with h; subst h; exact row25
  · injection h with h; subst h; exact row27
  · injection h with h; subst h; exact row28
  · injection h with h; subst h; exact row30
  · injection h with h; subst h; exact row31
  · injection h with h; subst h; exact row33
  · injection h with h; subst h; exact row37
  · injection h with h; subst h; exact row38
  · injection h with h; subst h; exact row39
  · injection h with h; subst h; exact row41
  · injection h with h; subst h; exact row43
  · injection h with h; subst h; exact row44
  · injection h with h; subst h; exact row45
  · injection h with h; subst h; exact row47
  · injection h with h; subst h; exact row53
  · injection h with h; subst h; exact row54
  · injection h with h; subst h; exact row56
  · injection h with h; subst h; exact row59
  · injection h with h; subst h; exact row60
  · injection h with h; subst h; exact row62
  · injection h with h; subst h; exact row84
  · injection h with h; subst h; exact row86
  · injection h with h; subst h; exact row105
  · injection h with h; subst h; exact row106
  · injection h with h; subst h; exact row108
  · injection h with h; subst h; exact row110
  · injection h with h; subst h; exact row112
  · injection h with h; subst h; exact row114
  · injection h with h; subst h; exact row118
  · injection h with h; subst h; exact row121
  · injection h with h; subst h; exact row131
  · injection h with h; subst h; exact row133
  · injection h with h; subst h; exact row142
  · injection h with h; subst h; exact row144
  · injection h with h; subst h; exact row146
  · injection h with h; subst h; exact row147
  · injection h with h; subst h; exact row149
  · injection h with h; subst h; exact row151
  · injection h with h; subst h; exact row153
  · injection h with h; subst h; exact row155
  · injection h with h; subst h; exact row158
  · injection h with h; subst h; exact row161
  · injection h with h; subst h; exact row164
  · injection h with h; subst h; exact row166
  · injection h with h; subst h; exact row168
  · injection h with h; subst h; exact row171
  · injection h with h; subst h; exact row172
  · injection h with h; subst h; exact row174
  · injection h with h; subst h; exact row177
  · injection h with h; subst h; exact row186
  · injection h with h; subst h; exact row196
  · injection h with h; subst h; exact row198
  · injection h with h; subst h; exact row200
  · injection h with h; subst h; exact row203
  · injection h with h; subst h; exact row208
  · injection h with h; subst h; exact row210
  · injection h with h; subst h; exact row223
  · injection h with h; subst h; exact row225
  · injection h with h; subst h; exact row235
  · injection h with h; subst h; exact row265
  · injection h with h; subst h; exact row275
  · injection h with h; subst h; exact row280
  · injection h with h; subst h; exact row286
  · injection h with h; subst h; exact row288
  · injection h with h; subst h; exact row300
  · injection h with h; subst h; exact row309
  · injection h with h; subst h; exact row314
  · injection h with h; subst h; exact row320
  · simp at h
theorem eqV_iis {xs ys : List Value} {b : Bool} (h : eqV [.i, .i, .s] xs ys = some b) : ∃ a1 a2 a3 b1 b2 b3, xs = [.int .i64 a1, .int .i64 a2, .string a3] ∧ ys = [.int .i64 b1, .int .i64 b2, .string b3] ∧ b = (a1 == b1 && (a2 == b2 && (a3.toList == b3.toList && true))) := by
  unfold eqV at h
  split at h <;> (try (simp at h; done)) <;> rename_i hk <;> (try (simp at hk; done))
  rename_i x1 xs1 y1 ys1
  simp only [List.cons.injEq] at hk
  obtain ⟨_, rfl⟩ := hk
  simp only [Option.map_eq_some_iff] at h
  obtain ⟨r1, h, rfl⟩ := h
  unfold eqV at h
  split at h <;> (try (simp at h; done)) <;> rename_i hk <;> (try (simp at hk; done))
  rename_i x2 xs2 y2 ys2
  simp only [List.cons.injEq] at hk
  obtain ⟨_, rfl⟩ := hk
  simp only [Option.map_eq_some_iff] at h
  obtain ⟨r2, h, rfl⟩ := h
  unfold eqV at h
  split at h <;> (try (simp at h; done)) <;> rename_i hk <;> (try (simp at hk; done))
  rename_i x3 xs3 y3 ys3
  simp only [List.cons.injEq] at hk
  obtain ⟨_, rfl⟩ := hk
  simp only [Option.map_eq_some_iff] at h
  obtain ⟨r3, h, rfl⟩ := h
  unfold eqV at h
  split at h <;> (try (simp at h; done)) <;> (try (rename_i hk; simp at hk; done))
  injection h with h
  subst h
  exact ⟨x1, x2, x3, y1, y2, y3, rfl, rfl, rfl⟩
theorem eq_row (t : Nat) (h : t = 44 ∨ t = 30) : PP.eqGuardType PP.depth t = false ∧ ∀ (w : World) (xs ys : List Value) (b : Bool), eqV [.i, .i, .s] xs ys = some b → (Op.equal t (.agg xs.toArray) (.agg ys.toArray)).run PP w = .ok b w := by
  refine ⟨by rcases h with rfl | rfl <;> kernel_rfl, fun w xs ys b hb => ?_⟩
  obtain ⟨a1, a2, a3, b1, b2, b3, rfl, rfl, rfl⟩ := eqV_iis hb
  have key : ∀ t, PP.underlying t = some (.struct (PP.fieldsOf t)) → PP.stoodInHeld t = false → (PP.fieldsOf t) = (PP.fieldsOf 44) → (Op.equal t (.agg [Value.int .i64 a1, .int .i64 a2, .string a3].toArray) (.agg [Value.int .i64 b1, .int .i64 b2, .string b3].toArray)).run PP w = .ok (a1 == b1 && (a2 == b2 && (a3.toList == b3.toList && true))) w := by
    intro t h1 h2 h3
    simp only [Op.equal, Op.maxDepth]
    rw [run_equalIn_agg w _ t _ _ h1 h2, h3]
    have hf : (PP.fieldsOf 44).toList = [{ name := "Kind", type := 3, offset := 0, embedded := false, tag := "", pkgPath := "", byteOffset := 0 }, { name := "N", type := 3, offset := 1, embedded := false, tag := "", pkgPath := "", byteOffset := 8 }, { name := "S", type := 9, offset := 2, embedded := false, tag := "", pkgPath := "", byteOffset := 16 }] := rfl
    rw [hf]
    have u3 : PP.underlying 3 = some (.int .i64) := rfl
    have u9 : PP.underlying 9 = some .string := rfl
    simp [Op.eqFields, part, isAgg, run_underlying u3, run_underlying u9, run_equalIn_int _ _ _ _ _ _ _ u3, run_equalIn_string _ _ _ _ _ u9]
    by_cases e1 : a1 = b1 <;> by_cases e2 : a2 = b2 <;> by_cases e3 : a3.toList = b3.toList <;> simp [e1, e2, e3]
  rcases h with rfl | rfl
  · exact key 44 rfl (by kernel_rfl) rfl
  · exact key 30 rfl (by kernel_rfl) rfl
theorem tok : TOk PP tt where
  ok := tt_ok
  mixed := by kernel_rfl
  eq := by
    intro t i h hne
    unfold tt at h
    split at h
    · injection h with h; subst h; exact absurd rfl hne
    · injection h with h; subst h; exact absurd rfl hne
    · injection h with h; subst h; exact absurd rfl hne
    · injection h with h; subst h; exact absurd rfl hne
    · injection h with h; subst h; exact absurd rfl hne
    · injection h with h; subst h; exact absurd rfl hne
    · injection h with h; subst h; exact absurd rfl hne
    · injection h with h; subst h; exact absurd rfl hne
    · injection h with h; subst h; exact absurd rfl hne
    · injection h with h; subst h; exact absurd rfl hne
    · injection h with h; subst h; exact absurd rfl hne
    · injection h with h; subst h; exact absurd rfl hne
    · injection h with h; subst h; exact eq_row _ (by simp)
    · injection h with h; subst h; exact absurd rfl hne
    · injection h with h; subst h; exact absurd rfl hne
    · injection h with h; subst h; exact absurd rfl hne
    · injection h with h; subst h; exact absurd rfl hne
    · injection h with h; subst h; exact absurd rfl hne
    · injection h with h; subst h; exact absurd rfl hne
    · injection h with h; subst h; exact absurd rfl hne
    · injection h with h; subst h; exact eq_row _ (by simp)
    · injection h with h; subst h; exact absurd rfl hne
    · injection h with h; subst h; exact absurd rfl hne
    · injection h with h; subst h; exact absurd rfl hne
    · injection h with h; subst h; exact absurd rfl hne
    · injection h with h; subst h; exact absurd rfl hne
    · injection h with h; subst h; exact absurd rfl hne
    · injection h with h; subst h; exact absurd rfl hne
    · injection h with h; subst h; exact absurd rfl hne
    · injection h with h; subst h; exact absurd rfl hne
    · injection h with h; subst h; exact absurd rfl hne
    · injection h with h; subst h; exact absurd rfl hne
    · injection h with h; subst h; exact absurd rfl hne
    · injection h with h; subst h; exact absurd rfl hne
    · injection h with h; subst h; exact absurd rfl hne
    · injection h with h; subst h; exact absurd rfl hne
    · injection h with h; subst h; exact absurd rfl hne
    · injection h with h; subst h; exact absurd rfl hne
    · injection h with h; subst h; exact absurd rfl hne
    · injection h with h; subst h; exact absurd rfl hne
    · injection h with h; subst h; exact absurd rfl hne
    · injection h with h; subst h; exact absurd rfl hne
    · injection h with h; subst h; exact absurd rfl hne
    · injection h with h; subst h; exact absurd rfl hne
    · injection h with h; subst h; exact absurd rfl hne
    · injection h with h; subst h; exact absurd rfl hne
    · injection h with h; subst h; exact absurd rfl hne
    · injection h with h; subst h; exact absurd rfl hne
    · injection h with h; subst h; exact absurd rfl hne
    · injection h with h; subst h; exact absurd rfl hne
    · injection h with h; subst h; exact absurd rfl hne
    · injection h with h; subst h; exact absurd rfl hne
    · injection h with h; subst h; exact absurd rfl hne
    · injection h with h; subst h; exact absurd rfl hne
    · injection h with h; subst h; exact absurd rfl hne
    · injection h with h; subst h; exact absurd rfl hne
    · injection h with h; subst h; exact absurd rfl hne
    · injection h with h; subst h; exact absurd rfl hne
    · injection h with h; subst h; exact absurd rfl hne
    · injection h with h; subst h; exact absurd rfl hne
    · injection h with h; subst h; exact absurd rfl hne
    · injection h with h; subst h; exact absurd rfl hne
    · injection h with h; subst h; exact absurd rfl hne
    · injection h with h; subst h; exact absurd rfl hne
    · injection h with h; subst h; exact absurd rfl hne
    · injection h with h; subst h; exact absurd rfl hne
    · injection h with h; subst h; exact absurd rfl hne
    · injection h with h; subst h; exact absurd rfl hne
    · injection h with h; subst h; exact absurd rfl hne
    · injection h with h; subst h; exact absurd rfl hne
    · injection h with h; subst h; exact absurd rfl hne
    · injection h with h; subst h; exact absurd rfl hne
    · injection h with h; subst h; exact absurd rfl hne
    · injection h with h; subst h; exact absurd rfl hne
    · injection h with h; subst h; exact absurd rfl hne
    · injection h with h; subst h; exact absurd rfl hne
    · injection h with h; subst h; exact absurd rfl hne
    · simp at h
@[simp] theorem tt_3 : tt 3 = some ti3 := rfl
@[simp] theorem ti3_size : ti3.size = 1 := rfl
@[simp] theorem ti3_bytes : ti3.bytes = 8 := rfl
@[simp] theorem ti3_kind : ti3.kind = .int .i64 := rfl
@[simp] theorem ti3_agg : ti3.kind.agg = false := rfl
@[simp] theorem ti3_zero : ti3.zero = [.int .i64 0] := rfl
@[simp] theorem ti3_eqk : ti3.eqk = [] := rfl
@[simp] theorem kd_3 : kd tt 3 = some (.int .i64) := rfl
@[simp] theorem tt_4 : tt 4 = some ti4 := rfl
@[simp] theorem ti4_size : ti4.size = 1 := rfl
@[simp] theorem ti4_bytes : ti4.bytes = 1 := rfl
@[simp] theorem ti4_kind : ti4.kind = .bool := rfl
@[simp] theorem ti4_agg : ti4.kind.agg = false := rfl
@[simp] theorem ti4_zero : ti4.zero = [.bool false] := rfl
@[simp] theorem ti4_eqk : ti4.eqk = [] := rfl
@[simp] theorem kd_4 : kd tt 4 = some (.bool) := rfl
@[simp] theorem tt_5 : tt 5 = some ti5 := rfl
@[simp] theorem ti5_size : ti5.size = 1 := rfl
@[simp] theorem ti5_bytes : ti5.bytes = 1 := rfl
@[simp] theorem ti5_kind : ti5.kind = .int .u8 := rfl
@[simp] theorem ti5_agg : ti5.kind.agg = false := rfl
@[simp] theorem ti5_zero : ti5.zero = [.int .u8 0] := rfl
@[simp] theorem ti5_eqk : ti5.eqk = [] := rfl
@[simp] theorem kd_5 : kd tt 5 = some (.int .u8) := rfl
@[simp] theorem tt_9 : tt 9 = some ti9 := rfl
@[simp] theorem ti9_size : ti9.size = 1 := rfl
@[simp] theorem ti9_bytes : ti9.bytes = 16 := rfl
@[simp] theorem ti9_kind : ti9.kind = .str := rfl
@[simp] theorem ti9_agg : ti9.kind.agg = false := rfl
@[simp] theorem ti9_zero : ti9.zero = [.string ⟨#[]⟩] := rfl
@[simp] theorem ti9_eqk : ti9.eqk = [] := rfl
@[simp] theorem kd_9 : kd tt 9 = some (.str) := rfl
@[simp] theorem tt_12 : tt 12 = some ti12 := rfl
@[simp] theorem ti12_size : ti12.size = 1 := rfl
@[simp] theorem ti12_bytes : ti12.bytes = 8 := rfl
@[simp] theorem ti12_kind : ti12.kind = .int .u64 := rfl
@[simp] theorem ti12_agg : ti12.kind.agg = false := rfl
@[simp] theorem ti12_zero : ti12.zero = [.int .u64 0] := rfl
@[simp] theorem ti12_eqk : ti12.eqk = [] := rfl
@[simp] theorem kd_12 : kd tt 12 = some (.int .u64) := rfl
@[simp] theorem tt_13 : tt 13 = some ti13 := rfl
@[simp] theorem ti13_size : ti13.size = 2 := rfl
@[simp] theorem ti13_bytes : ti13.bytes = 24 := rfl
@[simp] theorem ti13_kind : ti13.kind = .struct [(0, 9), (1, 12)] := rfl
@[simp] theorem ti13_agg : ti13.kind.agg = true := rfl
@[simp] theorem ti13_zero : ti13.zero = [.string ⟨#[]⟩, .int .u64 0] := rfl
@[simp] theorem ti13_eqk : ti13.eqk = [] := rfl
@[simp] theorem kd_13 : kd tt 13 = some (.struct [(0, 9), (1, 12)]) := rfl
@[simp] theorem fieldT_13_0 : fieldT tt 13 0 = some (0, ti9) := rfl
@[simp] theorem fieldT_13_1 : fieldT tt 13 1 = some (1, ti12) := rfl
@[simp] theorem tt_22 : tt 22 = some ti22 := rfl
@[simp] theorem ti22_size : ti22.size = 1 := rfl
@[simp] theorem ti22_bytes : ti22.bytes = 24 := rfl
@[simp] theorem ti22_kind : ti22.kind = .slice 144 := rfl
@[simp] theorem ti22_agg : ti22.kind.agg = false := rfl
@[simp] theorem ti22_zero : ti22.zero = [.slice none 0 0] := rfl
@[simp] theorem ti22_eqk : ti22.eqk = [] := rfl
@[simp] theorem kd_22 : kd tt 22 = some (.slice 144) := rfl
@[simp] theorem elemT_22 : elemT tt 22 = some (144, ti144) := rfl
@[simp] theorem tt_23 : tt 23 = some ti23 := rfl
@[simp] theorem ti23_size : ti23.size = 1 := rfl
@[simp] theorem ti23_bytes : ti23.bytes = 24 := rfl
@[simp] theorem ti23_kind : ti23.kind = .slice 149 := rfl
@[simp] theorem ti23_agg : ti23.kind.agg = false := rfl
@[simp] theorem ti23_zero : ti23.zero = [.slice none 0 0] := rfl
@[simp] theorem ti23_eqk : ti23.eqk = [] := rfl
@[simp] theorem kd_23 : kd tt 23 = some (.slice 149) := rfl
@[simp] theorem elemT_23 : elemT tt 23 = some (149, ti149) := rfl
@[simp] theorem tt_24 : tt 24 = some ti24 := rfl
@[simp] theorem ti24_size : ti24.size = 1 := rfl
@[simp] theorem ti24_bytes : ti24.bytes = 24 := rfl
@[simp] theorem ti24_kind : ti24.kind = .slice 155 := rfl
@[simp] theorem ti24_agg : ti24.kind.agg = false := rfl
@[simp] theorem ti24_zero : ti24.zero = [.slice none 0 0] := rfl
@[simp] theorem ti24_eqk : ti24.eqk = [] := rfl
@[simp] theorem kd_24 : kd tt 24 = some (.slice 155) := rfl
@[simp] theorem elemT_24 : elemT tt 24 = some (155, ti155) := rfl
@[simp] theorem tt_25 : tt 25 = some ti25 := rfl
@[simp] theorem ti25_size : ti25.size = 1 := rfl
@[simp] theorem ti25_bytes : ti25.bytes = 24 := rfl
@[simp] theorem ti25_kind : ti25.kind = .slice 9 := rfl
@[simp] theorem ti25_agg : ti25.kind.agg = false := rfl
@[simp] theorem ti25_zero : ti25.zero = [.slice none 0 0] := rfl
@[simp] theorem ti25_eqk : ti25.eqk = [] := rfl
@[simp] theorem kd_25 : kd tt 25 = some (.slice 9) := rfl
@[simp] theorem elemT_25 : elemT tt 25 = some (9, ti9) := rfl
@[simp] theorem tt_27 : tt 27 = some ti27 := rfl
@[simp] theorem ti27_size : ti27.size = 4 := rfl
@[simp] theorem ti27_bytes : ti27.bytes = 96 := rfl
@[simp] theorem ti27_kind : ti27.kind = .struct [(0, 22), (1, 23), (2, 24), (3, 25)] := rfl
@[simp] theorem ti27_agg : ti27.kind.agg = true := rfl
@[simp] theorem ti27_zero : ti27.zero = [.slice none 0 0, .slice none 0 0, .slice none 0 0, .slice none 0 0] := rfl
@[simp] theorem ti27_eqk : ti27.eqk = [] := rfl
@[simp] theorem kd_27 : kd tt 27 = some (.struct [(0, 22), (1, 23), (2, 24), (3, 25)]) := rfl
@[simp] theorem fieldT_27_0 : fieldT tt 27 0 = some (0, ti22) := rfl
@[simp] theorem fieldT_27_1 : fieldT tt 27 1 = some (1, ti23) := rfl
@[simp] theorem fieldT_27_2 : fieldT tt 27 2 = some (2, ti24) := rfl
@[simp] theorem fieldT_27_3 : fieldT tt 27 3 = some (3, ti25) := rfl
@[simp] theorem tt_28 : tt 28 = some ti28 := rfl
@[simp] theorem ti28_size : ti28.size = 1 := rfl
@[simp] theorem ti28_bytes : ti28.bytes = 24 := rfl
@[simp] theorem ti28_kind : ti28.kind = .slice 158 := rfl
@[simp] theorem ti28_agg : ti28.kind.agg = false := rfl
@[simp] theorem ti28_zero : ti28.zero = [.slice none 0 0] := rfl
@[simp] theorem ti28_eqk : ti28.eqk = [] := rfl
@[simp] theorem kd_28 : kd tt 28 = some (.slice 158) := rfl
@[simp] theorem elemT_28 : elemT tt 28 = some (158, ti158) := rfl
@[simp] theorem tt_30 : tt 30 = some ti30 := rfl
@[simp] theorem ti30_size : ti30.size = 3 := rfl
@[simp] theorem ti30_bytes : ti30.bytes = 32 := rfl
@[simp] theorem ti30_kind : ti30.kind = .struct [(0, 3), (1, 3), (2, 9)] := rfl
@[simp] theorem ti30_agg : ti30.kind.agg = true := rfl
@[simp] theorem ti30_zero : ti30.zero = [.int .i64 0, .int .i64 0, .string ⟨#[]⟩] := rfl
@[simp] theorem ti30_eqk : ti30.eqk = [.i, .i, .s] := rfl
@[simp] theorem kd_30 : kd tt 30 = some (.struct [(0, 3), (1, 3), (2, 9)]) := rfl
@[simp] theorem fieldT_30_0 : fieldT tt 30 0 = some (0, ti3) := rfl
@[simp] theorem fieldT_30_1 : fieldT tt 30 1 = some (1, ti3) := rfl
@[simp] theorem fieldT_30_2 : fieldT tt 30 2 = some (2, ti9) := rfl
@[simp] theorem tt_31 : tt 31 = some ti31 := rfl
@[simp] theorem ti31_size : ti31.size = 1 := rfl
@[simp] theorem ti31_bytes : ti31.bytes = 24 := rfl
@[simp] theorem ti31_kind : ti31.kind = .slice 161 := rfl
@[simp] theorem ti31_agg : ti31.kind.agg = false := rfl
@[simp] theorem ti31_zero : ti31.zero = [.slice none 0 0] := rfl
@[simp] theorem ti31_eqk : ti31.eqk = [] := rfl
@[simp] theorem kd_31 : kd tt 31 = some (.slice 161) := rfl
@[simp] theorem elemT_31 : elemT tt 31 = some (161, ti161) := rfl
@[simp] theorem tt_33 : tt 33 = some ti33 := rfl
@[simp] theorem ti33_size : ti33.size = 9 := rfl
@[simp] theorem ti33_bytes : ti33.bytes = 112 := rfl
@[simp] theorem ti33_kind : ti33.kind = .struct [(0, 3), (1, 3), (2, 3), (3, 28), (4, 30), (7, 31), (8, 3)] := rfl
@[simp] theorem ti33_agg : ti33.kind.agg = true := rfl
@[simp] theorem ti33_zero : ti33.zero = [.int .i64 0, .int .i64 0, .int .i64 0, .slice none 0 0, .int .i64 0, .int .i64 0, .string ⟨#[]⟩, .slice none 0 0, .int .i64 0] := rfl
@[simp] theorem ti33_eqk : ti33.eqk = [] := rfl
@[simp] theorem kd_33 : kd tt 33 = some (.struct [(0, 3), (1, 3), (2, 3), (3, 28), (4, 30), (7, 31), (8, 3)]) := rfl
@[simp] theorem fieldT_33_0 : fieldT tt 33 0 = some (0, ti3) := rfl
@[simp] theorem fieldT_33_1 : fieldT tt 33 1 = some (1, ti3) := rfl
@[simp] theorem fieldT_33_2 : fieldT tt 33 2 = some (2, ti3) := rfl
@[simp] theorem fieldT_33_3 : fieldT tt 33 3 = some (3, ti28) := rfl
@[simp] theorem fieldT_33_4 : fieldT tt 33 4 = some (4, ti30) := rfl
@[simp] theorem fieldT_33_5 : fieldT tt 33 5 = some (7, ti31) := rfl
@[simp] theorem fieldT_33_6 : fieldT tt 33 6 = some (8, ti3) := rfl
@[simp] theorem tt_37 : tt 37 = some ti37 := rfl
@[simp] theorem ti37_size : ti37.size = 1 := rfl
@[simp] theorem ti37_bytes : ti37.bytes = 24 := rfl
@[simp] theorem ti37_kind : ti37.kind = .slice 171 := rfl
@[simp] theorem ti37_agg : ti37.kind.agg = false := rfl
@[simp] theorem ti37_zero : ti37.zero = [.slice none 0 0] := rfl
@[simp] theorem ti37_eqk : ti37.eqk = [] := rfl
@[simp] theorem kd_37 : kd tt 37 = some (.slice 171) := rfl
@[simp] theorem elemT_37 : elemT tt 37 = some (171, ti171) := rfl
@[simp] theorem tt_38 : tt 38 = some ti38 := rfl
@[simp] theorem ti38_size : ti38.size = 1 := rfl
@[simp] theorem ti38_bytes : ti38.bytes = 24 := rfl
@[simp] theorem ti38_kind : ti38.kind = .slice 114 := rfl
@[simp] theorem ti38_agg : ti38.kind.agg = false := rfl
@[simp] theorem ti38_zero : ti38.zero = [.slice none 0 0] := rfl
@[simp] theorem ti38_eqk : ti38.eqk = [] := rfl
@[simp] theorem kd_38 : kd tt 38 = some (.slice 114) := rfl
@[simp] theorem elemT_38 : elemT tt 38 = some (114, ti114) := rfl
@[simp] theorem tt_39 : tt 39 = some ti39 := rfl
@[simp] theorem ti39_size : ti39.size = 1 := rfl
@[simp] theorem ti39_bytes : ti39.bytes = 24 := rfl
@[simp] theorem ti39_kind : ti39.kind = .slice 168 := rfl
@[simp] theorem ti39_agg : ti39.kind.agg = false := rfl
@[simp] theorem ti39_zero : ti39.zero = [.slice none 0 0] := rfl
@[simp] theorem ti39_eqk : ti39.eqk = [] := rfl
@[simp] theorem kd_39 : kd tt 39 = some (.slice 168) := rfl
@[simp] theorem elemT_39 : elemT tt 39 = some (168, ti168) := rfl
@[simp] theorem tt_41 : tt 41 = some ti41 := rfl
@[simp] theorem ti41_size : ti41.size = 4 := rfl
@[simp] theorem ti41_bytes : ti41.bytes = 96 := rfl
@[simp] theorem ti41_kind : ti41.kind = .struct [(0, 37), (1, 38), (2, 39), (3, 25)] := rfl
@[simp] theorem ti41_agg : ti41.kind.agg = true := rfl
@[simp] theorem ti41_zero : ti41.zero = [.slice none 0 0, .slice none 0 0, .slice none 0 0, .slice none 0 0] := rfl
@[simp] theorem ti41_eqk : ti41.eqk = [] := rfl
@[simp] theorem kd_41 : kd tt 41 = some (.struct [(0, 37), (1, 38), (2, 39), (3, 25)]) := rfl
@[simp] theorem fieldT_41_0 : fieldT tt 41 0 = some (0, ti37) := rfl
@[simp] theorem fieldT_41_1 : fieldT tt 41 1 = some (1, ti38) := rfl
@[simp] theorem fieldT_41_2 : fieldT tt 41 2 = some (2, ti39) := rfl
@[simp] theorem fieldT_41_3 : fieldT tt 41 3 = some (3, ti25) := rfl
@[simp] theorem tt_43 : tt 43 = some ti43 := rfl
@[simp] theorem ti43_size : ti43.size = 1 := rfl
@[simp] theorem ti43_bytes : ti43.bytes = 24 := rfl
@[simp] theorem ti43_kind : ti43.kind = .slice 177 := rfl
@[simp] theorem ti43_agg : ti43.kind.agg = false := rfl
@[simp] theorem ti43_zero : ti43.zero = [.slice none 0 0] := rfl
@[simp] theorem ti43_eqk : ti43.eqk = [] := rfl
@[simp] theorem kd_43 : kd tt 43 = some (.slice 177) := rfl
@[simp] theorem elemT_43 : elemT tt 43 = some (177, ti177) := rfl
@[simp] theorem tt_44 : tt 44 = some ti44 := rfl
@[simp] theorem ti44_size : ti44.size = 3 := rfl
@[simp] theorem ti44_bytes : ti44.bytes = 32 := rfl
@[simp] theorem ti44_kind : ti44.kind = .struct [(0, 3), (1, 3), (2, 9)] := rfl
@[simp] theorem ti44_agg : ti44.kind.agg = true := rfl
@[simp] theorem ti44_zero : ti44.zero = [.int .i64 0, .int .i64 0, .string ⟨#[]⟩] := rfl
@[simp] theorem ti44_eqk : ti44.eqk = [.i, .i, .s] := rfl
@[simp] theorem kd_44 : kd tt 44 = some (.struct [(0, 3), (1, 3), (2, 9)]) := rfl
@[simp] theorem fieldT_44_0 : fieldT tt 44 0 = some (0, ti3) := rfl
@[simp] theorem fieldT_44_1 : fieldT tt 44 1 = some (1, ti3) := rfl
@[simp] theorem fieldT_44_2 : fieldT tt 44 2 = some (2, ti9) := rfl
@[simp] theorem tt_45 : tt 45 = some ti45 := rfl
@[simp] theorem ti45_size : ti45.size = 1 := rfl
@[simp] theorem ti45_bytes : ti45.bytes = 24 := rfl
@[simp] theorem ti45_kind : ti45.kind = .slice 86 := rfl
@[simp] theorem ti45_agg : ti45.kind.agg = false := rfl
@[simp] theorem ti45_zero : ti45.zero = [.slice none 0 0] := rfl
@[simp] theorem ti45_eqk : ti45.eqk = [] := rfl
@[simp] theorem kd_45 : kd tt 45 = some (.slice 86) := rfl
@[simp] theorem elemT_45 : elemT tt 45 = some (86, ti86) := rfl
@[simp] theorem tt_47 : tt 47 = some ti47 := rfl
@[simp] theorem ti47_size : ti47.size = 9 := rfl
@[simp] theorem ti47_bytes : ti47.bytes = 112 := rfl
@[simp] theorem ti47_kind : ti47.kind = .struct [(0, 3), (1, 3), (2, 3), (3, 43), (4, 44), (7, 45), (8, 3)] := rfl
@[simp] theorem ti47_agg : ti47.kind.agg = true := rfl
@[simp] theorem ti47_zero : ti47.zero = [.int .i64 0, .int .i64 0, .int .i64 0, .slice none 0 0, .int .i64 0, .int .i64 0, .string ⟨#[]⟩, .slice none 0 0, .int .i64 0] := rfl
@[simp] theorem ti47_eqk : ti47.eqk = [] := rfl
@[simp] theorem kd_47 : kd tt 47 = some (.struct [(0, 3), (1, 3), (2, 3), (3, 43), (4, 44), (7, 45), (8, 3)]) := rfl
@[simp] theorem fieldT_47_0 : fieldT tt 47 0 = some (0, ti3) := rfl
@[simp] theorem fieldT_47_1 : fieldT tt 47 1 = some (1, ti3) := rfl
@[simp] theorem fieldT_47_2 : fieldT tt 47 2 = some (2, ti3) := rfl
@[simp] theorem fieldT_47_3 : fieldT tt 47 3 = some (3, ti43) := rfl
@[simp] theorem fieldT_47_4 : fieldT tt 47 4 = some (4, ti44) := rfl
@[simp] theorem fieldT_47_5 : fieldT tt 47 5 = some (7, ti45) := rfl
@[simp] theorem fieldT_47_6 : fieldT tt 47 6 = some (8, ti3) := rfl
@[simp] theorem tt_53 : tt 53 = some ti53 := rfl
@[simp] theorem ti53_size : ti53.size = 1 := rfl
@[simp] theorem ti53_bytes : ti53.bytes = 24 := rfl
@[simp] theorem ti53_kind : ti53.kind = .slice 200 := rfl
@[simp] theorem ti53_agg : ti53.kind.agg = false := rfl
@[simp] theorem ti53_zero : ti53.zero = [.slice none 0 0] := rfl
@[simp] theorem ti53_eqk : ti53.eqk = [] := rfl
@[simp] theorem kd_53 : kd tt 53 = some (.slice 200) := rfl
@[simp] theorem elemT_53 : elemT tt 53 = some (200, ti200) := rfl
@[simp] theorem tt_54 : tt 54 = some ti54 := rfl
@[simp] theorem ti54_size : ti54.size = 1 := rfl
@[simp] theorem ti54_bytes : ti54.bytes = 24 := rfl
@[simp] theorem ti54_kind : ti54.kind = .slice 203 := rfl
@[simp] theorem ti54_agg : ti54.kind.agg = false := rfl
@[simp] theorem ti54_zero : ti54.zero = [.slice none 0 0] := rfl
@[simp] theorem ti54_eqk : ti54.eqk = [] := rfl
@[simp] theorem kd_54 : kd tt 54 = some (.slice 203) := rfl
@[simp] theorem elemT_54 : elemT tt 54 = some (203, ti203) := rfl
@[simp] theorem tt_56 : tt 56 = some ti56 := rfl
@[simp] theorem ti56_size : ti56.size = 7 := rfl
@[simp] theorem ti56_bytes : ti56.bytes = 152 := rfl
@[simp] theorem ti56_kind : ti56.kind = .struct [(0, 27), (4, 53), (5, 54), (6, 3)] := rfl
@[simp] theorem ti56_agg : ti56.kind.agg = true := rfl
@[simp] theorem ti56_zero : ti56.zero = [.slice none 0 0, .slice none 0 0, .slice none 0 0, .slice none 0 0, .slice none 0 0, .slice none 0 0, .int .i64 0] := rfl
@[simp] theorem ti56_eqk : ti56.eqk = [] := rfl
@[simp] theorem kd_56 : kd tt 56 = some (.struct [(0, 27), (4, 53), (5, 54), (6, 3)]) := rfl
@[simp] theorem fieldT_56_0 : fieldT tt 56 0 = some (0, ti27) := rfl
@[simp] theorem fieldT_56_1 : fieldT tt 56 1 = some (4, ti53) := rfl
@[simp] theorem fieldT_56_2 : fieldT tt 56 2 = some (5, ti54) := rfl
@[simp] theorem fieldT_56_3 : fieldT tt 56 3 = some (6, ti3) := rfl
@[simp] theorem tt_59 : tt 59 = some ti59 := rfl
@[simp] theorem ti59_size : ti59.size = 1 := rfl
@[simp] theorem ti59_bytes : ti59.bytes = 24 := rfl
@[simp] theorem ti59_kind : ti59.kind = .slice 110 := rfl
@[simp] theorem ti59_agg : ti59.kind.agg = false := rfl
@[simp] theorem ti59_zero : ti59.zero = [.slice none 0 0] := rfl
@[simp] theorem ti59_eqk : ti59.eqk = [] := rfl
@[simp] theorem kd_59 : kd tt 59 = some (.slice 110) := rfl
@[simp] theorem elemT_59 : elemT tt 59 = some (110, ti110) := rfl
@[simp] theorem tt_60 : tt 60 = some ti60 := rfl
@[simp] theorem ti60_size : ti60.size = 1 := rfl
@[simp] theorem ti60_bytes : ti60.bytes = 24 := rfl
@[simp] theorem ti60_kind : ti60.kind = .slice 121 := rfl
@[simp] theorem ti60_agg : ti60.kind.agg = false := rfl
@[simp] theorem ti60_zero : ti60.zero = [.slice none 0 0] := rfl
@[simp] theorem ti60_eqk : ti60.eqk = [] := rfl
@[simp] theorem kd_60 : kd tt 60 = some (.slice 121) := rfl
@[simp] theorem elemT_60 : elemT tt 60 = some (121, ti121) := rfl
@[simp] theorem tt_62 : tt 62 = some ti62 := rfl
@[simp] theorem ti62_size : ti62.size = 7 := rfl
@[simp] theorem ti62_bytes : ti62.bytes = 152 := rfl
@[simp] theorem ti62_kind : ti62.kind = .struct [(0, 41), (4, 59), (5, 60), (6, 3)] := rfl
@[simp] theorem ti62_agg : ti62.kind.agg = true := rfl
@[simp] theorem ti62_zero : ti62.zero = [.slice none 0 0, .slice none 0 0, .slice none 0 0, .slice none 0 0, .slice none 0 0, .slice none 0 0, .int .i64 0] := rfl
@[simp] theorem ti62_eqk : ti62.eqk = [] := rfl
@[simp] theorem kd_62 : kd tt 62 = some (.struct [(0, 41), (4, 59), (5, 60), (6, 3)]) := rfl
@[simp] theorem fieldT_62_0 : fieldT tt 62 0 = some (0, ti41) := rfl
@[simp] theorem fieldT_62_1 : fieldT tt 62 1 = some (4, ti59) := rfl
@[simp] theorem fieldT_62_2 : fieldT tt 62 2 = some (5, ti60) := rfl
@[simp] theorem fieldT_62_3 : fieldT tt 62 3 = some (6, ti3) := rfl
@[simp] theorem tt_84 : tt 84 = some ti84 := rfl
@[simp] theorem ti84_size : ti84.size = 1 := rfl
@[simp] theorem ti84_bytes : ti84.bytes = 24 := rfl
@[simp] theorem ti84_kind : ti84.kind = .slice 44 := rfl
@[simp] theorem ti84_agg : ti84.kind.agg = false := rfl
@[simp] theorem ti84_zero : ti84.zero = [.slice none 0 0] := rfl
@[simp] theorem ti84_eqk : ti84.eqk = [] := rfl
@[simp] theorem kd_84 : kd tt 84 = some (.slice 44) := rfl
@[simp] theorem elemT_84 : elemT tt 84 = some (44, ti44) := rfl
@[simp] theorem tt_86 : tt 86 = some ti86 := rfl
@[simp] theorem ti86_size : ti86.size = 4 := rfl
@[simp] theorem ti86_bytes : ti86.bytes = 64 := rfl
@[simp] theorem ti86_kind : ti86.kind = .struct [(0, 3), (1, 3), (2, 84), (3, 43)] := rfl
@[simp] theorem ti86_agg : ti86.kind.agg = true := rfl
@[simp] theorem ti86_zero : ti86.zero = [.int .i64 0, .int .i64 0, .slice none 0 0, .slice none 0 0] := rfl
@[simp] theorem ti86_eqk : ti86.eqk = [] := rfl
@[simp] theorem kd_86 : kd tt 86 = some (.struct [(0, 3), (1, 3), (2, 84), (3, 43)]) := rfl
@[simp] theorem fieldT_86_0 : fieldT tt 86 0 = some (0, ti3) := rfl
@[simp] theorem fieldT_86_1 : fieldT tt 86 1 = some (1, ti3) := rfl
@[simp] theorem fieldT_86_2 : fieldT tt 86 2 = some (2, ti84) := rfl
@[simp] theorem fieldT_86_3 : fieldT tt 86 3 = some (3, ti43) := rfl
@[simp] theorem tt_105 : tt 105 = some ti105 := rfl
@[simp] theorem ti105_size : ti105.size = 1 := rfl
@[simp] theorem ti105_bytes : ti105.bytes = 24 := rfl
@[simp] theorem ti105_kind : ti105.kind = .slice 208 := rfl
@[simp] theorem ti105_agg : ti105.kind.agg = false := rfl
@[simp] theorem ti105_zero : ti105.zero = [.slice none 0 0] := rfl
@[simp] theorem ti105_eqk : ti105.eqk = [] := rfl
@[simp] theorem kd_105 : kd tt 105 = some (.slice 208) := rfl
@[simp] theorem elemT_105 : elemT tt 105 = some (208, ti208) := rfl
@[simp] theorem tt_106 : tt 106 = some ti106 := rfl
@[simp] theorem ti106_size : ti106.size = 1 := rfl
@[simp] theorem ti106_bytes : ti106.bytes = 24 := rfl
@[simp] theorem ti106_kind : ti106.kind = .slice 210 := rfl
@[simp] theorem ti106_agg : ti106.kind.agg = false := rfl
@[simp] theorem ti106_zero : ti106.zero = [.slice none 0 0] := rfl
@[simp] theorem ti106_eqk : ti106.eqk = [] := rfl
@[simp] theorem kd_106 : kd tt 106 = some (.slice 210) := rfl
@[simp] theorem elemT_106 : elemT tt 106 = some (210, ti210) := rfl
@[simp] theorem tt_108 : tt 108 = some ti108 := rfl
@[simp] theorem ti108_size : ti108.size = 6 := rfl
@[simp] theorem ti108_bytes : ti108.bytes = 136 := rfl
@[simp] theorem ti108_kind : ti108.kind = .struct [(0, 9), (1, 25), (2, 25), (3, 105), (4, 106), (5, 106)] := rfl
@[simp] theorem ti108_agg : ti108.kind.agg = true := rfl
@[simp] theorem ti108_zero : ti108.zero = [.string ⟨#[]⟩, .slice none 0 0, .slice none 0 0, .slice none 0 0, .slice none 0 0, .slice none 0 0] := rfl
@[simp] theorem ti108_eqk : ti108.eqk = [] := rfl
@[simp] theorem kd_108 : kd tt 108 = some (.struct [(0, 9), (1, 25), (2, 25), (3, 105), (4, 106), (5, 106)]) := rfl
@[simp] theorem fieldT_108_0 : fieldT tt 108 0 = some (0, ti9) := rfl
@[simp] theorem fieldT_108_1 : fieldT tt 108 1 = some (1, ti25) := rfl
@[simp] theorem fieldT_108_2 : fieldT tt 108 2 = some (2, ti25) := rfl
@[simp] theorem fieldT_108_3 : fieldT tt 108 3 = some (3, ti105) := rfl
@[simp] theorem fieldT_108_4 : fieldT tt 108 4 = some (4, ti106) := rfl
@[simp] theorem fieldT_108_5 : fieldT tt 108 5 = some (5, ti106) := rfl
@[simp] theorem tt_110 : tt 110 = some ti110 := rfl
@[simp] theorem ti110_size : ti110.size = 8 := rfl
@[simp] theorem ti110_bytes : ti110.bytes = 152 := rfl
@[simp] theorem ti110_kind : ti110.kind = .struct [(0, 108), (6, 3), (7, 3)] := rfl
@[simp] theorem ti110_agg : ti110.kind.agg = true := rfl
@[simp] theorem ti110_zero : ti110.zero = [.string ⟨#[]⟩, .slice none 0 0, .slice none 0 0, .slice none 0 0, .slice none 0 0, .slice none 0 0, .int .i64 0, .int .i64 0] := rfl
@[simp] theorem ti110_eqk : ti110.eqk = [] := rfl
@[simp] theorem kd_110 : kd tt 110 = some (.struct [(0, 108), (6, 3), (7, 3)]) := rfl
@[simp] theorem fieldT_110_0 : fieldT tt 110 0 = some (0, ti108) := rfl
@[simp] theorem fieldT_110_1 : fieldT tt 110 1 = some (6, ti3) := rfl
@[simp] theorem fieldT_110_2 : fieldT tt 110 2 = some (7, ti3) := rfl
@[simp] theorem tt_112 : tt 112 = some ti112 := rfl
@[simp] theorem ti112_size : ti112.size = 1 := rfl
@[simp] theorem ti112_bytes : ti112.bytes = 24 := rfl
@[simp] theorem ti112_kind : ti112.kind = .slice 223 := rfl
@[simp] theorem ti112_agg : ti112.kind.agg = false := rfl
@[simp] theorem ti112_zero : ti112.zero = [.slice none 0 0] := rfl
@[simp] theorem ti112_eqk : ti112.eqk = [] := rfl
@[simp] theorem kd_112 : kd tt 112 = some (.slice 223) := rfl
@[simp] theorem elemT_112 : elemT tt 112 = some (223, ti223) := rfl
@[simp] theorem tt_114 : tt 114 = some ti114 := rfl
@[simp] theorem ti114_size : ti114.size = 6 := rfl
@[simp] theorem ti114_bytes : ti114.bytes = 120 := rfl
@[simp] theorem ti114_kind : ti114.kind = .struct [(0, 9), (1, 3), (2, 25), (3, 84), (4, 112), (5, 105)] := rfl
@[simp] theorem ti114_agg : ti114.kind.agg = true := rfl
@[simp] theorem ti114_zero : ti114.zero = [.string ⟨#[]⟩, .int .i64 0, .slice none 0 0, .slice none 0 0, .slice none 0 0, .slice none 0 0] := rfl
@[simp] theorem ti114_eqk : ti114.eqk = [] := rfl
@[simp] theorem kd_114 : kd tt 114 = some (.struct [(0, 9), (1, 3), (2, 25), (3, 84), (4, 112), (5, 105)]) := rfl
@[simp] theorem fieldT_114_0 : fieldT tt 114 0 = some (0, ti9) := rfl
@[simp] theorem fieldT_114_1 : fieldT tt 114 1 = some (1, ti3) := rfl
@[simp] theorem fieldT_114_2 : fieldT tt 114 2 = some (2, ti25) := rfl
@[simp] theorem fieldT_114_3 : fieldT tt 114 3 = some (3, ti84) := rfl
@[simp] theorem fieldT_114_4 : fieldT tt 114 4 = some (4, ti112) := rfl
@[simp] theorem fieldT_114_5 : fieldT tt 114 5 = some (5, ti105) := rfl
@[simp] theorem tt_118 : tt 118 = some ti118 := rfl
@[simp] theorem ti118_size : ti118.size = 1 := rfl
@[simp] theorem ti118_bytes : ti118.bytes = 24 := rfl
@[simp] theorem ti118_kind : ti118.kind = .slice 108 := rfl
@[simp] theorem ti118_agg : ti118.kind.agg = false := rfl
@[simp] theorem ti118_zero : ti118.zero = [.slice none 0 0] := rfl
@[simp] theorem ti118_eqk : ti118.eqk = [] := rfl
@[simp] theorem kd_118 : kd tt 118 = some (.slice 108) := rfl
@[simp] theorem elemT_118 : elemT tt 118 = some (108, ti108) := rfl
@[simp] theorem tt_121 : tt 121 = some ti121 := rfl
@[simp] theorem ti121_size : ti121.size = 10 := rfl
@[simp] theorem ti121_bytes : ti121.bytes = 120 := rfl
@[simp] theorem ti121_kind : ti121.kind = .struct [(0, 3), (1, 47)] := rfl
@[simp] theorem ti121_agg : ti121.kind.agg = true := rfl
@[simp] theorem ti121_zero : ti121.zero = [.int .i64 0, .int .i64 0, .int .i64 0, .int .i64 0, .slice none 0 0, .int .i64 0, .int .i64 0, .string ⟨#[]⟩, .slice none 0 0, .int .i64 0] := rfl
@[simp] theorem ti121_eqk : ti121.eqk = [] := rfl
@[simp] theorem kd_121 : kd tt 121 = some (.struct [(0, 3), (1, 47)]) := rfl
@[simp] theorem fieldT_121_0 : fieldT tt 121 0 = some (0, ti3) := rfl
@[simp] theorem fieldT_121_1 : fieldT tt 121 1 = some (1, ti47) := rfl
@[simp] theorem tt_131 : tt 131 = some ti131 := rfl
@[simp] theorem ti131_size : ti131.size = 1 := rfl
@[simp] theorem ti131_bytes : ti131.bytes = 24 := rfl
@[simp] theorem ti131_kind : ti131.kind = .slice 4 := rfl
@[simp] theorem ti131_agg : ti131.kind.agg = false := rfl
@[simp] theorem ti131_zero : ti131.zero = [.slice none 0 0] := rfl
@[simp] theorem ti131_eqk : ti131.eqk = [] := rfl
@[simp] theorem kd_131 : kd tt 131 = some (.slice 4) := rfl
@[simp] theorem elemT_131 : elemT tt 131 = some (4, ti4) := rfl
@[simp] theorem tt_133 : tt 133 = some ti133 := rfl
@[simp] theorem ti133_size : ti133.size = 3 := rfl
@[simp] theorem ti133_bytes : ti133.bytes = 72 := rfl
@[simp] theorem ti133_kind : ti133.kind = .struct [(0, 131), (1, 131), (2, 131)] := rfl
@[simp] theorem ti133_agg : ti133.kind.agg = true := rfl
@[simp] theorem ti133_zero : ti133.zero = [.slice none 0 0, .slice none 0 0, .slice none 0 0] := rfl
@[simp] theorem ti133_eqk : ti133.eqk = [] := rfl
@[simp] theorem kd_133 : kd tt 133 = some (.struct [(0, 131), (1, 131), (2, 131)]) := rfl
@[simp] theorem fieldT_133_0 : fieldT tt 133 0 = some (0, ti131) := rfl
@[simp] theorem fieldT_133_1 : fieldT tt 133 1 = some (1, ti131) := rfl
@[simp] theorem fieldT_133_2 : fieldT tt 133 2 = some (2, ti131) := rfl
@[simp] theorem tt_142 : tt 142 = some ti142 := rfl
@[simp] theorem ti142_size : ti142.size = 1 := rfl
@[simp] theorem ti142_bytes : ti142.bytes = 24 := rfl
@[simp] theorem ti142_kind : ti142.kind = .slice 30 := rfl
@[simp] theorem ti142_agg : ti142.kind.agg = false := rfl
@[simp] theorem ti142_zero : ti142.zero = [.slice none 0 0] := rfl
@[simp] theorem ti142_eqk : ti142.eqk = [] := rfl
@[simp] theorem kd_142 : kd tt 142 = some (.slice 30) := rfl
@[simp] theorem elemT_142 : elemT tt 142 = some (30, ti30) := rfl
@[simp] theorem tt_144 : tt 144 = some ti144 := rfl
@[simp] theorem ti144_size : ti144.size = 6 := rfl
@[simp] theorem ti144_bytes : ti144.bytes = 88 := rfl
@[simp] theorem ti144_kind : ti144.kind = .struct [(0, 3), (1, 9), (2, 3), (3, 3), (4, 25), (5, 142)] := rfl
@[simp] theorem ti144_agg : ti144.kind.agg = true := rfl
@[simp] theorem ti144_zero : ti144.zero = [.int .i64 0, .string ⟨#[]⟩, .int .i64 0, .int .i64 0, .slice none 0 0, .slice none 0 0] := rfl
@[simp] theorem ti144_eqk : ti144.eqk = [] := rfl
@[simp] theorem kd_144 : kd tt 144 = some (.struct [(0, 3), (1, 9), (2, 3), (3, 3), (4, 25), (5, 142)]) := rfl
@[simp] theorem fieldT_144_0 : fieldT tt 144 0 = some (0, ti3) := rfl
@[simp] theorem fieldT_144_1 : fieldT tt 144 1 = some (1, ti9) := rfl
@[simp] theorem fieldT_144_2 : fieldT tt 144 2 = some (2, ti3) := rfl
@[simp] theorem fieldT_144_3 : fieldT tt 144 3 = some (3, ti3) := rfl
@[simp] theorem fieldT_144_4 : fieldT tt 144 4 = some (4, ti25) := rfl
@[simp] theorem fieldT_144_5 : fieldT tt 144 5 = some (5, ti142) := rfl
@[simp] theorem tt_146 : tt 146 = some ti146 := rfl
@[simp] theorem ti146_size : ti146.size = 1 := rfl
@[simp] theorem ti146_bytes : ti146.bytes = 24 := rfl
@[simp] theorem ti146_kind : ti146.kind = .slice 286 := rfl
@[simp] theorem ti146_agg : ti146.kind.agg = false := rfl
@[simp] theorem ti146_zero : ti146.zero = [.slice none 0 0] := rfl
@[simp] theorem ti146_eqk : ti146.eqk = [] := rfl
@[simp] theorem kd_146 : kd tt 146 = some (.slice 286) := rfl
@[simp] theorem elemT_146 : elemT tt 146 = some (286, ti286) := rfl
@[simp] theorem tt_147 : tt 147 = some ti147 := rfl
@[simp] theorem ti147_size : ti147.size = 1 := rfl
@[simp] theorem ti147_bytes : ti147.bytes = 24 := rfl
@[simp] theorem ti147_kind : ti147.kind = .slice 288 := rfl
@[simp] theorem ti147_agg : ti147.kind.agg = false := rfl
@[simp] theorem ti147_zero : ti147.zero = [.slice none 0 0] := rfl
@[simp] theorem ti147_eqk : ti147.eqk = [] := rfl
@[simp] theorem kd_147 : kd tt 147 = some (.slice 288) := rfl
@[simp] theorem elemT_147 : elemT tt 147 = some (288, ti288) := rfl
@[simp] theorem tt_149 : tt 149 = some ti149 := rfl
@[simp] theorem ti149_size : ti149.size = 6 := rfl
@[simp] theorem ti149_bytes : ti149.bytes = 120 := rfl
@[simp] theorem ti149_kind : ti149.kind = .struct [(0, 9), (1, 3), (2, 25), (3, 142), (4, 146), (5, 147)] := rfl
@[simp] theorem ti149_agg : ti149.kind.agg = true := rfl
@[simp] theorem ti149_zero : ti149.zero = [.string ⟨#[]⟩, .int .i64 0, .slice none 0 0, .slice none 0 0, .slice none 0 0, .slice none 0 0] := rfl
@[simp] theorem ti149_eqk : ti149.eqk = [] := rfl
@[simp] theorem kd_149 : kd tt 149 = some (.struct [(0, 9), (1, 3), (2, 25), (3, 142), (4, 146), (5, 147)]) := rfl
@[simp] theorem fieldT_149_0 : fieldT tt 149 0 = some (0, ti9) := rfl
@[simp] theorem fieldT_149_1 : fieldT tt 149 1 = some (1, ti3) := rfl
@[simp] theorem fieldT_149_2 : fieldT tt 149 2 = some (2, ti25) := rfl
@[simp] theorem fieldT_149_3 : fieldT tt 149 3 = some (3, ti142) := rfl
@[simp] theorem fieldT_149_4 : fieldT tt 149 4 = some (4, ti146) := rfl
@[simp] theorem fieldT_149_5 : fieldT tt 149 5 = some (5, ti147) := rfl
@[simp] theorem tt_151 : tt 151 = some ti151 := rfl
@[simp] theorem ti151_size : ti151.size = 1 := rfl
@[simp] theorem ti151_bytes : ti151.bytes = 24 := rfl
@[simp] theorem ti151_kind : ti151.kind = .slice 309 := rfl
@[simp] theorem ti151_agg : ti151.kind.agg = false := rfl
@[simp] theorem ti151_zero : ti151.zero = [.slice none 0 0] := rfl
@[simp] theorem ti151_eqk : ti151.eqk = [] := rfl
@[simp] theorem kd_151 : kd tt 151 = some (.slice 309) := rfl
@[simp] theorem elemT_151 : elemT tt 151 = some (309, ti309) := rfl
@[simp] theorem tt_153 : tt 153 = some ti153 := rfl
@[simp] theorem ti153_size : ti153.size = 2 := rfl
@[simp] theorem ti153_bytes : ti153.bytes = 32 := rfl
@[simp] theorem ti153_kind : ti153.kind = .struct [(0, 151), (1, 3)] := rfl
@[simp] theorem ti153_agg : ti153.kind.agg = true := rfl
@[simp] theorem ti153_zero : ti153.zero = [.slice none 0 0, .int .i64 0] := rfl
@[simp] theorem ti153_eqk : ti153.eqk = [] := rfl
@[simp] theorem kd_153 : kd tt 153 = some (.struct [(0, 151), (1, 3)]) := rfl
@[simp] theorem fieldT_153_0 : fieldT tt 153 0 = some (0, ti151) := rfl
@[simp] theorem fieldT_153_1 : fieldT tt 153 1 = some (1, ti3) := rfl
@[simp] theorem tt_155 : tt 155 = some ti155 := rfl
@[simp] theorem ti155_size : ti155.size = 3 := rfl
@[simp] theorem ti155_bytes : ti155.bytes = 40 := rfl
@[simp] theorem ti155_kind : ti155.kind = .struct [(0, 3), (1, 153)] := rfl
@[simp] theorem ti155_agg : ti155.kind.agg = true := rfl
@[simp] theorem ti155_zero : ti155.zero = [.int .i64 0, .slice none 0 0, .int .i64 0] := rfl
@[simp] theorem ti155_eqk : ti155.eqk = [] := rfl
@[simp] theorem kd_155 : kd tt 155 = some (.struct [(0, 3), (1, 153)]) := rfl
@[simp] theorem fieldT_155_0 : fieldT tt 155 0 = some (0, ti3) := rfl
@[simp] theorem fieldT_155_1 : fieldT tt 155 1 = some (1, ti153) := rfl
@[simp] theorem tt_158 : tt 158 = some ti158 := rfl
@[simp] theorem ti158_size : ti158.size = 4 := rfl
@[simp] theorem ti158_bytes : ti158.bytes = 48 := rfl
@[simp] theorem ti158_kind : ti158.kind = .struct [(0, 9), (1, 30)] := rfl
@[simp] theorem ti158_agg : ti158.kind.agg = true := rfl
@[simp] theorem ti158_zero : ti158.zero = [.string ⟨#[]⟩, .int .i64 0, .int .i64 0, .string ⟨#[]⟩] := rfl
@[simp] theorem ti158_eqk : ti158.eqk = [] := rfl
@[simp] theorem kd_158 : kd tt 158 = some (.struct [(0, 9), (1, 30)]) := rfl
@[simp] theorem fieldT_158_0 : fieldT tt 158 0 = some (0, ti9) := rfl
@[simp] theorem fieldT_158_1 : fieldT tt 158 1 = some (1, ti30) := rfl
@[simp] theorem tt_161 : tt 161 = some ti161 := rfl
@[simp] theorem ti161_size : ti161.size = 4 := rfl
@[simp] theorem ti161_bytes : ti161.bytes = 64 := rfl
@[simp] theorem ti161_kind : ti161.kind = .struct [(0, 3), (1, 3), (2, 142), (3, 28)] := rfl
@[simp] theorem ti161_agg : ti161.kind.agg = true := rfl
@[simp] theorem ti161_zero : ti161.zero = [.int .i64 0, .int .i64 0, .slice none 0 0, .slice none 0 0] := rfl
@[simp] theorem ti161_eqk : ti161.eqk = [] := rfl
@[simp] theorem kd_161 : kd tt 161 = some (.struct [(0, 3), (1, 3), (2, 142), (3, 28)]) := rfl
@[simp] theorem fieldT_161_0 : fieldT tt 161 0 = some (0, ti3) := rfl
@[simp] theorem fieldT_161_1 : fieldT tt 161 1 = some (1, ti3) := rfl
@[simp] theorem fieldT_161_2 : fieldT tt 161 2 = some (2, ti142) := rfl
@[simp] theorem fieldT_161_3 : fieldT tt 161 3 = some (3, ti28) := rfl
@[simp] theorem tt_164 : tt 164 = some ti164 := rfl
@[simp] theorem ti164_size : ti164.size = 1 := rfl
@[simp] theorem ti164_bytes : ti164.bytes = 24 := rfl
@[simp] theorem ti164_kind : ti164.kind = .slice 174 := rfl
@[simp] theorem ti164_agg : ti164.kind.agg = false := rfl
@[simp] theorem ti164_zero : ti164.zero = [.slice none 0 0] := rfl
@[simp] theorem ti164_eqk : ti164.eqk = [] := rfl
@[simp] theorem kd_164 : kd tt 164 = some (.slice 174) := rfl
@[simp] theorem elemT_164 : elemT tt 164 = some (174, ti174) := rfl
@[simp] theorem tt_166 : tt 166 = some ti166 := rfl
@[simp] theorem ti166_size : ti166.size = 2 := rfl
@[simp] theorem ti166_bytes : ti166.bytes = 32 := rfl
@[simp] theorem ti166_kind : ti166.kind = .struct [(0, 164), (1, 3)] := rfl
@[simp] theorem ti166_agg : ti166.kind.agg = true := rfl
@[simp] theorem ti166_zero : ti166.zero = [.slice none 0 0, .int .i64 0] := rfl
@[simp] theorem ti166_eqk : ti166.eqk = [] := rfl
@[simp] theorem kd_166 : kd tt 166 = some (.struct [(0, 164), (1, 3)]) := rfl
@[simp] theorem fieldT_166_0 : fieldT tt 166 0 = some (0, ti164) := rfl
@[simp] theorem fieldT_166_1 : fieldT tt 166 1 = some (1, ti3) := rfl
@[simp] theorem tt_168 : tt 168 = some ti168 := rfl
@[simp] theorem ti168_size : ti168.size = 3 := rfl
@[simp] theorem ti168_bytes : ti168.bytes = 40 := rfl
@[simp] theorem ti168_kind : ti168.kind = .struct [(0, 3), (1, 166)] := rfl
@[simp] theorem ti168_agg : ti168.kind.agg = true := rfl
@[simp] theorem ti168_zero : ti168.zero = [.int .i64 0, .slice none 0 0, .int .i64 0] := rfl
@[simp] theorem ti168_eqk : ti168.eqk = [] := rfl
@[simp] theorem kd_168 : kd tt 168 = some (.struct [(0, 3), (1, 166)]) := rfl
@[simp] theorem fieldT_168_0 : fieldT tt 168 0 = some (0, ti3) := rfl
@[simp] theorem fieldT_168_1 : fieldT tt 168 1 = some (1, ti166) := rfl
@[simp] theorem tt_171 : tt 171 = some ti171 := rfl
@[simp] theorem ti171_size : ti171.size = 6 := rfl
@[simp] theorem ti171_bytes : ti171.bytes = 88 := rfl
@[simp] theorem ti171_kind : ti171.kind = .struct [(0, 3), (1, 9), (2, 3), (3, 3), (4, 25), (5, 84)] := rfl
@[simp] theorem ti171_agg : ti171.kind.agg = true := rfl
@[simp] theorem ti171_zero : ti171.zero = [.int .i64 0, .string ⟨#[]⟩, .int .i64 0, .int .i64 0, .slice none 0 0, .slice none 0 0] := rfl
@[simp] theorem ti171_eqk : ti171.eqk = [] := rfl
@[simp] theorem kd_171 : kd tt 171 = some (.struct [(0, 3), (1, 9), (2, 3), (3, 3), (4, 25), (5, 84)]) := rfl
@[simp] theorem fieldT_171_0 : fieldT tt 171 0 = some (0, ti3) := rfl
@[simp] theorem fieldT_171_1 : fieldT tt 171 1 = some (1, ti9) := rfl
@[simp] theorem fieldT_171_2 : fieldT tt 171 2 = some (2, ti3) := rfl
@[simp] theorem fieldT_171_3 : fieldT tt 171 3 = some (3, ti3) := rfl
@[simp] theorem fieldT_171_4 : fieldT tt 171 4 = some (4, ti25) := rfl
@[simp] theorem fieldT_171_5 : fieldT tt 171 5 = some (5, ti84) := rfl
@[simp] theorem tt_172 : tt 172 = some ti172 := rfl
@[simp] theorem ti172_size : ti172.size = 1 := rfl
@[simp] theorem ti172_bytes : ti172.bytes = 24 := rfl
@[simp] theorem ti172_kind : ti172.kind = .slice 3 := rfl
@[simp] theorem ti172_agg : ti172.kind.agg = false := rfl
@[simp] theorem ti172_zero : ti172.zero = [.slice none 0 0] := rfl
@[simp] theorem ti172_eqk : ti172.eqk = [] := rfl
@[simp] theorem kd_172 : kd tt 172 = some (.slice 3) := rfl
@[simp] theorem elemT_172 : elemT tt 172 = some (3, ti3) := rfl
@[simp] theorem tt_174 : tt 174 = some ti174 := rfl
@[simp] theorem ti174_size : ti174.size = 5 := rfl
@[simp] theorem ti174_bytes : ti174.bytes = 80 := rfl
@[simp] theorem ti174_kind : ti174.kind = .struct [(0, 3), (1, 3), (2, 9), (3, 25), (4, 172)] := rfl
@[simp] theorem ti174_agg : ti174.kind.agg = true := rfl
@[simp] theorem ti174_zero : ti174.zero = [.int .i64 0, .int .i64 0, .string ⟨#[]⟩, .slice none 0 0, .slice none 0 0] := rfl
@[simp] theorem ti174_eqk : ti174.eqk = [] := rfl
@[simp] theorem kd_174 : kd tt 174 = some (.struct [(0, 3), (1, 3), (2, 9), (3, 25), (4, 172)]) := rfl
@[simp] theorem fieldT_174_0 : fieldT tt 174 0 = some (0, ti3) := rfl
@[simp] theorem fieldT_174_1 : fieldT tt 174 1 = some (1, ti3) := rfl
@[simp] theorem fieldT_174_2 : fieldT tt 174 2 = some (2, ti9) := rfl
@[simp] theorem fieldT_174_3 : fieldT tt 174 3 = some (3, ti25) := rfl
@[simp] theorem fieldT_174_4 : fieldT tt 174 4 = some (4, ti172) := rfl
@[simp] theorem tt_177 : tt 177 = some ti177 := rfl
@[simp] theorem ti177_size : ti177.size = 4 := rfl
@[simp] theorem ti177_bytes : ti177.bytes = 48 := rfl
@[simp] theorem ti177_kind : ti177.kind = .struct [(0, 9), (1, 44)] := rfl
@[simp] theorem ti177_agg : ti177.kind.agg = true := rfl
@[simp] theorem ti177_zero : ti177.zero = [.string ⟨#[]⟩, .int .i64 0, .int .i64 0, .string ⟨#[]⟩] := rfl
@[simp] theorem ti177_eqk : ti177.eqk = [] := rfl
@[simp] theorem kd_177 : kd tt 177 = some (.struct [(0, 9), (1, 44)]) := rfl
@[simp] theorem fieldT_177_0 : fieldT tt 177 0 = some (0, ti9) := rfl
@[simp] theorem fieldT_177_1 : fieldT tt 177 1 = some (1, ti44) := rfl
@[simp] theorem tt_186 : tt 186 = some ti186 := rfl
@[simp] theorem ti186_size : ti186.size = 1 := rfl
@[simp] theorem ti186_bytes : ti186.bytes = 8 := rfl
@[simp] theorem ti186_kind : ti186.kind = .oth := rfl
@[simp] theorem ti186_agg : ti186.kind.agg = false := rfl
@[simp] theorem ti186_zero : ti186.zero = [.pointer none] := rfl
@[simp] theorem ti186_eqk : ti186.eqk = [] := rfl
@[simp] theorem kd_186 : kd tt 186 = some (.oth) := rfl
@[simp] theorem tt_196 : tt 196 = some ti196 := rfl
@[simp] theorem ti196_size : ti196.size = 1 := rfl
@[simp] theorem ti196_bytes : ti196.bytes = 24 := rfl
@[simp] theorem ti196_kind : ti196.kind = .slice 320 := rfl
@[simp] theorem ti196_agg : ti196.kind.agg = false := rfl
@[simp] theorem ti196_zero : ti196.zero = [.slice none 0 0] := rfl
@[simp] theorem ti196_eqk : ti196.eqk = [] := rfl
@[simp] theorem kd_196 : kd tt 196 = some (.slice 320) := rfl
@[simp] theorem elemT_196 : elemT tt 196 = some (320, ti320) := rfl
@[simp] theorem tt_198 : tt 198 = some ti198 := rfl
@[simp] theorem ti198_size : ti198.size = 6 := rfl
@[simp] theorem ti198_bytes : ti198.bytes = 136 := rfl
@[simp] theorem ti198_kind : ti198.kind = .struct [(0, 9), (1, 25), (2, 25), (3, 147), (4, 196), (5, 196)] := rfl
@[simp] theorem ti198_agg : ti198.kind.agg = true := rfl
@[simp] theorem ti198_zero : ti198.zero = [.string ⟨#[]⟩, .slice none 0 0, .slice none 0 0, .slice none 0 0, .slice none 0 0, .slice none 0 0] := rfl
@[simp] theorem ti198_eqk : ti198.eqk = [] := rfl
@[simp] theorem kd_198 : kd tt 198 = some (.struct [(0, 9), (1, 25), (2, 25), (3, 147), (4, 196), (5, 196)]) := rfl
@[simp] theorem fieldT_198_0 : fieldT tt 198 0 = some (0, ti9) := rfl
@[simp] theorem fieldT_198_1 : fieldT tt 198 1 = some (1, ti25) := rfl
@[simp] theorem fieldT_198_2 : fieldT tt 198 2 = some (2, ti25) := rfl
@[simp] theorem fieldT_198_3 : fieldT tt 198 3 = some (3, ti147) := rfl
@[simp] theorem fieldT_198_4 : fieldT tt 198 4 = some (4, ti196) := rfl
@[simp] theorem fieldT_198_5 : fieldT tt 198 5 = some (5, ti196) := rfl
@[simp] theorem tt_200 : tt 200 = some ti200 := rfl
@[simp] theorem ti200_size : ti200.size = 8 := rfl
@[simp] theorem ti200_bytes : ti200.bytes = 152 := rfl
@[simp] theorem ti200_kind : ti200.kind = .struct [(0, 198), (6, 3), (7, 3)] := rfl
@[simp] theorem ti200_agg : ti200.kind.agg = true := rfl
@[simp] theorem ti200_zero : ti200.zero = [.string ⟨#[]⟩, .slice none 0 0, .slice none 0 0, .slice none 0 0, .slice none 0 0, .slice none 0 0, .int .i64 0, .int .i64 0] := rfl
@[simp] theorem ti200_eqk : ti200.eqk = [] := rfl
@[simp] theorem kd_200 : kd tt 200 = some (.struct [(0, 198), (6, 3), (7, 3)]) := rfl
@[simp] theorem fieldT_200_0 : fieldT tt 200 0 = some (0, ti198) := rfl
@[simp] theorem fieldT_200_1 : fieldT tt 200 1 = some (6, ti3) := rfl
@[simp] theorem fieldT_200_2 : fieldT tt 200 2 = some (7, ti3) := rfl
@[simp] theorem tt_203 : tt 203 = some ti203 := rfl
@[simp] theorem ti203_size : ti203.size = 10 := rfl
@[simp] theorem ti203_bytes : ti203.bytes = 120 := rfl
@[simp] theorem ti203_kind : ti203.kind = .struct [(0, 3), (1, 33)] := rfl
@[simp] theorem ti203_agg : ti203.kind.agg = true := rfl
@[simp] theorem ti203_zero : ti203.zero = [.int .i64 0, .int .i64 0, .int .i64 0, .int .i64 0, .slice none 0 0, .int .i64 0, .int .i64 0, .string ⟨#[]⟩, .slice none 0 0, .int .i64 0] := rfl
@[simp] theorem ti203_eqk : ti203.eqk = [] := rfl
@[simp] theorem kd_203 : kd tt 203 = some (.struct [(0, 3), (1, 33)]) := rfl
@[simp] theorem fieldT_203_0 : fieldT tt 203 0 = some (0, ti3) := rfl
@[simp] theorem fieldT_203_1 : fieldT tt 203 1 = some (1, ti33) := rfl
@[simp] theorem tt_208 : tt 208 = some ti208 := rfl
@[simp] theorem ti208_size : ti208.size = 2 := rfl
@[simp] theorem ti208_bytes : ti208.bytes = 24 := rfl
@[simp] theorem ti208_kind : ti208.kind = .struct [(0, 9), (1, 3)] := rfl
@[simp] theorem ti208_agg : ti208.kind.agg = true := rfl
@[simp] theorem ti208_zero : ti208.zero = [.string ⟨#[]⟩, .int .i64 0] := rfl
@[simp] theorem ti208_eqk : ti208.eqk = [] := rfl
@[simp] theorem kd_208 : kd tt 208 = some (.struct [(0, 9), (1, 3)]) := rfl
@[simp] theorem fieldT_208_0 : fieldT tt 208 0 = some (0, ti9) := rfl
@[simp] theorem fieldT_208_1 : fieldT tt 208 1 = some (1, ti3) := rfl
@[simp] theorem tt_210 : tt 210 = some ti210 := rfl
@[simp] theorem ti210_size : ti210.size = 3 := rfl
@[simp] theorem ti210_bytes : ti210.bytes = 48 := rfl
@[simp] theorem ti210_kind : ti210.kind = .struct [(0, 9), (1, 166)] := rfl
@[simp] theorem ti210_agg : ti210.kind.agg = true := rfl
@[simp] theorem ti210_zero : ti210.zero = [.string ⟨#[]⟩, .slice none 0 0, .int .i64 0] := rfl
@[simp] theorem ti210_eqk : ti210.eqk = [] := rfl
@[simp] theorem kd_210 : kd tt 210 = some (.struct [(0, 9), (1, 166)]) := rfl
@[simp] theorem fieldT_210_0 : fieldT tt 210 0 = some (0, ti9) := rfl
@[simp] theorem fieldT_210_1 : fieldT tt 210 1 = some (1, ti166) := rfl
@[simp] theorem tt_223 : tt 223 = some ti223 := rfl
@[simp] theorem ti223_size : ti223.size = 3 := rfl
@[simp] theorem ti223_bytes : ti223.bytes = 40 := rfl
@[simp] theorem ti223_kind : ti223.kind = .struct [(0, 9), (1, 3), (2, 9)] := rfl
@[simp] theorem ti223_agg : ti223.kind.agg = true := rfl
@[simp] theorem ti223_zero : ti223.zero = [.string ⟨#[]⟩, .int .i64 0, .string ⟨#[]⟩] := rfl
@[simp] theorem ti223_eqk : ti223.eqk = [] := rfl
@[simp] theorem kd_223 : kd tt 223 = some (.struct [(0, 9), (1, 3), (2, 9)]) := rfl
@[simp] theorem fieldT_223_0 : fieldT tt 223 0 = some (0, ti9) := rfl
@[simp] theorem fieldT_223_1 : fieldT tt 223 1 = some (1, ti3) := rfl
@[simp] theorem fieldT_223_2 : fieldT tt 223 2 = some (2, ti9) := rfl
@[simp] theorem tt_225 : tt 225 = some ti225 := rfl
@[simp] theorem ti225_size : ti225.size = 7 := rfl
@[simp] theorem ti225_bytes : ti225.bytes = 152 := rfl
@[simp] theorem ti225_kind : ti225.kind = .struct [(0, 186), (1, 133), (4, 172), (5, 172), (6, 172)] := rfl
@[simp] theorem ti225_agg : ti225.kind.agg = true := rfl
@[simp] theorem ti225_zero : ti225.zero = [.pointer none, .slice none 0 0, .slice none 0 0, .slice none 0 0, .slice none 0 0, .slice none 0 0, .slice none 0 0] := rfl
@[simp] theorem ti225_eqk : ti225.eqk = [] := rfl
@[simp] theorem kd_225 : kd tt 225 = some (.struct [(0, 186), (1, 133), (4, 172), (5, 172), (6, 172)]) := rfl
@[simp] theorem fieldT_225_0 : fieldT tt 225 0 = some (0, ti186) := rfl
@[simp] theorem fieldT_225_1 : fieldT tt 225 1 = some (1, ti133) := rfl
@[simp] theorem fieldT_225_2 : fieldT tt 225 2 = some (4, ti172) := rfl
@[simp] theorem fieldT_225_3 : fieldT tt 225 3 = some (5, ti172) := rfl
@[simp] theorem fieldT_225_4 : fieldT tt 225 4 = some (6, ti172) := rfl
@[simp] theorem tt_235 : tt 235 = some ti235 := rfl
@[simp] theorem ti235_size : ti235.size = 1 := rfl
@[simp] theorem ti235_bytes : ti235.bytes = 24 := rfl
@[simp] theorem ti235_kind : ti235.kind = .slice 5 := rfl
@[simp] theorem ti235_agg : ti235.kind.agg = false := rfl
@[simp] theorem ti235_zero : ti235.zero = [.slice none 0 0] := rfl
@[simp] theorem ti235_eqk : ti235.eqk = [] := rfl
@[simp] theorem kd_235 : kd tt 235 = some (.slice 5) := rfl
@[simp] theorem elemT_235 : elemT tt 235 = some (5, ti5) := rfl
@[simp] theorem tt_265 : tt 265 = some ti265 := rfl
@[simp] theorem ti265_size : ti265.size = 2 := rfl
@[simp] theorem ti265_bytes : ti265.bytes = 48 := rfl
@[simp] theorem ti265_kind : ti265.kind = .struct [(0, 37), (1, 235)] := rfl
@[simp] theorem ti265_agg : ti265.kind.agg = true := rfl
@[simp] theorem ti265_zero : ti265.zero = [.slice none 0 0, .slice none 0 0] := rfl
@[simp] theorem ti265_eqk : ti265.eqk = [] := rfl
@[simp] theorem kd_265 : kd tt 265 = some (.struct [(0, 37), (1, 235)]) := rfl
@[simp] theorem fieldT_265_0 : fieldT tt 265 0 = some (0, ti37) := rfl
@[simp] theorem fieldT_265_1 : fieldT tt 265 1 = some (1, ti235) := rfl
@[simp] theorem tt_275 : tt 275 = some ti275 := rfl
@[simp] theorem ti275_size : ti275.size = 1 := rfl
@[simp] theorem ti275_bytes : ti275.bytes = 8 := rfl
@[simp] theorem ti275_kind : ti275.kind = .oth := rfl
@[simp] theorem ti275_agg : ti275.kind.agg = false := rfl
@[simp] theorem ti275_zero : ti275.zero = [.pointer none] := rfl
@[simp] theorem ti275_eqk : ti275.eqk = [] := rfl
@[simp] theorem kd_275 : kd tt 275 = some (.oth) := rfl
@[simp] theorem tt_280 : tt 280 = some ti280 := rfl
@[simp] theorem ti280_size : ti280.size = 1 := rfl
@[simp] theorem ti280_bytes : ti280.bytes = 8 := rfl
@[simp] theorem ti280_kind : ti280.kind = .oth := rfl
@[simp] theorem ti280_agg : ti280.kind.agg = false := rfl
@[simp] theorem ti280_zero : ti280.zero = [.pointer none] := rfl
@[simp] theorem ti280_eqk : ti280.eqk = [] := rfl
@[simp] theorem kd_280 : kd tt 280 = some (.oth) := rfl
@[simp] theorem tt_286 : tt 286 = some ti286 := rfl
@[simp] theorem ti286_size : ti286.size = 3 := rfl
@[simp] theorem ti286_bytes : ti286.bytes = 40 := rfl
@[simp] theorem ti286_kind : ti286.kind = .struct [(0, 9), (1, 3), (2, 9)] := rfl
@[simp] theorem ti286_agg : ti286.kind.agg = true := rfl
@[simp] theorem ti286_zero : ti286.zero = [.string ⟨#[]⟩, .int .i64 0, .string ⟨#[]⟩] := rfl
@[simp] theorem ti286_eqk : ti286.eqk = [] := rfl
@[simp] theorem kd_286 : kd tt 286 = some (.struct [(0, 9), (1, 3), (2, 9)]) := rfl
@[simp] theorem fieldT_286_0 : fieldT tt 286 0 = some (0, ti9) := rfl
@[simp] theorem fieldT_286_1 : fieldT tt 286 1 = some (1, ti3) := rfl
@[simp] theorem fieldT_286_2 : fieldT tt 286 2 = some (2, ti9) := rfl
@[simp] theorem tt_288 : tt 288 = some ti288 := rfl
@[simp] theorem ti288_size : ti288.size = 2 := rfl
@[simp] theorem ti288_bytes : ti288.bytes = 24 := rfl
@[simp] theorem ti288_kind : ti288.kind = .struct [(0, 9), (1, 3)] := rfl
@[simp] theorem ti288_agg : ti288.kind.agg = true := rfl
@[simp] theorem ti288_zero : ti288.zero = [.string ⟨#[]⟩, .int .i64 0] := rfl
@[simp] theorem ti288_eqk : ti288.eqk = [] := rfl
@[simp] theorem kd_288 : kd tt 288 = some (.struct [(0, 9), (1, 3)]) := rfl
@[simp] theorem fieldT_288_0 : fieldT tt 288 0 = some (0, ti9) := rfl
@[simp] theorem fieldT_288_1 : fieldT tt 288 1 = some (1, ti3) := rfl
@[simp] theorem tt_300 : tt 300 = some ti300 := rfl
@[simp] theorem ti300_size : ti300.size = 1 := rfl
@[simp] theorem ti300_bytes : ti300.bytes = 8 := rfl
@[simp] theorem ti300_kind : ti300.kind = .oth := rfl
@[simp] theorem ti300_agg : ti300.kind.agg = false := rfl
@[simp] theorem ti300_zero : ti300.zero = [.pointer none] := rfl
@[simp] theorem ti300_eqk : ti300.eqk = [] := rfl
@[simp] theorem kd_300 : kd tt 300 = some (.oth) := rfl
@[simp] theorem tt_309 : tt 309 = some ti309 := rfl
@[simp] theorem ti309_size : ti309.size = 5 := rfl
@[simp] theorem ti309_bytes : ti309.bytes = 80 := rfl
@[simp] theorem ti309_kind : ti309.kind = .struct [(0, 3), (1, 3), (2, 9), (3, 25), (4, 172)] := rfl
@[simp] theorem ti309_agg : ti309.kind.agg = true := rfl
@[simp] theorem ti309_zero : ti309.zero = [.int .i64 0, .int .i64 0, .string ⟨#[]⟩, .slice none 0 0, .slice none 0 0] := rfl
@[simp] theorem ti309_eqk : ti309.eqk = [] := rfl
@[simp] theorem kd_309 : kd tt 309 = some (.struct [(0, 3), (1, 3), (2, 9), (3, 25), (4, 172)]) := rfl
@[simp] theorem fieldT_309_0 : fieldT tt 309 0 = some (0, ti3) := rfl
@[simp] theorem fieldT_309_1 : fieldT tt 309 1 = some (1, ti3) := rfl
@[simp] theorem fieldT_309_2 : fieldT tt 309 2 = some (2, ti9) := rfl
@[simp] theorem fieldT_309_3 : fieldT tt 309 3 = some (3, ti25) := rfl
@[simp] theorem fieldT_309_4 : fieldT tt 309 4 = some (4, ti172) := rfl
@[simp] theorem tt_314 : tt 314 = some ti314 := rfl
@[simp] theorem ti314_size : ti314.size = 1 := rfl
@[simp] theorem ti314_bytes : ti314.bytes = 16 := rfl
@[simp] theorem ti314_kind : ti314.kind = .ifc := rfl
@[simp] theorem ti314_agg : ti314.kind.agg = false := rfl
@[simp] theorem ti314_zero : ti314.zero = [.nilIface] := rfl
@[simp] theorem ti314_eqk : ti314.eqk = [] := rfl
@[simp] theorem kd_314 : kd tt 314 = some (.ifc) := rfl
@[simp] theorem tt_320 : tt 320 = some ti320 := rfl
@[simp] theorem ti320_size : ti320.size = 3 := rfl
@[simp] theorem ti320_bytes : ti320.bytes = 48 := rfl
@[simp] theorem ti320_kind : ti320.kind = .struct [(0, 9), (1, 153)] := rfl
@[simp] theorem ti320_agg : ti320.kind.agg = true := rfl
@[simp] theorem ti320_zero : ti320.zero = [.string ⟨#[]⟩, .slice none 0 0, .int .i64 0] := rfl
@[simp] theorem ti320_eqk : ti320.eqk = [] := rfl
@[simp] theorem kd_320 : kd tt 320 = some (.struct [(0, 9), (1, 153)]) := rfl
@[simp] theorem fieldT_320_0 : fieldT tt 320 0 = some (0, ti9) := rfl
@[simp] theorem fieldT_320_1 : fieldT tt 320 1 = some (1, ti153) := rfl
end Go.Own
namespace Go.Proofs
open Go.Shelf
def Tryz.lays137_ren : Go.Shelf.Ren := ⟨fun | 137 => 247 | 217 => 258 | 266 => 265 | n => n, fun | 9 => 9 | 5 => 5 | 3 => 3 | n => n, fun | n => n⟩
theorem Tryz.lays137 : Go.Proofs.Lays.n137 Tryz.prog Tryz.lays137_ren := {
  mixed := by kernel_rfl
  f137 := Tryz.func247.trans (congrArg some (by kernel_rfl))
  f217 := Tryz.func258.trans (congrArg some (by kernel_rfl))
  f266 := Tryz.func265.trans (congrArg some (by kernel_rfl))
  t3 := Tryz.underlying3
  a3 := Tryz.isAgg3
  z3 := Tryz.sizeOf3
  v3 := Tryz.zeroValue3
  t5 := Tryz.underlying5
  a5 := Tryz.isAgg5
  z5 := Tryz.sizeOf5
  v5 := Tryz.zeroValue5
  t9 := Tryz.underlying9
  a9 := Tryz.isAgg9
  z9 := Tryz.sizeOf9
  v9 := Tryz.zeroValue9 }
open Go.RowKit in
theorem Tryz.strings_IndexByte (s : ByteArray) (c : Int) (w : World) :
    Calls Tryz.prog 247 #[.string s, .int .u8 c] w fun e w' => e = .returned (.int .i64 (Lib.indexByte s.data.toList c.toNat.toUInt8)) ∧ w' = w := Any.strings_IndexByte Tryz.lays137 s c w
def Tryz.laysM171_ren : Go.Shelf.Ren := ⟨fun | 171 => 251 | 243 => 263 | 246 => 272 | 283 => 279 | 284 => 280 | 285 => 281 | 286 => 282 | 129 => 287 | 317 => 286 | 318 => 288 | 319 => 289 | 320 => 290 | 337 => 291 | 338 => 292 | n => n, fun | 3 => 3 | 9 => 9 | 2 => 2 | 4 => 4 | 171 => 342 | 0 => 0 | 53 => 335 | 37 => 235 | 5 => 5 | 173 => 345 | 212 => 356 | 51 => 347 | 20 => 20 | 213 => 357 | 46 => 334 | 232 => 360 | 233 => 361 | n => n, fun | 17 => 3 | 18 => 4 | 19 => 5 | n => n⟩
theorem Tryz.laysM171 : Go.Proofs.LaysM.n171 Tryz.prog Tryz.laysM171_ren := {
  mixed := by kernel_rfl
  f129 := Tryz.func287.trans (congrArg some (by kernel_rfl))
  f171 := Tryz.func251.trans (congrArg some (by kernel_rfl))
  f243 := Tryz.func263.trans (congrArg some (by kernel_rfl))
  f246 := Tryz.func272.trans (congrArg some (by kernel_rfl))
  f283 := Tryz.func279.trans (congrArg some (by kernel_rfl))
  f284 := Tryz.func280.trans (congrArg some (by kernel_rfl))
  f285 := Tryz.func281.trans (congrArg some (by kernel_rfl))
  f286 := Tryz.func282.trans (congrArg some (by kernel_rfl))
  f317 := Tryz.func286.trans (congrArg some (by kernel_rfl))
  f318 := Tryz.func288.trans (congrArg some (by kernel_rfl))
  f319 := Tryz.func289.trans (congrArg some (by kernel_rfl))
  f320 := Tryz.func290.trans (congrArg some (by kernel_rfl))
  f337 := Tryz.func291.trans (congrArg some (by kernel_rfl))
  f338 := Tryz.func292.trans (congrArg some (by kernel_rfl))
  t0 := Tryz.underlying0
  a0 := Tryz.isAgg0
  z0 := Tryz.sizeOf0
  v0 := Tryz.zeroValue0
  t2 := Tryz.underlying2
  a2 := Tryz.isAgg2
  z2 := Tryz.sizeOf2
  v2 := Tryz.zeroValue2
  t3 := Tryz.underlying3
  a3 := Tryz.isAgg3
  z3 := Tryz.sizeOf3
  v3 := Tryz.zeroValue3
  t4 := Tryz.underlying4
  a4 := Tryz.isAgg4
  z4 := Tryz.sizeOf4
  v4 := Tryz.zeroValue4
  t5 := Tryz.underlying5
  a5 := Tryz.isAgg5
  z5 := Tryz.sizeOf5
  v5 := Tryz.zeroValue5
  t9 := Tryz.underlying9
  a9 := Tryz.isAgg9
  z9 := Tryz.sizeOf9
  v9 := Tryz.zeroValue9
  t20 := Tryz.underlying20
  a20 := Tryz.isAgg20
  z20 := Tryz.sizeOf20
  v20 := Tryz.zeroValue20
  t37 := Tryz.underlying235
  a37 := Tryz.isAgg235
  z37 := Tryz.sizeOf235
  v37 := Tryz.zeroValue235
  t46 := Tryz.underlying334
  a46 := Tryz.isAgg334
  z46 := Tryz.sizeOf334
  v46 := Tryz.zeroValue334
  t51 := Tryz.underlying347
  a51 := Tryz.isAgg347
  z51 := Tryz.sizeOf347
  v51 := Tryz.zeroValue347
  t53 := Tryz.underlying335
  a53 := Tryz.isAgg335
  z53 := Tryz.sizeOf335
  v53 := Tryz.zeroValue335
  t171 := Tryz.underlying342
  a171 := Tryz.isAgg342
  z171 := Tryz.sizeOf342
  v171 := Tryz.zeroValue342
  t173 := Tryz.underlying345
  a173 := Tryz.isAgg345
  z173 := Tryz.sizeOf345
  v173 := Tryz.zeroValue345
  t212 := Tryz.underlying356
  a212 := Tryz.isAgg356
  z212 := Tryz.sizeOf356
  v212 := Tryz.zeroValue356
  t213 := Tryz.underlying357
  a213 := Tryz.isAgg357
  z213 := Tryz.sizeOf357
  t232 := Tryz.underlying360
  a232 := Tryz.isAgg360
  z232 := Tryz.sizeOf360
  v232 := Tryz.zeroValue360
  t233 := Tryz.underlying361
  a233 := Tryz.isAgg361
  z233 := Tryz.sizeOf361
  v233 := Tryz.zeroValue361
  g17 := by kernel_rfl
  g18 := by kernel_rfl
  g19 := by kernel_rfl
  i0 := by kernel_rfl
  i2 := by kernel_rfl
  i3 := by kernel_rfl
  i4 := by kernel_rfl
  i5 := by kernel_rfl
  i9 := by kernel_rfl
  i20 := by kernel_rfl
  i37 := by kernel_rfl
  i46 := by kernel_rfl
  i51 := by kernel_rfl
  i53 := by kernel_rfl
  i171 := by kernel_rfl
  i173 := by kernel_rfl
  i212 := by kernel_rfl
  i232 := by kernel_rfl
  i233 := by kernel_rfl
  m17 := by kernel_rfl
  m18 := by kernel_rfl
  m19 := by kernel_rfl }
open Go.RowKit Go.Sort Go.Lib in
theorem Tryz.strconv_Itoa (n : Int) (h0 : -9223372036854775808 ≤ n) (h1 : n ≤ 9223372036854775807) (w : World) (htab : Lib.TabIs Tryz.prog w "internal/strconv.uint64pow10" .u64 Lib.pow10Tab) :
    Calls Tryz.prog 251 #[.int .i64 n] w fun e w' => e = .returned (.string ⟨(Lib.itoa n).toArray⟩) ∧ ∃ k os, w' = grow (w.drewN k) os := Any.strconv_Itoa Tryz.laysM171 n h0 h1 w htab
def Tryz.laysC172_ren : Go.Shelf.Ren := ⟨fun | 172 => 249 | 244 => 260 | 245 => 261 | 247 => 267 | 279 => 268 | 280 => 269 | 281 => 270 | 282 => 271 | 287 => 276 | 316 => 277 | 171 => 251 | 205 => 278 | 321 => 284 | 322 => 285 | 243 => 263 | 246 => 272 | 283 => 279 | 284 => 280 | 285 => 281 | 286 => 282 | 129 => 287 | 317 => 286 | 318 => 288 | 319 => 289 | 320 => 290 | 337 => 291 | 338 => 292 | n => n, fun | 9 => 9 | 3 => 3 | 75 => 314 | 76 => 315 | 4 => 4 | 5 => 5 | 167 => 327 | 37 => 235 | 0 => 0 | 85 => 328 | 2 => 2 | 168 => 330 | 53 => 335 | 175 => 336 | 46 => 334 | 210 => 340 | 127 => 351 | 145 => 354 | 143 => 352 | 21 => 21 | 171 => 342 | 173 => 345 | 212 => 356 | 51 => 347 | 20 => 20 | 213 => 357 | 232 => 360 | 233 => 361 | 80 => 362 | n => n, fun | 15 => 1 | 16 => 2 | 17 => 3 | 18 => 4 | 19 => 5 | n => n⟩
theorem Tryz.laysC172 : Go.Proofs.LaysC.n172 Tryz.prog Tryz.laysC172_ren := {
  mixed := by kernel_rfl
  f129 := Tryz.func287.trans (congrArg some (by kernel_rfl))
  f171 := Tryz.func251.trans (congrArg some (by kernel_rfl))
  f172 := Tryz.func249.trans (congrArg some (by kernel_rfl))
  f205 := Tryz.func278.trans (congrArg some (by kernel_rfl))
  f243 := Tryz.func263.trans (congrArg some (by kernel_rfl))
  f244 := Tryz.func260.trans (congrArg some (by kernel_rfl))
  f245 := Tryz.func261.trans (congrArg some (by kernel_rfl))
  f246 := Tryz.func272.trans (congrArg some (by kernel_rfl))
  f247 := Tryz.func267.trans (congrArg some (by kernel_rfl))
  f279 := Tryz.func268.trans (congrArg some (by kernel_rfl))
  f280 := Tryz.func269.trans (congrArg some (by kernel_rfl))
  f281 := Tryz.func270.trans (congrArg some (by kernel_rfl))
  f282 := Tryz.func271.trans (congrArg some (by kernel_rfl))
  f283 := Tryz.func279.trans (congrArg some (by kernel_rfl))
  f284 := Tryz.func280.trans (congrArg some (by kernel_rfl))
  f285 := Tryz.func281.trans (congrArg some (by kernel_rfl))
  f286 := Tryz.func282.trans (congrArg some (by kernel_rfl))
  f287 := Tryz.func276.trans (congrArg some (by kernel_rfl))
  f316 := Tryz.func277.trans (congrArg some (by kernel_rfl))
  f317 := Tryz.func286.trans (congrArg some (by kernel_rfl))
  f318 := Tryz.func288.trans (congrArg some (by kernel_rfl))
  f319 := Tryz.func289.trans (congrArg some (by kernel_rfl))
  f320 := Tryz.func290.trans (congrArg some (by kernel_rfl))
  f321 := Tryz.func284.trans (congrArg some (by kernel_rfl))
  f322 := Tryz.func285.trans (congrArg some (by kernel_rfl))
  f337 := Tryz.func291.trans (congrArg some (by kernel_rfl))
  f338 := Tryz.func292.trans (congrArg some (by kernel_rfl))
  t0 := Tryz.underlying0
  a0 := Tryz.isAgg0
  z0 := Tryz.sizeOf0
  v0 := Tryz.zeroValue0
  t2 := Tryz.underlying2
  a2 := Tryz.isAgg2
  z2 := Tryz.sizeOf2
  v2 := Tryz.zeroValue2
  t3 := Tryz.underlying3
  a3 := Tryz.isAgg3
  z3 := Tryz.sizeOf3
  v3 := Tryz.zeroValue3
  t4 := Tryz.underlying4
  a4 := Tryz.isAgg4
  z4 := Tryz.sizeOf4
  v4 := Tryz.zeroValue4
  t5 := Tryz.underlying5
  a5 := Tryz.isAgg5
  z5 := Tryz.sizeOf5
  v5 := Tryz.zeroValue5
  t9 := Tryz.underlying9
  a9 := Tryz.isAgg9
  z9 := Tryz.sizeOf9
  v9 := Tryz.zeroValue9
  t20 := Tryz.underlying20
  a20 := Tryz.isAgg20
  z20 := Tryz.sizeOf20
  v20 := Tryz.zeroValue20
  t21 := Tryz.underlying21
  a21 := Tryz.isAgg21
  z21 := Tryz.sizeOf21
  v21 := Tryz.zeroValue21
  t37 := Tryz.underlying235
  a37 := Tryz.isAgg235
  z37 := Tryz.sizeOf235
  v37 := Tryz.zeroValue235
  t46 := Tryz.underlying334
  a46 := Tryz.isAgg334
  z46 := Tryz.sizeOf334
  v46 := Tryz.zeroValue334
  t51 := Tryz.underlying347
  a51 := Tryz.isAgg347
  z51 := Tryz.sizeOf347
  v51 := Tryz.zeroValue347
  t53 := Tryz.underlying335
  a53 := Tryz.isAgg335
  z53 := Tryz.sizeOf335
  v53 := Tryz.zeroValue335
  t75 := Tryz.underlying314
  a75 := Tryz.isAgg314
  z75 := Tryz.sizeOf314
  v75 := Tryz.zeroValue314
  t76 := Tryz.underlying315
  a76 := Tryz.isAgg315
  z76 := Tryz.sizeOf315
  v76 := Tryz.zeroValue315
  t85 := Tryz.underlying328
  a85 := Tryz.isAgg328
  z85 := Tryz.sizeOf328
  v85 := Tryz.zeroValue328
  t127 := Tryz.underlying351
  a127 := Tryz.isAgg351
  z127 := Tryz.sizeOf351
  v127 := Tryz.zeroValue351
  t143 := Tryz.underlying352
  a143 := Tryz.isAgg352
  z143 := Tryz.sizeOf352
  v143 := Tryz.zeroValue352
  t145 := Tryz.underlying354
  a145 := Tryz.isAgg354
  z145 := Tryz.sizeOf354
  v145 := Tryz.zeroValue354
  t167 := Tryz.underlying327
  a167 := Tryz.isAgg327
  z167 := Tryz.sizeOf327
  v167 := Tryz.zeroValue327
  t168 := Tryz.underlying330
  a168 := Tryz.isAgg330
  z168 := Tryz.sizeOf330
  v168 := Tryz.zeroValue330
  t171 := Tryz.underlying342
  a171 := Tryz.isAgg342
  z171 := Tryz.sizeOf342
  v171 := Tryz.zeroValue342
  t173 := Tryz.underlying345
  a173 := Tryz.isAgg345
  z173 := Tryz.sizeOf345
  v173 := Tryz.zeroValue345
  t175 := Tryz.underlying336
  a175 := Tryz.isAgg336
  z175 := Tryz.sizeOf336
  v175 := Tryz.zeroValue336
  t210 := Tryz.underlying340
  a210 := Tryz.isAgg340
  z210 := Tryz.sizeOf340
  v210 := Tryz.zeroValue340
  t212 := Tryz.underlying356
  a212 := Tryz.isAgg356
  z212 := Tryz.sizeOf356
  v212 := Tryz.zeroValue356
  t213 := Tryz.underlying357
  a213 := Tryz.isAgg357
  z213 := Tryz.sizeOf357
  t232 := Tryz.underlying360
  a232 := Tryz.isAgg360
  z232 := Tryz.sizeOf360
  v232 := Tryz.zeroValue360
  t233 := Tryz.underlying361
  a233 := Tryz.isAgg361
  z233 := Tryz.sizeOf361
  v233 := Tryz.zeroValue361
  g15 := by kernel_rfl
  g16 := by kernel_rfl
  g17 := by kernel_rfl
  g18 := by kernel_rfl
  g19 := by kernel_rfl
  t80 := Tryz.underlying362
  a80 := Tryz.isAgg362
  z80 := Tryz.sizeOf362
  v80 := Tryz.zeroValue362
  i0 := by kernel_rfl
  i2 := by kernel_rfl
  i3 := by kernel_rfl
  i4 := by kernel_rfl
  i5 := by kernel_rfl
  i9 := by kernel_rfl
  i20 := by kernel_rfl
  i21 := by kernel_rfl
  i37 := by kernel_rfl
  i46 := by kernel_rfl
  i51 := by kernel_rfl
  i53 := by kernel_rfl
  i75 := by kernel_rfl
  i76 := by kernel_rfl
  i80 := by kernel_rfl
  i85 := by kernel_rfl
  i127 := by kernel_rfl
  i143 := by kernel_rfl
  i145 := by kernel_rfl
  i167 := by kernel_rfl
  i168 := by kernel_rfl
  i171 := by kernel_rfl
  i173 := by kernel_rfl
  i175 := by kernel_rfl
  i210 := by kernel_rfl
  i212 := by kernel_rfl
  i232 := by kernel_rfl
  i233 := by kernel_rfl
  m15 := by kernel_rfl
  m16 := by kernel_rfl
  m17 := by kernel_rfl
  m18 := by kernel_rfl
  m19 := by kernel_rfl
  c0 := by kernel_rfl
  c2 := by kernel_rfl
  c3 := by kernel_rfl
  c4 := by kernel_rfl
  c5 := by kernel_rfl
  c9 := by kernel_rfl
  c20 := by kernel_rfl
  c21 := by kernel_rfl
  c37 := by kernel_rfl
  c46 := by kernel_rfl
  c51 := by kernel_rfl
  c53 := by kernel_rfl
  c75 := by kernel_rfl
  c76 := by kernel_rfl
  c80 := by kernel_rfl
  c85 := by kernel_rfl
  c127 := by kernel_rfl
  c143 := by kernel_rfl
  c145 := by kernel_rfl
  c167 := by kernel_rfl
  c168 := by kernel_rfl
  c171 := by kernel_rfl
  c173 := by kernel_rfl
  c175 := by kernel_rfl
  c210 := by kernel_rfl
  c212 := by kernel_rfl
  c213 := by kernel_rfl
  c232 := by kernel_rfl
  c233 := by kernel_rfl }
open Go.RowKit in
theorem Tryz.strconv_Atoi_ok (s : ByteArray) (hmax : s.size ≤ 9223372036854775806) (v : Int) (h : Lib.atoiAll s.data.toList = .ok v) (w : World) :
    Calls Tryz.prog 249 #[.string s] w fun e w' => e = .returned (.tuple #[.int .i64 v, .nilIface]) ∧ (w' = w ∨ ∃ t, w' = Lib.bytesWorld w 5 t) := Any.strconv_Atoi_ok Tryz.laysC172 s hmax v h w
open Go.RowKit in
theorem Tryz.strconv_Atoi_syntax (s : ByteArray) (hlim : s.size ≤ 281474976710656) (h : Lib.atoiAll s.data.toList = Lib.atoiAll []) (ev : Value) (w : World) (hv : w.cell? ⟨1, 0, none⟩ = some ev) (hev : ev = .nilIface ∨ ∃ te pe, ev = .iface te pe) :
    Calls Tryz.prog 249 #[.string s] w fun e w' => ∃ N, e = .returned (.tuple #[.int .i64 (0), .iface 330 (.pointer (some ⟨N, 0, none⟩))]) ∧ w.heap.size ≤ N ∧ w'.heap[N]? = some (.cells #[.string ⟨#[65, 116, 111, 105]⟩, .string s, ev] 340 (0, 0)) ∧ Below w.heap.size w w' := Any.strconv_Atoi_syntax Tryz.laysC172 s hlim h ev w hv hev
open Go.RowKit in
theorem Tryz.strconv_Atoi_range (s : ByteArray) (hlim : s.size ≤ 281474976710656) (h : Lib.atoiAll s.data.toList = .range) (ev : Value) (w : World) (hv : w.cell? ⟨2, 0, none⟩ = some ev) (hev : ev = .nilIface ∨ ∃ te pe, ev = .iface te pe) :
    Calls Tryz.prog 249 #[.string s] w fun e w' => ∃ N, e = .returned (.tuple #[.int .i64 (Lib.atoiSat s.data.toList), .iface 330 (.pointer (some ⟨N, 0, none⟩))]) ∧ w.heap.size ≤ N ∧ w'.heap[N]? = some (.cells #[.string ⟨#[65, 116, 111, 105]⟩, .string s, ev] 340 (0, 0)) ∧ Below w.heap.size w w' := Any.strconv_Atoi_range Tryz.laysC172 s hlim h ev w hv hev
def Tryz.lays144_ren : Go.Shelf.Ren := ⟨fun | 144 => 245 | 143 => 257 | 219 => 264 | 217 => 258 | 225 => 273 | 224 => 274 | 267 => 275 | 266 => 265 | 314 => 283 | n => n, fun | 9 => 9 | 4 => 4 | 3 => 3 | 5 => 5 | 46 => 334 | 146 => 348 | 51 => 347 | n => n, fun | 1 => 0 | n => n⟩
theorem Tryz.lays144 : Go.Proofs.Lays.n144 Tryz.prog Tryz.lays144_ren := {
  mixed := by kernel_rfl
  f143 := Tryz.func257.trans (congrArg some (by kernel_rfl))
  f144 := Tryz.func245.trans (congrArg some (by kernel_rfl))
  f217 := Tryz.func258.trans (congrArg some (by kernel_rfl))
  f219 := Tryz.func264.trans (congrArg some (by kernel_rfl))
  f224 := Tryz.func274.trans (congrArg some (by kernel_rfl))
  f225 := Tryz.func273.trans (congrArg some (by kernel_rfl))
  f266 := Tryz.func265.trans (congrArg some (by kernel_rfl))
  f267 := Tryz.func275.trans (congrArg some (by kernel_rfl))
  f314 := Tryz.func283.trans (congrArg some (by kernel_rfl))
  t3 := Tryz.underlying3
  a3 := Tryz.isAgg3
  z3 := Tryz.sizeOf3
  v3 := Tryz.zeroValue3
  t4 := Tryz.underlying4
  a4 := Tryz.isAgg4
  z4 := Tryz.sizeOf4
  v4 := Tryz.zeroValue4
  t5 := Tryz.underlying5
  a5 := Tryz.isAgg5
  z5 := Tryz.sizeOf5
  v5 := Tryz.zeroValue5
  t9 := Tryz.underlying9
  a9 := Tryz.isAgg9
  z9 := Tryz.sizeOf9
  v9 := Tryz.zeroValue9
  t46 := Tryz.underlying334
  a46 := Tryz.isAgg334
  z46 := Tryz.sizeOf334
  v46 := Tryz.zeroValue334
  t51 := Tryz.underlying347
  a51 := Tryz.isAgg347
  z51 := Tryz.sizeOf347
  v51 := Tryz.zeroValue347
  t146 := Tryz.underlying348
  a146 := Tryz.isAgg348
  z146 := Tryz.sizeOf348
  v146 := Tryz.zeroValue348
  g1 := by kernel_rfl }
open Go.RowKit Go.Lib in
theorem Tryz.strings_Contains (s sub : ByteArray) (m : Int) (w : World) (hs : s.size < 4294967281) (hm : w.cell? ⟨0, 0, none⟩ = some (.int .i64 m)) :
    Calls Tryz.prog 245 #[.string s, .string sub] w fun e w' => e = .returned (.bool (Lib.contains s.data.toList sub.data.toList)) ∧ w' = w := Any.strings_Contains Tryz.lays144 s sub m w hs hm
def Tryz.lays101_ren : Go.Shelf.Ren := ⟨fun | 101 => 248 | 208 => 259 | 206 => 266 | n => n, fun | 9 => 9 | 4 => 4 | 3 => 3 | n => n, fun | n => n⟩
theorem Tryz.lays101 : Go.Proofs.Lays.n101 Tryz.prog Tryz.lays101_ren := {
  mixed := by kernel_rfl
  f101 := Tryz.func248.trans (congrArg some (by kernel_rfl))
  f206 := Tryz.func266.trans (congrArg some (by kernel_rfl))
  f208 := Tryz.func259.trans (congrArg some (by kernel_rfl))
  t3 := Tryz.underlying3
  a3 := Tryz.isAgg3
  z3 := Tryz.sizeOf3
  v3 := Tryz.zeroValue3
  t4 := Tryz.underlying4
  a4 := Tryz.isAgg4
  z4 := Tryz.sizeOf4
  v4 := Tryz.zeroValue4
  t9 := Tryz.underlying9
  a9 := Tryz.isAgg9
  z9 := Tryz.sizeOf9
  v9 := Tryz.zeroValue9 }
open Go.RowKit Go.Lib in
theorem Tryz.strings_TrimPrefix (s p : ByteArray) (w : World) :
    Calls Tryz.prog 248 #[.string s, .string p] w fun e w' => e = .returned (.string ⟨(Lib.trimPrefix s.data.toList p.data.toList).toArray⟩) ∧ w' = w := Any.strings_TrimPrefix Tryz.lays101 s p w
end Go.Proofs
set_option maxRecDepth 1000000
set_option maxHeartbeats 4000000
namespace Go.Own
open Go.RowKit
structure Facts (w : World) : Prop where
  maxLen : ∃ m, w.cell? ⟨0, 0, none⟩ = some (.int .i64 m)
  syn : ∃ ev, w.cell? ⟨1, 0, none⟩ = some ev ∧ (ev = .nilIface ∨ ∃ te pe, ev = .iface te pe)
  rng : ∃ ev, w.cell? ⟨2, 0, none⟩ = some ev ∧ (ev = .nilIface ∨ ∃ te pe, ev = .iface te pe)
  pow : Lib.TabIs PP w "internal/strconv.uint64pow10" .u64 Lib.pow10Tab
class Facts.Of [Laid] : Prop where
  facts : ∀ w, Laid.ok w → Facts w
variable [Laid]
theorem args_of {vals : List Value} {β : Blk} {w : World} {args : Array Value} (h1 : args.size = (vals.map AV.sc).length) (h2 : ∀ i v, (vals.map AV.sc)[i]? = some v → VR β w v (args.getD i undef)) : args = vals.toArray := by
  apply Array.ext
  · simpa using h1
  · intro i h3 h4
    have hi : i < vals.length := by simpa using h4
    have := (h2 i (.sc vals[i]) (by simp [hi])).sc_inv
    simp only [Array.getD_eq_getD_getElem?, Array.getElem?_eq_getElem h3, Option.getD_some] at this
    simpa using this
theorem Con.lib {f : Nat} {fn : Func} {vals : List Value} {Φ : AV → List (Nat × Root) → Prop} (hf : PP.funcs[f]? = some fn) (hn : (fn.name == "runtime.NumGoroutine") = false) (hb : fn.body.isNone = false)
    (h : ∀ w, Laid.ok w → Calls PP f vals.toArray w (fun e w' => ∃ v, e = .returned v ∧ Φ (.sc v) [] ∧ Below w.heap.size w w')) : Con PP f (vals.map .sc) [] [] Φ := by
  refine ⟨⟨fn, hf, hn, hb⟩, fun β w args hl h1 h2 h3 h4 h5 => ?_⟩
  have := args_of h1 h2
  subst this
  refine (h w hl.ok).mono fun e w' ⟨v, he, hv, hbl⟩ => ⟨v, .sc v, [], β, he, ?_⟩
  exact { ok := hv, res := .sc v, ob := fun id e k es hl => by simp [lo] at hl, uq := h4, lt := fun b x hb => Nat.lt_of_lt_of_le (h5 b x hb) hbl.size, keep := fun i hi => by simp at hi,
          fr := fun b hb _ => hbl.block b hb, old := fun b x hb _ => by rw [hb]; simp, hs := hbl.size, os := hbl.os, tape := hbl.tape, output := hbl.output,
          to := fun b id p hb _ => ⟨hb, hbl.block b (h5 b _ hb)⟩, back := fun b id p hb _ => hb }
theorem c_strings_IndexByte (s : ByteArray) (c : Int) : Con PP 247 [.sc (.string s), .sc (.int .u8 c)] [] [] (fun r o => r = .sc (.int .i64 (Lib.indexByte s.data.toList c.toNat.toUInt8))) :=
  Con.lib (vals := [.string s, .int .u8 c]) Go.Proofs.Tryz.func247 (by kernel_rfl) (by kernel_rfl) fun w _ => (Go.Proofs.Tryz.strings_IndexByte s c w).mono fun e w' ⟨h1, h2⟩ => ⟨_, h1, rfl, h2 ▸ Below.refl _ _⟩
theorem c_strings_TrimPrefix (s p : ByteArray) : Con PP 248 [.sc (.string s), .sc (.string p)] [] [] (fun r o => r = .sc (.string ⟨(Lib.trimPrefix s.data.toList p.data.toList).toArray⟩)) :=
  Con.lib (vals := [.string s, .string p]) Go.Proofs.Tryz.func248 (by kernel_rfl) (by kernel_rfl) fun w _ => (Go.Proofs.Tryz.strings_TrimPrefix s p w).mono fun e w' ⟨h1, h2⟩ => ⟨_, h1, rfl, h2 ▸ Below.refl _ _⟩
theorem c_strings_Contains [F : Facts.Of] (s p : ByteArray) (hs : s.size < 4294967281) : Con PP 245 [.sc (.string s), .sc (.string p)] [] [] (fun r o => r = .sc (.bool (Lib.contains s.data.toList p.data.toList))) :=
  Con.lib (vals := [.string s, .string p]) Go.Proofs.Tryz.func245 (by kernel_rfl) (by kernel_rfl) fun w hw => by
    obtain ⟨m, hm⟩ := (F.facts w hw).maxLen
    exact (Go.Proofs.Tryz.strings_Contains s p m w hs hm).mono fun e w' ⟨h1, h2⟩ => ⟨_, h1, rfl, h2 ▸ Below.refl _ _⟩
theorem c_strconv_Itoa [F : Facts.Of] (n : Int) (h0 : -9223372036854775808 ≤ n) (h1 : n ≤ 9223372036854775807) : Con PP 251 [.sc (.int .i64 n)] [] [] (fun r o => r = .sc (.string ⟨(Lib.itoa n).toArray⟩)) :=
  Con.lib (vals := [.int .i64 n]) Go.Proofs.Tryz.func251 (by kernel_rfl) (by kernel_rfl) fun w hw => by
    refine (Go.Proofs.Tryz.strconv_Itoa n h0 h1 w (F.facts w hw).pow).mono fun e w' ⟨h1, k, os, h2⟩ => ⟨_, h1, rfl, ?_⟩
    subst h2
    exact Go.Lib.below_grow _ _ (Nat.le_refl _) _ _
end Go.Own
set_option maxRecDepth 1000000
set_option maxHeartbeats 4000000
namespace Go.Own
attribute [local irreducible] WPc WPL WPS HAny endP
variable [Laid]
structure V where
  k : Int
  n : Int
  s : ByteArray
  deriving DecidableEq
abbrev zs : ByteArray := ⟨#[]⟩
def V.av (v : V) : AV := .agg [.sc (.int .i64 v.k), .sc (.int .i64 v.n), .sc (.string v.s)]
def V.cs (v : V) : List C := [.sc (.int .i64 v.k), .sc (.int .i64 v.n), .sc (.string v.s)]
theorem eqA_iis {a1 a2 b1 b2 : Int} {a3 b3 : ByteArray} {t : Nat} (h : t = 44 ∨ t = 30) : eqA tt t [.sc (.int .i64 a1), .sc (.int .i64 a2), .sc (.string a3)] [.sc (.int .i64 b1), .sc (.int .i64 b2), .sc (.string b3)] = some (decide (a1 = b1 ∧ a2 = b2 ∧ a3 = b3)) := by
  rcases h with rfl | rfl <;> simp only [eqA, tt_44, tt_30, ti44_eqk, ti30_eqk, scs, Option.map_some, Option.bind_some, List.isEmpty_cons, Bool.false_eq_true, if_false, eqV, toList_inj, beq_dec] <;> simp [Bool.decide_and]
def V.eqb (a b : V) : Bool := decide (a = b)
@[simp] theorem bin_eql29 {a1 a2 b1 b2 : Int} {a3 b3 : ByteArray} : binA tt .eql 44 (.agg [.sc (.int .i64 a1), .sc (.int .i64 a2), .sc (.string a3)]) (.agg [.sc (.int .i64 b1), .sc (.int .i64 b2), .sc (.string b3)]) = some (.sc (.bool (V.eqb ⟨a1, a2, a3⟩ ⟨b1, b2, b3⟩))) := by
  simp only [binA, eqA_iis (.inl rfl), Option.map_some, V.eqb, V.mk.injEq]
@[simp] theorem bin_neq29 {a1 a2 b1 b2 : Int} {a3 b3 : ByteArray} : binA tt .neq 44 (.agg [.sc (.int .i64 a1), .sc (.int .i64 a2), .sc (.string a3)]) (.agg [.sc (.int .i64 b1), .sc (.int .i64 b2), .sc (.string b3)]) = some (.sc (.bool (!V.eqb ⟨a1, a2, a3⟩ ⟨b1, b2, b3⟩))) := by
  simp only [binA, eqA_iis (.inl rfl), Option.map_some, V.eqb, V.mk.injEq]
theorem all_at {α : Type} {p : α → Bool} {vs : List α} {i : Nat} {v : α} (hv : vs[i]? = some v) (h : p v = false) : vs.all p = false := by
  rw [List.all_eq_false]; exact ⟨v, List.mem_of_getElem? hv, by simp [h]⟩
theorem all_next {α : Type} {p : α → Bool} {vs : List α} {i : Nat} {v : α} (hv : vs[i]? = some v) (h : p v = true) (h0 : (vs.take i).all p = true) : (vs.take (i + 1)).all p = true := by
  rw [List.take_add_one, hv]; simp [h0, h]
theorem any_at {α : Type} {p : α → Bool} {vs : List α} {i : Nat} {v : α} (hv : vs[i]? = some v) (h : p v = true) : vs.any p = true := by
  rw [List.any_eq_true]; exact ⟨v, List.mem_of_getElem? hv, h⟩
theorem any_next {α : Type} {p : α → Bool} {vs : List α} {i : Nat} {v : α} (hv : vs[i]? = some v) (h : p v = false) (h0 : (vs.take i).any p = false) : (vs.take (i + 1)).any p = false := by
  rw [List.take_add_one, hv]; simp only [Option.toList_some, List.any_append, h0, List.any_cons, h, List.any_nil, Bool.or_false]
def inRange (n lo hi : Int) : Bool := decide (lo ≤ n) && decide (n ≤ hi)
theorem c_impl_inRange (n lo hi : Int) : Con PP 72 [.sc (.int .i64 n), .sc (.int .i64 lo), .sc (.int .i64 hi)] [] [] (fun r o => r = .sc (.bool (inRange n lo hi))) := by
  refine Con.of tok (nt := 15) Go.Proofs.Tryz.func72 (by kernel_rfl) rfl rfl rfl (Nat.le_of_ble_eq_true rfl) fun G => ?_
  simp only [entSt, tmOf, List.append_nil, List.cons_append, List.nil_append]
  refine go (L := _ ∧ _ ∧ True) wb0 wb0 wb0 wb0 wb0 ⟨fun _ _ => ?_, fun _ _ => ?_, wb0⟩
  all_goals (simp_all [inRange]; try omega)
theorem c_spec_l1In (n lo hi : Int) : Con PP 42 [.sc (.int .i64 n), .sc (.int .i64 lo), .sc (.int .i64 hi)] [] [] (fun r o => r = .sc (.bool (inRange n lo hi))) := by
  refine Con.of tok (nt := 15) Go.Proofs.Tryz.func42 (by kernel_rfl) rfl rfl rfl (Nat.le_of_ble_eq_true rfl) fun G => ?_
  simp only [entSt, tmOf, List.append_nil, List.cons_append, List.nil_append]
  refine go (L := _ ∧ _ ∧ True) wb0 wb0 wb0 wb0 wb0 ⟨fun _ _ => ?_, fun _ _ => ?_, wb0⟩
  all_goals (simp_all [inRange]; try omega)
def cellKind (k : Int) : Int := if k = 5 then 1 else if k = 6 then 2 else if k = 7 then 3 else 0
theorem c_impl_cellKind (k : Int) : Con PP 182 [.sc (.int .i64 k)] [] [] (fun r o => r = .sc (.int .i64 (cellKind k))) := by
  refine Con.of tok (nt := 10) Go.Proofs.Tryz.func182 (by kernel_rfl) rfl rfl rfl (Nat.le_of_ble_eq_true rfl) fun G => ?_
  simp only [entSt, tmOf, List.append_nil, List.cons_append, List.nil_append]
  refine go (L := _ ∧ _ ∧ _ ∧ _ ∧ True) wb0 wb0 wb0 wb0 wb0 ⟨fun _ hq => ?_, fun _ hq hq => ?_, fun _ hq hq hq => ?_, fun _ hq hq hq => ?_, wb0⟩
  all_goals simp_all [cellKind]
def isBelow (n : Int) (v : V) : Bool := !(decide (cellKind v.k ≠ 0) && decide (n ≤ v.n))
theorem c_impl_areBelow (vs : List V) (n : Int) : Con PP 174 [.fz (vs.map V.cs), .sc (.int .i64 n)] [] [] (fun r o => r = .sc (.bool (vs.all (isBelow n)))) := by
  refine Con.of tok (nt := 24) Go.Proofs.Tryz.func174 (by kernel_rfl) rfl rfl rfl (Nat.le_of_ble_eq_true rfl) fun G => ?_
  simp only [entSt, tmOf, List.append_nil, List.cons_append, List.nil_append]
  refine WPc.len 0 (by simp; rfl) fun hlen => ?_
  simp at hlen
  refine go (L := _ ∧ True) wb0 wb0 wb0 wb0 wb0 ⟨fun _ => ?_, wb0⟩
  refine WPc.loopK (σ := Nat) (fun i => i ≤ vs.length ∧ (vs.take i).all (isBelow n) = true) (fun i => vs.length - i) (fun i => [(9, .sc (.int .i64 i))])  [1, 7, 8] 0 (by simp) (by simp) (by simp) ?_
  rintro i ⟨hi, hall⟩ s hs
  simp at hs
  subst hs
  by_cases hlt : i < vs.length
  · have hv := List.getElem?_eq_getElem hlt
    refine go (L := _ ∧ _ ∧ _ ∧ True) (wa2 @V.cs.eq_1 @hlt) (wb1 (fun v0 (_ : True) => c_impl_cellKind v0)) wb0 wb0 wb0 ⟨fun _ _ hq => ?_, fun _ _ hq => ?_, fun _ _ => ?_, wb0⟩
    · rw [all_at hv (by simp_all [isBelow])]
    all_goals
      refine ⟨i + 1, ⟨⟨by omega, all_next hv (by simp_all [isBelow]) hall⟩, by first | omega | (simp only; omega) | assumption⟩, rfl, rfl, ?_, ?_⟩ <;> simp (disch := omega) [wrap64]
  · refine go (L := _ ∧ True) (wa1 @hlt) wb0 wb0 wb0 wb0 ⟨fun _ => ?_, wb0⟩
    rw [← hall, List.take_of_length_le (by omega)]
end Go.Own
namespace Go.Own
open Go.Lib
theorem contains_nil (sub : List UInt8) : contains [] sub = sub.isEmpty := by
  unfold contains index
  cases sub <;> simp
theorem contains_cons (b : UInt8) (l sub : List UInt8) : contains (b :: l) sub = (sub.isPrefixOf (b :: l) || contains l sub) := by
  unfold contains
  have := index_ge l sub
  rw [index]
  split
  · rename_i h; simp [h]
  · rename_i h
    simp only [h, Bool.false_or]
    split
    · rename_i h2
      have h2 : index l sub = -1 := by simpa using h2
      rw [h2]
    · rename_i h2
      have h2 : index l sub ≠ -1 := by simpa using h2
      by_cases h3 : 0 ≤ index l sub
      · rw [decide_eq_true h3, decide_eq_true (by omega)]
      · omega
theorem contains_skip (sub : List UInt8) : ∀ (w rest : List UInt8), 32 ∉ w → contains (w ++ rest) (32 :: sub) = contains rest (32 :: sub)
  | [], rest, _ => rfl
  | c :: w, rest, h => by
    simp only [List.mem_cons, not_or] at h
    rw [List.cons_append, contains_cons, contains_skip sub w rest h.2]
    have : (32 :: sub).isPrefixOf (c :: (w ++ rest)) = false := by
      simp only [List.isPrefixOf, Bool.and_eq_false_iff, beq_eq_false_iff_ne]
      exact .inl h.1
    rw [this, Bool.false_or]
theorem pre_eq : ∀ (s w rest : List UInt8), 32 ∉ s → 32 ∉ w → (s ++ [32]).isPrefixOf (w ++ 32 :: rest) = decide (s = w)
  | [], [], rest, _, _ => by simp
  | [], c :: w, rest, _, hw => by
    simp only [List.mem_cons, not_or] at hw
    simp [List.isPrefixOf, hw.1]
  | c :: s, [], rest, hs, _ => by
    simp only [List.mem_cons, not_or] at hs
    simp [List.isPrefixOf, Ne.symm hs.1]
  | c :: s, d :: w, rest, hs, hw => by
    simp only [List.mem_cons, not_or] at hs hw
    have ih := pre_eq s w rest hs.2 hw.2
    simp only [List.cons_append, List.isPrefixOf, ih]
    by_cases h : c = d <;> simp [h]
def rowOf (ws : List (List UInt8)) : List UInt8 := ws.flatMap (fun w => 32 :: w) ++ [32]
theorem row_head : ∀ ws : List (List UInt8), ∃ r, rowOf ws = 32 :: r
  | [] => ⟨[], rfl⟩
  | w :: ws => ⟨w ++ rowOf ws, by simp [rowOf]⟩
theorem contains_row (s : List UInt8) (hs : 32 ∉ s) (h0 : s ≠ []) : ∀ ws : List (List UInt8), (∀ w, w ∈ ws → 32 ∉ w) → contains (rowOf ws) (32 :: (s ++ [32])) = decide (s ∈ ws)
  | [], _ => by
    have : rowOf [] = [32] := rfl
    rw [this, contains_cons, contains_nil]
    cases s with
    | nil => exact absurd rfl h0
    | cons c s => simp [List.isPrefixOf]
  | w :: ws, h => by
    have hw := h w (by simp)
    have ih := contains_row s hs h0 ws (fun w hw => h w (by simp [hw]))
    have e : rowOf (w :: ws) = 32 :: (w ++ rowOf ws) := by simp [rowOf]
    rw [e, contains_cons, contains_skip _ _ _ hw, ih]
    obtain ⟨r, hr⟩ := row_head ws
    have : (32 :: (s ++ [32])).isPrefixOf (32 :: (w ++ rowOf ws)) = decide (s = w) := by
      rw [hr, List.isPrefixOf, pre_eq s w r hs hw]; simp
    rw [this]
    by_cases h1 : s = w <;> simp [h1]
theorem contains_one : ∀ (l : List UInt8) (c : UInt8), contains l [c] = decide (c ∈ l)
  | [], c => by rw [contains_nil]; simp
  | b :: l, c => by
    rw [contains_cons, contains_one l c]
    by_cases h : c = b
    · subst h; simp [List.isPrefixOf]
    · simp [List.isPrefixOf, h]
def oneOf (s list : ByteArray) : Bool :=
  decide (s ≠ ⟨#[]⟩) && !Lib.contains s.data.toList [32] && Lib.contains (⟨#[32]⟩ ++ list ++ ⟨#[32]⟩ : ByteArray).data.toList (⟨#[32]⟩ ++ s ++ ⟨#[32]⟩ : ByteArray).data.toList
theorem ba_ext {a b : ByteArray} (h : a.data.toList = b.data.toList) : a = b := by
  cases a; cases b; simp only [ByteArray.mk.injEq]; exact Array.toList_inj.1 h
def isW (ws : List ByteArray) (s : ByteArray) : Bool := ws.any fun w => decide (s = w)
theorem isW_iff {ws : List ByteArray} {s : ByteArray} : isW ws s = true ↔ s ∈ ws := by simp [isW]
theorem isW_not {ws : List ByteArray} {s : ByteArray} (h : s ∉ ws) : isW ws s = false := by
  rw [← Bool.not_eq_true, isW_iff]; exact h
theorem oneOf_eq (s list : ByteArray) (ws : List ByteArray) (h1 : 32 :: list.data.toList ++ [32] = rowOf (ws.map (·.data.toList))) (h2 : ∀ w, w ∈ ws → 32 ∉ w.data.toList) (h3 : (⟨#[]⟩ : ByteArray) ∉ ws) : oneOf s list = isW ws s := by
  have e1 : (⟨#[32]⟩ ++ list ++ ⟨#[32]⟩ : ByteArray).data.toList = 32 :: list.data.toList ++ [32] := by simp
  have e2 : (⟨#[32]⟩ ++ s ++ ⟨#[32]⟩ : ByteArray).data.toList = 32 :: (s.data.toList ++ [32]) := by simp
  unfold oneOf
  rw [e1, e2, h1, contains_one]
  by_cases g0 : s = ⟨#[]⟩
  · subst g0; rw [isW_not h3]; simp
  · by_cases g1 : 32 ∈ s.data.toList
    · have : s ∉ ws := fun hm => h2 s hm g1
      rw [isW_not this]; simp [g1]
    · rw [contains_row _ g1 (fun h => g0 (ba_ext (by simpa using h))) _ (fun w hw => by obtain ⟨x, hx, rfl⟩ := List.mem_map.1 hw; exact h2 x hx)]
      have hmem : s.data.toList ∈ ws.map (·.data.toList) ↔ s ∈ ws := by
        constructor
        · intro h; obtain ⟨x, hx, he⟩ := List.mem_map.1 h; exact ba_ext he ▸ hx
        · intro h; exact List.mem_map.2 ⟨s, h, rfl⟩
      by_cases h : s ∈ ws
      · rw [isW_iff.2 h]; simp only [decide_eq_true (hmem.2 h)]; simp [g0, g1]
      · rw [isW_not h]; simp only [decide_eq_false (fun x => h (hmem.1 x))]; simp
end Go.Own
set_option maxRecDepth 1000000
set_option maxHeartbeats 4000000
namespace Go.Own
attribute [local irreducible] WPc WPL WPS HAny endP
variable [Laid]
open Go.Lib
def w2 : List ByteArray := [⟨#[43]⟩, ⟨#[45]⟩, ⟨#[42]⟩, ⟨#[60]⟩, ⟨#[61]⟩, ⟨#[101, 113, 63]⟩, ⟨#[99, 111, 110, 115]⟩]
@[simp] theorem oneOf_w2 (s : ByteArray) : oneOf s ⟨#[43, 32, 45, 32, 42, 32, 60, 32, 61, 32, 101, 113, 63, 32, 99, 111, 110, 115]⟩ = isW w2 s := oneOf_eq _ _ _ (by decide +kernel) (by decide +kernel) (by simp [w2])
def w1 : List ByteArray := [⟨#[99, 97, 114]⟩, ⟨#[99, 100, 114]⟩, ⟨#[110, 117, 108, 108, 63]⟩, ⟨#[112, 97, 105, 114, 63]⟩, ⟨#[110, 111, 116]⟩, ⟨#[112, 114, 105, 110, 116]⟩, ⟨#[101, 114, 114, 111, 114]⟩, ⟨#[102, 105, 101, 108, 100]⟩, ⟨#[105, 115]⟩]
@[simp] theorem oneOf_w1 (s : ByteArray) : oneOf s ⟨#[99, 97, 114, 32, 99, 100, 114, 32, 110, 117, 108, 108, 63, 32, 112, 97, 105, 114, 63, 32, 110, 111, 116, 32, 112, 114, 105, 110, 116, 32, 101, 114, 114, 111, 114, 32, 102, 105, 101, 108, 100, 32, 105, 115]⟩ = isW w1 s := oneOf_eq _ _ _ (by decide +kernel) (by decide +kernel) (by simp [w1])
def wTyped : List ByteArray := [⟨#[112, 114, 105, 110, 116]⟩, ⟨#[101, 114, 114, 111, 114]⟩, ⟨#[102, 105, 101, 108, 100]⟩, ⟨#[105, 115]⟩]
@[simp] theorem oneOf_wTyped (s : ByteArray) : oneOf s ⟨#[112, 114, 105, 110, 116, 32, 101, 114, 114, 111, 114, 32, 102, 105, 101, 108, 100, 32, 105, 115]⟩ = isW wTyped s := oneOf_eq _ _ _ (by decide +kernel) (by decide +kernel) (by simp [wTyped])
def wWord : List ByteArray := [⟨#[113, 117, 111, 116, 101]⟩, ⟨#[105, 102]⟩, ⟨#[108, 97, 109, 98, 100, 97]⟩, ⟨#[98, 101, 103, 105, 110]⟩, ⟨#[115, 101, 116, 33]⟩, ⟨#[108, 101, 116]⟩, ⟨#[108, 101, 116, 42]⟩, ⟨#[99, 111, 110, 100]⟩, ⟨#[101, 108, 115, 101]⟩, ⟨#[97, 110, 100]⟩, ⟨#[111, 114]⟩, ⟨#[119, 104, 101, 110]⟩, ⟨#[100, 101, 102, 105, 110, 101]⟩]
@[simp] theorem oneOf_wWord (s : ByteArray) : oneOf s ⟨#[113, 117, 111, 116, 101, 32, 105, 102, 32, 108, 97, 109, 98, 100, 97, 32, 98, 101, 103, 105, 110, 32, 115, 101, 116, 33, 32, 108, 101, 116, 32, 108, 101, 116, 42, 32, 99, 111, 110, 100, 32, 101, 108, 115, 101, 32, 97, 110, 100, 32, 111, 114, 32, 119, 104, 101, 110, 32, 100, 101, 102, 105, 110, 101]⟩ = isW wWord s := oneOf_eq _ _ _ (by decide +kernel) (by decide +kernel) (by simp [wWord])
def arity (s : ByteArray) : Int := if isW w2 s = true then 2 else if isW w1 s = true then 1 else if s = ⟨#[109, 97, 107, 101]⟩ then 0 else -1
theorem c_impl_isOneOf [F : Facts.Of] (s list : ByteArray) (h1 : s.size < 4294967000) (h2 : list.size < 4294967000) : Con PP 223 [.sc (.string s), .sc (.string list)] [] [] (fun r o => r = .sc (.bool (oneOf s list))) := by
  have e1 : (⟨#[32]⟩ : ByteArray).size = 1 := rfl
  refine Con.of tok (nt := 21) Go.Proofs.Tryz.func223 (by kernel_rfl) rfl rfl rfl (Nat.le_of_ble_eq_true rfl) fun G => ?_
  simp only [entSt, tmOf, List.append_nil, List.cons_append, List.nil_append]
  have s1 : SAdd ⟨#[32]⟩ list := by unfold SAdd; rw [e1]; omega
  have s2 : SAdd (⟨#[32]⟩ ++ list) ⟨#[32]⟩ := by unfold SAdd; simp only [ByteArray.size_append, e1]; omega
  have s3 : SAdd ⟨#[32]⟩ s := by unfold SAdd; rw [e1]; omega
  have s4 : SAdd (⟨#[32]⟩ ++ s) ⟨#[32]⟩ := by unfold SAdd; simp only [ByteArray.size_append, e1]; omega
  repeat' (first
    | apply WPc.sq
    | (refine WPc.ret (endP.val (.inr rfl) rfl rfl (by simp; rfl) ?_))
    | refine WPL.nil ?_
    | (apply WPL.cL (c_strings_Contains _ _ ?g1); (case q => (repeat' (first | refine And.intro ?_ ?_ | intro _ | exact cleanOut_nil | (refine Eqv.mk ?_; first | rfl | (simp -implicitDefEqProofs [s1, s2, s3, s4]; done)) | (simp -implicitDefEqProofs [s1, s2, s3, s4]; done) | (simp -implicitDefEqProofs [s1, s2, s3, s4]; rfl) | (simp; done) | (simp; rfl) | rfl))); (case g1 => (first | omega | (simp only [ByteArray.size_append, e1]; omega))))
    | (refine WPL.call0f ?_ ?_ ?_; (focus (simp; done)); (focus (simp; done)))
    | ((first | refine WPc.rq tok rfl fun K hK => ?_ | refine WPL.rn tok _ (by simp [ahead, isFn]; rfl) fun K hK => ?_); simp -implicitDefEqProofs +contextual [-Int.not_le, -Int.not_lt, -Nat.not_le, -Nat.not_lt, -List.all_eq_true, -List.all_eq_false, -List.any_eq_true, -List.any_eq_false, s1, s2, s3, s4]; (repeat1' (first | apply hK | apply And.intro | intro _)) <;> clear hK K <;> (try dsimp only [List.drop]))
    | (refine WPc.region ?_; simp only [List.toList_toArray]))
  all_goals simp_all [oneOf]
theorem c_impl_Arity [F : Facts.Of] (s : ByteArray) (h1 : s.size < 4294967000) : Con PP 224 [.sc (.string s)] [] [] (fun r o => r = .sc (.int .i64 (arity s))) := by
  refine Con.of tok (nt := 12) Go.Proofs.Tryz.func224 (by kernel_rfl) rfl rfl rfl (Nat.le_of_ble_eq_true rfl) fun G => ?_
  simp only [entSt, tmOf, List.append_nil, List.cons_append, List.nil_append]
  refine go (L := _ ∧ _ ∧ _ ∧ _ ∧ True) wb0 (wb1 (fun v0 v1 (h : _ ∧ _) => c_impl_isOneOf v0 v1 h.1 h.2)) wb0 wb0 wb0 ⟨fun _ hq => ?_, fun _ hq hq => ?_, fun _ hq hq hq => ?_, fun _ hq hq hq => ?_, wb0⟩
  all_goals simp_all [arity]
theorem c_spec_Arity (s : ByteArray) : Con PP 164 [.sc (.string s)] [] [] (fun r o => r = .sc (.int .i64 (arity s))) := by
  refine Con.of tok (nt := 24) Go.Proofs.Tryz.func164 (by kernel_rfl) rfl rfl rfl (Nat.le_of_ble_eq_true rfl) fun G => ?_
  simp only [entSt, tmOf, List.append_nil, List.cons_append, List.nil_append]
  repeat' (first
    | apply WPc.sq
    | apply WPc.block
    | (refine WPc.ret (endP.val (.inr rfl) rfl rfl (by simp; rfl) ?_))
    | apply WPc.skip
    | (refine WPc.rq tok rfl fun K hK => ?_; simp -implicitDefEqProofs +contextual [-Int.not_le, -Int.not_lt, -Nat.not_le, -Nat.not_lt, -List.all_eq_true, -List.all_eq_false, -List.any_eq_true, -List.any_eq_false]; (repeat1' (first | apply hK | apply And.intro | intro _)) <;> clear hK K <;> (try dsimp only [List.drop]))
    | (refine WPc.condT ?_ ?_; (focus (simp; done)))
    | (refine WPc.cond (by simp [-Bool.not_eq_eq_eq_not]; rfl) (fun hq => ?_) (fun hq => ?_) <;> simp only [hq] <;> (try (exfalso; (simp only [decide_eq_true_eq, decide_eq_false_iff_not] at hq); omega))))
  all_goals simp_all [arity, isW, w1, w2]
def plainP (s : ByteArray) : Bool := decide (0 < arity s) && !isW wTyped s
def sC (s : ByteArray) : List C := [.sc (.string s)]
theorem c_spec_l3In (ws : List ByteArray) (s : ByteArray) : Con PP 161 [.fz (ws.map sC), .sc (.string s)] [] [] (fun r o => r = .sc (.bool (isW ws s))) := by
  refine Con.of tok (nt := 18) Go.Proofs.Tryz.func161 (by kernel_rfl) rfl rfl rfl (Nat.le_of_ble_eq_true rfl) fun G => ?_
  simp only [entSt, tmOf, List.append_nil, List.cons_append, List.nil_append]
  refine WPc.len 0 (by simp; rfl) fun hlen => ?_
  simp at hlen
  refine go (L := _ ∧ True) wb0 wb0 wb0 wb0 wb0 ⟨fun _ => ?_, wb0⟩
  refine WPc.loopK (σ := Nat) (fun i => i ≤ ws.length ∧ (ws.take i).any (fun w => decide (s = w)) = false) (fun i => ws.length - i) (fun i => [(5, .sc (.int .i64 i))])  [0, 1] 0 (by simp) (by simp) (by simp) ?_
  rintro i ⟨hi, hall⟩ s hs
  simp at hs
  subst hs
  by_cases hlt : i < ws.length
  · have hv := List.getElem?_eq_getElem hlt
    refine go (L := _ ∧ _ ∧ True) (wa2 @hlt @sC.eq_1) wb0 wb0 wb0 wb0 ⟨fun _ hq => ?_, fun _ hq => ?_, wb0⟩
    · rw [isW, any_at hv (by simp_all)]
    all_goals
      refine ⟨i + 1, ⟨⟨by omega, any_next hv (by simp at hq ⊢; exact fun e => hq e.symm) hall⟩, by first | omega | (simp only; omega) | assumption⟩, rfl, rfl, ?_, ?_⟩ <;> simp (disch := omega) [wrap64]
  · refine go (L := _ ∧ True) (wa1 @hlt) wb0 wb0 wb0 wb0 ⟨fun _ => ?_, wb0⟩
    rw [List.take_of_length_le (by omega)] at hall
    rw [isW, hall]
theorem c_spec_l3In_word (s : ByteArray) : Con PP 161 [.fz [[.sc (.string ⟨#[113, 117, 111, 116, 101]⟩)], [.sc (.string ⟨#[105, 102]⟩)], [.sc (.string ⟨#[108, 97, 109, 98, 100, 97]⟩)], [.sc (.string ⟨#[98, 101, 103, 105, 110]⟩)], [.sc (.string ⟨#[115, 101, 116, 33]⟩)], [.sc (.string ⟨#[108, 101, 116]⟩)], [.sc (.string ⟨#[108, 101, 116, 42]⟩)], [.sc (.string ⟨#[99, 111, 110, 100]⟩)], [.sc (.string ⟨#[101, 108, 115, 101]⟩)], [.sc (.string ⟨#[97, 110, 100]⟩)], [.sc (.string ⟨#[111, 114]⟩)], [.sc (.string ⟨#[119, 104, 101, 110]⟩)], [.sc (.string ⟨#[100, 101, 102, 105, 110, 101]⟩)]], .sc (.string s)] [] [] (fun r o => r = .sc (.bool (isW wWord s))) := c_spec_l3In wWord s
theorem c_spec_l3Word (s : ByteArray) : Con PP 163 [.sc (.string s)] [] [] (fun r o => r = .sc (.bool (isW wWord s))) := by
  refine Con.of tok (nt := 6) Go.Proofs.Tryz.func163 (by kernel_rfl) rfl rfl rfl (Nat.le_of_ble_eq_true rfl) fun G => ?_
  simp only [entSt, tmOf, List.append_nil, List.cons_append, List.nil_append]
  refine go (L := _ ∧ True) (wa1 @sC.eq_1) (wb1 (fun v0 (_ : True) => c_spec_l3In_word v0)) wb0 wb0 wb0 ⟨fun _ => ?_, wb0⟩
  all_goals rfl
end Go.Own
set_option maxRecDepth 1000000
set_option maxHeartbeats 4000000
namespace Go.Own
attribute [local irreducible] WPc WPL WPS HAny endP
variable [Laid]
open Go.Lib
@[simp] theorem bt_nonneg (s : ByteArray) (i : Int) : 0 ≤ bt s i := by unfold bt; split <;> omega
@[simp] theorem bt_le (s : ByteArray) (i : Int) : bt s i ≤ 255 := by
  unfold bt; split
  · have := (s[i.toNat]'(by assumption)).toNat_lt; omega
  · omega
def dec (n : Int) : ByteArray := ⟨(itoa n).toArray⟩
theorem c_impl_Dec [F : Facts.Of] (n : Int) (h0 : -9223372036854775808 ≤ n) (h1 : n ≤ 9223372036854775807) : Con PP 234 [.sc (.int .i64 n)] [] [] (fun r o => r = .sc (.string (dec n))) := by
  refine Con.of tok (nt := 5) Go.Proofs.Tryz.func234 (by kernel_rfl) rfl rfl rfl (Nat.le_of_ble_eq_true rfl) fun G => ?_
  simp only [entSt, tmOf, List.append_nil, List.cons_append, List.nil_append]
  refine go (L := _ ∧ True) wb0 (wb1 (fun v0 (h : _ ∧ _) => c_strconv_Itoa v0 h.1 h.2)) wb0 wb0 wb0 ⟨fun _ => ?_, wb0⟩
  all_goals rfl
def isDigit (c : Int) : Bool := decide (48 ≤ c) && decide (c ≤ 57)
def isSym (c : Int) : Bool := decide (97 ≤ c) && decide (c ≤ 122) || isDigit c || [33, 63, 42, 47, 60, 61, 62, 43, 45, 95].contains c
theorem sym_impl : ∀ n : Fin 256, ((decide (97 ≤ (n.val : Int)) && decide ((n.val : Int) ≤ 122)) || (decide (48 ≤ (n.val : Int)) && decide ((n.val : Int) ≤ 57)) || decide (0 ≤ Lib.indexByte [33, 63, 42, 47, 60, 61, 62, 43, 45, 95] (n.val : Int).toNat.toUInt8)) = isSym n.val := by decide +kernel
theorem c_impl_isSymByte (c : Int) (h0 : 0 ≤ c) (h1 : c ≤ 255) : Con PP 226 [.sc (.int .u8 c)] [] [] (fun r o => r = .sc (.bool (isSym c))) := by
  have key := sym_impl ⟨c.toNat, by omega⟩
  simp only [show ((c.toNat : Nat) : Int) = c by omega] at key
  rw [← key]
  refine Con.of tok (nt := 22) Go.Proofs.Tryz.func226 (by kernel_rfl) rfl rfl rfl (Nat.le_of_ble_eq_true rfl) fun G => ?_
  simp only [entSt, tmOf, List.append_nil, List.cons_append, List.nil_append]
  refine go (L := _ ∧ _ ∧ _ ∧ _ ∧ _ ∧ _ ∧ _ ∧ True) wb0 (wb1 (fun v0 v1 (_ : True) => c_strings_IndexByte v0 v1)) wb0 wb0 wb0 ⟨fun _ _ _ _ _ => ?_, fun _ _ _ _ _ => ?_, fun _ _ _ _ => ?_, fun _ _ _ => ?_, fun _ _ _ _ => ?_, fun _ _ _ _ => ?_, fun _ _ _ => ?_, wb0⟩
  all_goals (simp_all; try omega)
theorem c_spec_l2Digit (c : Int) : Con PP 165 [.sc (.int .u8 c)] [] [] (fun r o => r = .sc (.bool (isDigit c))) := by
  refine Con.of tok (nt := 9) Go.Proofs.Tryz.func165 (by kernel_rfl) rfl rfl rfl (Nat.le_of_ble_eq_true rfl) fun G => ?_
  simp only [entSt, tmOf, List.append_nil, List.cons_append, List.nil_append]
  refine go (L := _ ∧ _ ∧ True) wb0 wb0 wb0 wb0 wb0 ⟨fun _ _ => ?_, fun _ _ => ?_, wb0⟩
  all_goals (simp_all [isDigit]; try omega)
def inSet (b : Int) (s : ByteArray) : Bool := (List.range s.size).any fun i => decide (bt s i = b)
theorem c_spec_l2In (b : Int) (s : ByteArray) (hs : s.size ≤ 9223372036854775807) : Con PP 218 [.sc (.int .u8 b), .sc (.string s)] [] [] (fun r o => r = .sc (.bool (inSet b s))) := by
  refine Con.of tok (nt := 17) Go.Proofs.Tryz.func218 (by kernel_rfl) rfl rfl rfl (Nat.le_of_ble_eq_true rfl) fun G => ?_
  simp only [entSt, tmOf, List.append_nil, List.cons_append, List.nil_append]
  refine go (L := _ ∧ True) wb0 wb0 wb0 wb0 wb0 ⟨fun _ => ?_, wb0⟩
  refine WPc.loopK (σ := Nat) (fun i => i ≤ s.size ∧ ((List.range s.size).take i).any (fun i => decide (bt s i = b)) = false) (fun i => s.size - i) (fun i => [(5, .sc (.int .i64 i))])  [0, 1] 0 (by simp) (by simp) (by simp) ?_
  rintro i ⟨hi, hall⟩ s hs
  simp at hs
  subst hs
  by_cases hlt : i < s.size
  · have hv : (List.range s.size)[i]? = some i := List.getElem?_range hlt
    refine go (L := _ ∧ _ ∧ True) (wa1 @hlt) wb0 wb0 wb0 wb0 ⟨fun _ hq => ?_, fun _ hq => ?_, wb0⟩
    · rw [inSet, any_at hv (by simp_all)]
    all_goals
      refine ⟨i + 1, ⟨⟨by omega, any_next hv (by simp_all) hall⟩, by first | omega | (simp only; omega) | assumption⟩, rfl, rfl, ?_, ?_⟩ <;> simp (disch := omega) [wrap64]
  · refine go (L := _ ∧ True) (wa1 @hlt) wb0 wb0 wb0 wb0 ⟨fun _ => ?_, wb0⟩
    rw [List.take_of_length_le (by simp; omega)] at hall
    rw [inSet, hall]
theorem sym_spec : ∀ n : Fin 256, ((decide (97 ≤ (n.val : Int)) && decide ((n.val : Int) ≤ 122)) || isDigit n.val || inSet n.val ⟨#[33, 63, 42, 47, 60, 61, 62, 43, 45, 95]⟩) = isSym n.val := by decide +kernel
theorem c_spec_l2Sign (c : Int) (h0 : 0 ≤ c) (h1 : c ≤ 255) : Con PP 166 [.sc (.int .u8 c)] [] [] (fun r o => r = .sc (.bool (isSym c))) := by
  have key := sym_spec ⟨c.toNat, by omega⟩
  simp only [show ((c.toNat : Nat) : Int) = c by omega] at key
  rw [← key]
  refine Con.of tok (nt := 17) Go.Proofs.Tryz.func166 (by kernel_rfl) rfl rfl rfl (Nat.le_of_ble_eq_true rfl) fun G => ?_
  simp only [entSt, tmOf, List.append_nil, List.cons_append, List.nil_append]
  refine go (L := _ ∧ _ ∧ _ ∧ _ ∧ _ ∧ True) wb0 (wb2 (fun v0 (_ : True) => c_spec_l2Digit v0) (fun v0 v1 (h : _) => c_spec_l2In v0 v1 h)) wb0 wb0 wb0 ⟨fun _ _ _ _ => ?_, fun _ _ _ _ => ?_, fun _ _ _ => ?_, fun _ _ _ => ?_, fun _ _ _ => ?_, wb0⟩
  all_goals (simp_all; try omega)
end Go.Own
namespace Go.Own
open Go.Lib
def isDigB (c : UInt8) : Bool := decide (48 ≤ c.toNat) && decide (c.toNat ≤ 57)
def foldD (acc : Nat) (l : List UInt8) : Nat := l.foldl (fun n c => if isDigB c then n * 10 + (c.toNat - 48) else n) acc
def cntD (l : List UInt8) : Nat := l.countP isDigB
def decVal (l : List UInt8) : Int := if l.head? = some 45 then -(foldD 0 l : Int) else foldD 0 l
def readDec (l : List UInt8) : Option Int := if itoa (decVal l) = l ∧ -999999999 ≤ decVal l ∧ decVal l ≤ 999999999 then some (decVal l) else none
theorem foldD_append (acc : Nat) (a b : List UInt8) : foldD acc (a ++ b) = foldD (foldD acc a) b := by simp [foldD]
theorem dig_toNat {d : Nat} (h : d < 10) : (UInt8.ofNat (48 + d)).toNat = 48 + d := by simp [UInt8.toNat_ofNat']; omega
theorem dig_isDig {d : Nat} (h : d < 10) : isDigB (UInt8.ofNat (48 + d)) = true := by
  unfold isDigB; rw [dig_toNat h]; simp; omega
theorem dec_all : ∀ (u : Nat) (c : UInt8), c ∈ decDigits u → isDigB c = true := by
  intro u
  induction u using Nat.strongRecOn with
  | _ u ih =>
    intro c hc
    rw [decDigits] at hc
    split at hc
    · rename_i h
      simp only [List.mem_cons, List.not_mem_nil, or_false] at hc
      subst hc; exact dig_isDig h
    · rcases List.mem_append.1 hc with hc | hc
      · exact ih _ (by omega) c hc
      · simp only [List.mem_cons, List.not_mem_nil, or_false] at hc
        subst hc; exact dig_isDig (Nat.mod_lt _ (by omega))
theorem foldD_dec : ∀ u, foldD 0 (decDigits u) = u := by
  intro u
  induction u using Nat.strongRecOn with
  | _ u ih =>
    rw [decDigits]
    split
    · rename_i h
      simp only [foldD, List.foldl_cons, List.foldl_nil, dig_isDig h, if_true, dig_toNat h]; omega
    · rename_i h
      rw [foldD_append, ih _ (by omega)]
      have h2 : u % 10 < 10 := Nat.mod_lt _ (by omega)
      simp only [foldD, List.foldl_cons, List.foldl_nil, dig_isDig h2, if_true, dig_toNat h2]; omega
theorem cnt_all {l : List UInt8} (h : ∀ c, c ∈ l → isDigB c = true) : cntD l = l.length := List.countP_eq_length.2 h
theorem cnt_dec (u : Nat) : cntD (decDigits u) = nDigits u := by rw [cnt_all (dec_all u), decDigits_length]
theorem nDigits_le : ∀ (k u : Nat), 1 ≤ k → u < 10 ^ k → nDigits u ≤ k
  | 0, u, h, _ => by omega
  | 1, u, _, h => by rw [nDigits_small (by simpa using h)]; exact Nat.le_refl _
  | k + 2, u, _, h => by
    by_cases hu : u < 10
    · rw [nDigits_small hu]; omega
    · rw [nDigits_big hu]
      have := nDigits_le (k + 1) (u / 10) (by omega) (by rw [Nat.pow_succ] at h; omega)
      omega
theorem nDigits_9 (u : Nat) : nDigits u ≤ 9 ↔ u ≤ 999999999 := by
  constructor
  · intro h
    have h1 := lt_pow_nDigits u
    have h2 : 10 ^ nDigits u ≤ 10 ^ 9 := Nat.pow_le_pow_right (by omega) h
    omega
  · intro h; exact nDigits_le 9 u (by omega) (by omega)
theorem decDigits_ne (u : Nat) : decDigits u ≠ [] := fun h => by
  have h1 := decDigits_length u
  rw [h] at h1
  have h2 := nDigits_pos u
  simp at h1; omega
theorem minus_not : isDigB 45 = false := by decide
theorem head_dec (u : Nat) : (decDigits u).head? ≠ some 45 := fun h => by
  have hm : (45 : UInt8) ∈ decDigits u := List.mem_of_head? h
  have := dec_all u _ hm
  rw [minus_not] at this
  exact absurd this (by simp)
theorem decVal_itoa (n : Int) : decVal (itoa n) = n := by
  unfold itoa decVal
  split
  · simp only [List.head?_cons, if_true]
    have : foldD 0 (45 :: decDigits n.natAbs) = foldD 0 (decDigits n.natAbs) := by simp [foldD, minus_not]
    rw [this, foldD_dec]; omega
  · rw [if_neg (head_dec _), foldD_dec]; omega
theorem readDec_itoa {n : Int} (h0 : -999999999 ≤ n) (h1 : n ≤ 999999999) : readDec (itoa n) = some n := by
  unfold readDec; rw [decVal_itoa, if_pos ⟨rfl, h0, h1⟩]
theorem readDec_some {l : List UInt8} {n : Int} : readDec l = some n ↔ itoa n = l ∧ -999999999 ≤ n ∧ n ≤ 999999999 := by
  constructor
  · intro h
    unfold readDec at h
    split at h
    · injection h with h; subst h; assumption
    · simp at h
  · rintro ⟨rfl, h0, h1⟩; exact readDec_itoa h0 h1
theorem cnt_itoa (n : Int) : cntD (itoa n) = nDigits n.natAbs := by
  unfold itoa
  split
  · simp only [cntD, List.countP_cons, minus_not]
    exact cnt_dec _
  · rw [cnt_dec]; congr 1; omega
theorem len_itoa (n : Int) : (itoa n).length = nDigits n.natAbs + if n < 0 then 1 else 0 := by
  unfold itoa
  split
  · simp [decDigits_length]
  · rw [decDigits_length, Nat.add_zero]; congr 1; omega
theorem foldD_mono (l : List UInt8) : ∀ acc, (∀ c, c ∈ l → isDigB c = true) → acc ≤ foldD acc l := by
  induction l with
  | nil => intro acc _; exact Nat.le_refl _
  | cons c l ih =>
    intro acc h
    have hc := h c (by simp)
    have := ih (acc * 10 + (c.toNat - 48)) (fun c hc => h c (by simp [hc]))
    have e : foldD acc (c :: l) = foldD (acc * 10 + (c.toNat - 48)) l := by simp [foldD, hc]
    rw [e]; omega
theorem parse_fold : ∀ (l : List UInt8) (acc : Nat), (∀ c, c ∈ l → isDigB c = true) → foldD acc l < 18446744073709551616 → parseUint10 acc l = .ok (foldD acc l)
  | [], acc, _, _ => rfl
  | c :: l, acc, h, hlt => by
    have hc := h c (by simp)
    have hl : ∀ c, c ∈ l → isDigB c = true := fun c hc => h c (by simp [hc])
    have e : foldD acc (c :: l) = foldD (acc * 10 + (c.toNat - 48)) l := by simp [foldD, hc]
    rw [e] at hlt ⊢
    have hm := foldD_mono l (acc * 10 + (c.toNat - 48)) hl
    simp only [isDigB, Bool.and_eq_true, decide_eq_true_eq] at hc
    rw [parseUint10, if_pos hc, if_neg (by omega), if_neg (by omega)]
    exact parse_fold l _ hl hlt
theorem atoi_itoa {n : Int} (h0 : -999999999 ≤ n) (h1 : n ≤ 999999999) : atoiAll (itoa n) = .ok n := by
  unfold itoa
  split
  · rename_i hn
    unfold atoiAll
    simp only [show (45 : UInt8).toNat = 45 from rfl, or_true, if_true, true_and, not_true, false_and, if_false]
    have hp := parse_fold (decDigits n.natAbs) 0 (dec_all _) (by rw [foldD_dec]; omega)
    unfold parseMag
    rw [if_neg (decDigits_ne _), hp, foldD_dec]
    simp only
    rw [if_neg (by omega)]
    congr 1; omega
  · rename_i hn
    have hp := parse_fold (decDigits n.toNat) 0 (dec_all _) (by rw [foldD_dec]; omega)
    have hall := dec_all n.toNat
    have hne := decDigits_ne n.toNat
    rw [foldD_dec] at hp
    generalize decDigits n.toNat = l at hp hall hne
    cases l with
    | nil => exact absurd rfl hne
    | cons c r =>
      have hc := hall c (by simp)
      simp only [isDigB, Bool.and_eq_true, decide_eq_true_eq] at hc
      unfold atoiAll
      simp only
      rw [if_neg (by omega)]
      unfold parseMag
      rw [if_neg (by simp), hp]
      simp only
      rw [if_neg (by omega), if_neg (by omega), if_neg (by omega)]
      congr 1; omega
end Go.Own
namespace Go.Own
open Go.Lib
theorem trim_itoa (n : Int) : (trimPrefix (itoa n) [45]).length = nDigits n.natAbs := by
  unfold trimPrefix itoa
  split
  · simp [hasPrefix, decDigits_length, List.isPrefixOf]
  · have hh := head_dec n.toNat
    have hn : n.toNat = n.natAbs := by omega
    rw [hn] at hh ⊢
    cases hd : decDigits n.natAbs with
    | nil => exact absurd hd (decDigits_ne _)
    | cons c r =>
      rw [hd] at hh
      simp only [List.head?_cons, ne_eq, Option.some.injEq] at hh
      have : hasPrefix (c :: r) [45] = false := by
        simp [hasPrefix, List.isPrefixOf]; exact fun h => hh h.symm
      rw [this]
      simp only [Bool.false_eq_true, if_false]
      rw [← hd, decDigits_length]
theorem readDec_none_len {l : List UInt8} (h : ¬ (1 ≤ (trimPrefix l [45]).length ∧ (trimPrefix l [45]).length ≤ 9)) : readDec l = none := by
  cases hr : readDec l with
  | none => rfl
  | some n =>
    obtain ⟨rfl, h0, h1⟩ := readDec_some.1 hr
    rw [trim_itoa] at h
    exact absurd ⟨nDigits_pos _, (nDigits_9 _).2 (by omega)⟩ h
theorem readDec_ok {l : List UInt8} {v : Int} (h : (trimPrefix l [45]).length ≤ 9) (hv : itoa v = l) : readDec l = some v := by
  subst hv
  rw [trim_itoa] at h
  have := (nDigits_9 _).1 h
  exact readDec_itoa (by omega) (by omega)
theorem readDec_off {l : List UInt8} {v : Int} (h : atoiAll l = .ok v) (hv : itoa v ≠ l) : readDec l = none := by
  cases hr : readDec l with
  | none => rfl
  | some n =>
    obtain ⟨rfl, h0, h1⟩ := readDec_some.1 hr
    rw [atoi_itoa h0 h1] at h
    injection h with h
    subst h
    exact absurd rfl hv
theorem readDec_bad {l : List UInt8} (h : ∀ v, atoiAll l ≠ .ok v) : readDec l = none := by
  cases hr : readDec l with
  | none => rfl
  | some n =>
    obtain ⟨rfl, h0, h1⟩ := readDec_some.1 hr
    exact absurd (atoi_itoa h0 h1) (h n)
def ddig (m : Int) : List UInt8 := if m = 0 then [] else decDigits m.natAbs
theorem ddig_step {m : Int} (h : m ≠ 0) : ddig m = ddig (m.tdiv 10) ++ [UInt8.ofNat (48 + m.natAbs % 10)] := by
  have h1 : (m.tdiv 10).natAbs = m.natAbs / 10 := by rw [Int.natAbs_tdiv]; rfl
  unfold ddig
  rw [if_neg h, decDigits]
  split
  · rename_i hlt
    rw [if_pos (by omega)]
    simp [Nat.mod_eq_of_lt hlt]
  · rw [if_neg (by omega), h1]
theorem tmod_abs (m : Int) : (m.tmod 10).natAbs = m.natAbs % 10 := by rw [Int.natAbs_tmod]; rfl
theorem foldD_lt : ∀ (l : List UInt8), foldD 0 l < 10 ^ l.length := by
  intro l
  induction h : l.length generalizing l with
  | zero => have := List.eq_nil_of_length_eq_zero h; subst this; simp [foldD]
  | succ n ih =>
    have hne : l ≠ [] := fun e => by subst e; simp at h
    rw [← List.dropLast_concat_getLast hne, foldD_append]
    have := ih l.dropLast (by simp [h])
    simp only [foldD, List.foldl_cons, List.foldl_nil] at this ⊢
    rw [Nat.pow_succ]
    split
    · rename_i hd
      simp only [isDigB, Bool.and_eq_true, decide_eq_true_eq] at hd
      omega
    · omega
theorem foldD_snoc {l : List UInt8} {i : Nat} {c : UInt8} (h : l[i]? = some c) : foldD 0 (l.take (i + 1)) = if isDigB c then foldD 0 (l.take i) * 10 + (c.toNat - 48) else foldD 0 (l.take i) := by
  rw [List.take_add_one, h, Option.toList_some, foldD_append]; simp [foldD]
theorem cntD_snoc {l : List UInt8} {i : Nat} {c : UInt8} (h : l[i]? = some c) : cntD (l.take (i + 1)) = if isDigB c then cntD (l.take i) + 1 else cntD (l.take i) := by
  rw [List.take_add_one, h, Option.toList_some, cntD, List.countP_append]; simp [cntD, List.countP_cons]; split <;> simp
theorem readDec_spec {l : List UInt8} (hl : l.length ≤ 10) (hk : cntD l ≤ 9) (h : itoa (decVal l) = l) : readDec l = some (decVal l) := by
  have h1 := cnt_itoa (decVal l)
  rw [h] at h1
  have := (nDigits_9 (decVal l).natAbs).1 (by omega)
  exact readDec_some.2 ⟨h, by omega, by omega⟩
theorem readDec_spec_no {l : List UInt8} (h : ¬ (l.length ≤ 10 ∧ cntD l ≤ 9 ∧ itoa (decVal l) = l)) : readDec l = none := by
  cases hr : readDec l with
  | none => rfl
  | some n =>
    obtain ⟨rfl, h0, h1⟩ := readDec_some.1 hr
    have h2 := (nDigits_9 n.natAbs).2 (by omega)
    refine absurd ⟨?_, ?_, ?_⟩ h
    · rw [len_itoa]; split <;> omega
    · rw [cnt_itoa]; exact h2
    · rw [decVal_itoa]
end Go.Own
set_option maxRecDepth 1000000
set_option maxHeartbeats 4000000
namespace Go.Own
attribute [local irreducible] WPc WPL WPS HAny endP
variable [Laid]
open Go.Lib Go.RowKit
theorem Con.lib2 {f : Nat} {fn : Func} {vals : List Value} {Φ : AV → List (Nat × Root) → Prop} (hf : PP.funcs[f]? = some fn) (hn : (fn.name == "runtime.NumGoroutine") = false) (hb : fn.body.isNone = false)
    (h : ∀ w, Laid.ok w → Calls PP f vals.toArray w (fun e w' => ∃ u v, e = .returned (.tuple #[u, v]) ∧ Φ (.tup [.sc u, .sc v]) [] ∧ Below w.heap.size w w')) : Con PP f (vals.map .sc) [] [] Φ := by
  refine ⟨⟨fn, hf, hn, hb⟩, fun β w args hl h1 h2 h3 h4 h5 => ?_⟩
  have := args_of h1 h2
  subst this
  refine (h w hl.ok).mono fun e w' ⟨u, v, he, hv, hbl⟩ => ⟨.tuple #[u, v], .tup [.sc u, .sc v], [], β, he, ?_⟩
  exact { ok := hv, res := .tup _ _ (fun n => #[u, v].getD n undef) rfl (fun n x hx => by
            match n, hx with
            | 0, hx => rfl
            | 1, hx => rfl
            | n + 2, hx => simp at hx) (fun n x hx => by
            match n, hx with
            | 0, hx => simp at hx; subst hx; exact .sc _
            | 1, hx => simp at hx; subst hx; exact .sc _
            | n + 2, hx => simp at hx),
          ob := fun id e k es hl => by simp [lo] at hl, uq := h4, lt := fun b x hb => Nat.lt_of_lt_of_le (h5 b x hb) hbl.size, keep := fun i hi => by simp at hi,
          fr := fun b hb _ => hbl.block b hb, old := fun b x hb _ => by rw [hb]; simp, hs := hbl.size, os := hbl.os, tape := hbl.tape, output := hbl.output,
          to := fun b id p hb _ => ⟨hb, hbl.block b (h5 b _ hb)⟩, back := fun b id p hb _ => hb }
theorem k_Atoi_ok (s : ByteArray) (hmax : s.size ≤ 9223372036854775806) (v : Int) (h : atoiAll s.data.toList = .ok v) : Con PP 249 [.sc (.string s)] [] [] (fun r o => r = .tup [.sc (.int .i64 v), .sc .nilIface]) :=
  Con.lib2 (vals := [.string s]) Go.Proofs.Tryz.func249 (by kernel_rfl) (by kernel_rfl) fun w _ => (Go.Proofs.Tryz.strconv_Atoi_ok s hmax v h w).mono fun e w' ⟨h1, h2⟩ => ⟨_, _, h1, rfl, by
    rcases h2 with rfl | ⟨t, rfl⟩
    · exact Below.refl _ _
    · exact bytesWorld_below _ _ _⟩
theorem k_Atoi_bad [F : Facts.Of] (s : ByteArray) (hmax : s.size ≤ 281474976710656) (h : ∀ v, atoiAll s.data.toList ≠ .ok v) : Con PP 249 [.sc (.string s)] [] [] (fun r o => ∃ y : Int × Nat × Value, True ∧ r = .tup [.sc (.int .i64 y.1), .sc (.iface y.2.1 y.2.2)] ∧ o = []) :=
  Con.lib2 (vals := [.string s]) Go.Proofs.Tryz.func249 (by kernel_rfl) (by kernel_rfl) fun w hw => by
    rcases ha : atoiAll s.data.toList with v | _ | _
    · exact absurd ha (h v)
    · obtain ⟨ev, h1, h2⟩ := (F.facts w hw).syn
      exact (Go.Proofs.Tryz.strconv_Atoi_syntax s hmax (ha.trans rfl) ev w h1 h2).mono fun e w' ⟨N, g1, g2, g3, g4⟩ => ⟨_, _, g1, ⟨(_, _, _), trivial, rfl, rfl⟩, g4⟩
    · obtain ⟨ev, h1, h2⟩ := (F.facts w hw).rng
      exact (Go.Proofs.Tryz.strconv_Atoi_range s hmax ha ev w h1 h2).mono fun e w' ⟨N, g1, g2, g3, g4⟩ => ⟨_, _, g1, ⟨(_, _, _), trivial, rfl, rfl⟩, g4⟩
def rd (s : ByteArray) : Option Int := readDec s.data.toList
theorem dec_ne {v : Int} {s : ByteArray} : dec v = s ↔ itoa v = s.data.toList := by
  constructor
  · rintro rfl; simp [dec]
  · intro h; unfold dec; exact ba_ext (by simp [h])
theorem c_impl_ReadDec [F : Facts.Of] (s : ByteArray) (h1 : s.size ≤ 281474976710656) : Con PP 227 [.sc (.string s)] [] [] (fun r o => r = .tup [.sc (.int .i64 ((rd s).getD 0)), .sc (.bool (rd s).isSome)]) := by
  by_cases hlen : 1 ≤ (trimPrefix s.data.toList [45]).length ∧ (trimPrefix s.data.toList [45]).length ≤ 9
  · have hin : inRange ((trimPrefix s.data.toList [45]).length : Nat) 1 9 = true := by simp [inRange]; omega
    by_cases hok : ∃ v, atoiAll s.data.toList = .ok v
    · obtain ⟨v, hv⟩ := hok
      obtain ⟨b1, b2⟩ := atoiAll_bounds hv
      have hr : rd s = if dec v = s then some v else none := by
        split
        · rename_i h; exact readDec_ok hlen.2 (dec_ne.1 h)
        · rename_i h; exact readDec_off hv (fun e => h (dec_ne.2 e))
      rw [hr]
      have kA := k_Atoi_ok s (by omega) v hv
      refine Con.of tok (nt := 27) Go.Proofs.Tryz.func227 (by kernel_rfl) rfl rfl rfl (Nat.le_of_ble_eq_true rfl) fun G => ?_
      simp only [entSt, tmOf, List.append_nil, List.cons_append, List.nil_append]
      repeat' (first
        | apply WPc.sq
        | (refine WPc.ret (endP.val (.inr rfl) rfl rfl (by simp; rfl) ?_))
        | apply WPc.skip
        | refine WPL.nil ?_
        | (apply WPL.cL (c_strings_TrimPrefix _ _); (case q => (repeat' (first | refine And.intro ?_ ?_ | intro _ | exact cleanOut_nil | (refine Eqv.mk ?_; first | rfl | (simp -implicitDefEqProofs [hin, ByteArray.size]; done)) | (simp -implicitDefEqProofs [hin, ByteArray.size]; done) | (simp -implicitDefEqProofs [hin, ByteArray.size]; rfl) | (simp; done) | (simp; rfl) | rfl))))
        | (apply WPL.cL (c_impl_inRange _ _ _); (case q => (repeat' (first | refine And.intro ?_ ?_ | intro _ | exact cleanOut_nil | (refine Eqv.mk ?_; first | rfl | (simp -implicitDefEqProofs [hin, ByteArray.size]; done)) | (simp -implicitDefEqProofs [hin, ByteArray.size]; done) | (simp -implicitDefEqProofs [hin, ByteArray.size]; rfl) | (simp; done) | (simp; rfl) | rfl))))
        | (apply WPL.cL kA; (case q => (repeat' (first | refine And.intro ?_ ?_ | intro _ | exact cleanOut_nil | (refine Eqv.mk ?_; first | rfl | (simp -implicitDefEqProofs [hin, ByteArray.size]; done)) | (simp -implicitDefEqProofs [hin, ByteArray.size]; done) | (simp -implicitDefEqProofs [hin, ByteArray.size]; rfl) | (simp; done) | (simp; rfl) | rfl))))
        | (apply WPL.cL (c_impl_Dec _ ?g1 ?g2); (case q => (repeat' (first | refine And.intro ?_ ?_ | intro _ | exact cleanOut_nil | (refine Eqv.mk ?_; first | rfl | (simp -implicitDefEqProofs [hin, ByteArray.size]; done)) | (simp -implicitDefEqProofs [hin, ByteArray.size]; done) | (simp -implicitDefEqProofs [hin, ByteArray.size]; rfl) | (simp; done) | (simp; rfl) | rfl))); (case g1 => (first | assumption | omega | decide | (simp; done) | (simp_all; done) | (intros; omega))); (case g2 => (first | assumption | omega | decide | (simp; done) | (simp_all; done) | (intros; omega))))
        | ((first | refine WPc.rq tok rfl fun K hK => ?_ | refine WPL.rn tok _ (by simp [ahead, isFn]; rfl) fun K hK => ?_); simp -implicitDefEqProofs +contextual [-Int.not_le, -Int.not_lt, -Nat.not_le, -Nat.not_lt, -List.all_eq_true, -List.all_eq_false, -List.any_eq_true, -List.any_eq_false, hin, ByteArray.size]; (repeat1' (first | apply hK | apply And.intro | intro _)) <;> clear hK K <;> (try dsimp only [List.drop]))
        | (refine WPc.region ?_; simp only [List.toList_toArray])
        | (refine WPc.condF ?_ ?_; (focus (simp; done)))
        | (refine WPc.cond (by simp [-Bool.not_eq_eq_eq_not]; rfl) (fun hq => ?_) (fun hq => ?_) <;> simp only [hq] <;> (try (exfalso; (simp only [decide_eq_true_eq, decide_eq_false_iff_not] at hq); omega))))
      all_goals simp_all
    · have hr : rd s = none := readDec_bad fun v h => hok ⟨v, h⟩
      rw [hr]
      have kA := k_Atoi_bad s h1 fun v h => hok ⟨v, h⟩
      refine Con.of tok (nt := 27) Go.Proofs.Tryz.func227 (by kernel_rfl) rfl rfl rfl (Nat.le_of_ble_eq_true rfl) fun G => ?_
      simp only [entSt, tmOf, List.append_nil, List.cons_append, List.nil_append]
      repeat' (first
        | apply WPc.sq
        | (refine WPc.ret (endP.val (.inr rfl) rfl rfl (by simp; rfl) ?_))
        | apply WPc.skip
        | refine WPL.nil ?_
        | (apply WPL.cL (c_strings_TrimPrefix _ _); (case q => (repeat' (first | refine And.intro ?_ ?_ | intro _ | exact cleanOut_nil | (refine Eqv.mk ?_; first | rfl | (simp -implicitDefEqProofs [hin, ByteArray.size]; done)) | (simp -implicitDefEqProofs [hin, ByteArray.size]; done) | (simp -implicitDefEqProofs [hin, ByteArray.size]; rfl) | (simp; done) | (simp; rfl) | rfl))))
        | (apply WPL.cL (c_impl_inRange _ _ _); (case q => (repeat' (first | refine And.intro ?_ ?_ | intro _ | exact cleanOut_nil | (refine Eqv.mk ?_; first | rfl | (simp -implicitDefEqProofs [hin, ByteArray.size]; done)) | (simp -implicitDefEqProofs [hin, ByteArray.size]; done) | (simp -implicitDefEqProofs [hin, ByteArray.size]; rfl) | (simp; done) | (simp; rfl) | rfl))))
        | (apply WPL.cR kA; (case q => (repeat' (first | refine And.intro ?_ ?_ | intro _ | exact cleanOut_nil | (refine Eqv.mk ?_; first | rfl | (simp -implicitDefEqProofs [hin, ByteArray.size]; done)) | (simp -implicitDefEqProofs [hin, ByteArray.size]; done) | (simp -implicitDefEqProofs [hin, ByteArray.size]; rfl) | (simp; done) | (simp; rfl) | rfl))); (intro y hy s hs; simp at hs; subst hs))
        | (refine WPL.call0f ?_ ?_ ?_; (focus (simp; done)); (focus (simp; done)))
        | ((first | refine WPc.rq tok rfl fun K hK => ?_ | refine WPL.rn tok _ (by simp [ahead, isFn]; rfl) fun K hK => ?_); simp -implicitDefEqProofs +contextual [-Int.not_le, -Int.not_lt, -Nat.not_le, -Nat.not_lt, -List.all_eq_true, -List.all_eq_false, -List.any_eq_true, -List.any_eq_false, hin, ByteArray.size]; (repeat1' (first | apply hK | apply And.intro | intro _)) <;> clear hK K <;> (try dsimp only [List.drop]))
        | (refine WPc.region ?_; simp only [List.toList_toArray])
        | (refine WPc.condT ?_ ?_; (focus (simp; done)))
        | (refine WPc.condF ?_ ?_; (focus (simp; done))))
      all_goals simp_all
  · have hr : rd s = none := readDec_none_len hlen
    have hin : inRange ((trimPrefix s.data.toList [45]).length : Nat) 1 9 = false := by simp [inRange]; omega
    rw [hr]
    refine Con.of tok (nt := 27) Go.Proofs.Tryz.func227 (by kernel_rfl) rfl rfl rfl (Nat.le_of_ble_eq_true rfl) fun G => ?_
    simp only [entSt, tmOf, List.append_nil, List.cons_append, List.nil_append]
    repeat' (first
      | apply WPc.sq
      | (refine WPc.ret (endP.val (.inr rfl) rfl rfl (by simp; rfl) ?_))
      | refine WPL.nil ?_
      | (apply WPL.cL (c_strings_TrimPrefix _ _); (case q => (repeat' (first | refine And.intro ?_ ?_ | intro _ | exact cleanOut_nil | (refine Eqv.mk ?_; first | rfl | (simp -implicitDefEqProofs [hin, ByteArray.size]; done)) | (simp -implicitDefEqProofs [hin, ByteArray.size]; done) | (simp -implicitDefEqProofs [hin, ByteArray.size]; rfl) | (simp; done) | (simp; rfl) | rfl))))
      | (apply WPL.cL (c_impl_inRange _ _ _); (case q => (repeat' (first | refine And.intro ?_ ?_ | intro _ | exact cleanOut_nil | (refine Eqv.mk ?_; first | rfl | (simp -implicitDefEqProofs [hin, ByteArray.size]; done)) | (simp -implicitDefEqProofs [hin, ByteArray.size]; done) | (simp -implicitDefEqProofs [hin, ByteArray.size]; rfl) | (simp; done) | (simp; rfl) | rfl))))
      | ((first | refine WPc.rq tok rfl fun K hK => ?_ | refine WPL.rn tok _ (by simp [ahead, isFn]; rfl) fun K hK => ?_); simp -implicitDefEqProofs +contextual [-Int.not_le, -Int.not_lt, -Nat.not_le, -Nat.not_lt, -List.all_eq_true, -List.all_eq_false, -List.any_eq_true, -List.any_eq_false, hin, ByteArray.size]; (repeat1' (first | apply hK | apply And.intro | intro _)) <;> clear hK K <;> (try dsimp only [List.drop]))
      | (refine WPc.region ?_; simp only [List.toList_toArray])
      | (refine WPc.condT ?_ ?_; (focus (simp; done))))
    all_goals rfl
end Go.Own
set_option maxRecDepth 1000000
set_option maxHeartbeats 4000000
namespace Go.Own
attribute [local irreducible] WPc WPL WPS HAny endP
variable [Laid]
open Go.Lib Go.RowKit
structure DecI (n m : Int) (out : ByteArray) : Prop where
  eq : decDigits n.natAbs = ddig m ++ out.data.toList
  pos : 0 ≤ n → 0 ≤ m
  neg : n < 0 → m ≤ 0
  le : m.natAbs ≤ n.natAbs
  sz : out.size ≤ 20
def nextD (m : Int) (out : ByteArray) : ByteArray := ⟨#[UInt8.ofNat (48 + m.natAbs % 10)]⟩ ++ out
theorem DecI.next {n m : Int} {out : ByteArray} (h : DecI n m out) (hb : n.natAbs < 18446744073709551616) (hm : m ≠ 0) : DecI n (m.tdiv 10) (nextD m out) := by
  have hd : (m.tdiv 10).natAbs = m.natAbs / 10 := by rw [Int.natAbs_tdiv]; rfl
  have he : decDigits n.natAbs = ddig (m.tdiv 10) ++ (nextD m out).data.toList := by
    rw [h.eq, ddig_step hm, nextD, ByteArray.data_append, Array.toList_append, List.append_assoc]
  refine ⟨he, fun h0 => ?_, fun h0 => ?_, by have := h.le; omega, ?_⟩
  · have := h.pos h0; exact Int.tdiv_nonneg this (by omega)
  · have := h.neg h0
    have : m.tdiv 10 = -((-m).tdiv 10) := by rw [Int.neg_tdiv, Int.neg_neg]
    have h2 : 0 ≤ (-m).tdiv 10 := Int.tdiv_nonneg (by omega) (by omega)
    omega
  · have := congrArg List.length he
    rw [decDigits_length, List.length_append] at this
    have h20 := nDigits_le20 n.natAbs hb
    have : (nextD m out).size = (nextD m out).data.toList.length := Array.length_toList.symm
    omega
theorem digit_byte (m : Int) : (strOfNums [IntKind.u8.wrap (IntKind.i64.wrap (48 + if m.tmod 10 < 0 then IntKind.i64.wrap (-(m.tmod 10)) else m.tmod 10))]) = ⟨#[UInt8.ofNat (48 + m.natAbs % 10)]⟩ := by
  have h := tmod_abs m
  have h2 : m.natAbs % 10 < 10 := Nat.mod_lt _ (by omega)
  have e : (if m.tmod 10 < 0 then IntKind.i64.wrap (-(m.tmod 10)) else m.tmod 10) = ((m.natAbs % 10 : Nat) : Int) := by
    split
    · rw [wrap64 (by omega) (by omega)]; omega
    · omega
  rw [e, wrap64 (by omega) (by omega), IntKind.wrap_u8]
  simp only [strOfNums, List.map_cons, List.map_nil]
  rw [show ((48 + ((m.natAbs % 10 : Nat) : Int)) % 256).toNat = 48 + m.natAbs % 10 by omega]
theorem c_spec_Dec (n : Int) (h0 : -9223372036854775808 ≤ n) (h1 : n ≤ 9223372036854775807) : Con PP 219 [.sc (.int .i64 n)] [] [] (fun r o => r = .sc (.string (dec n))) := by
  by_cases hz : n = 0
  · subst hz
    refine Con.of tok (nt := 31) Go.Proofs.Tryz.func219 (by kernel_rfl) rfl rfl rfl (Nat.le_of_ble_eq_true rfl) fun G => ?_
    simp only [entSt, tmOf, List.append_nil, List.cons_append, List.nil_append]
    repeat' (first
      | apply WPc.sq
      | (refine WPc.ret (endP.val (.inr rfl) rfl rfl (by simp; rfl) ?_))
      | (refine WPc.rq tok rfl fun K hK => ?_; simp -implicitDefEqProofs +contextual [-Int.not_le, -Int.not_lt, -Nat.not_le, -Nat.not_lt, -List.all_eq_true, -List.all_eq_false, -List.any_eq_true, -List.any_eq_false]; (repeat1' (first | apply hK | apply And.intro | intro _)) <;> clear hK K <;> (try dsimp only [List.drop]))
      | (refine WPc.condT ?_ ?_; (focus (simp; done))))
    all_goals (try rfl)
    all_goals (rw [show dec 0 = ⟨#[48]⟩ from by simp [dec, itoa, decDigits]])
  have hdiv : ∀ m out, DecI n m out → IntKind.i64.wrap (m.tdiv 10) = m.tdiv 10 := fun m out hI => by
    have := hI.le
    have h2 : (m.tdiv 10).natAbs = m.natAbs / 10 := by rw [Int.natAbs_tdiv]; rfl
    rcases Int.le_total 0 n with h | h
    · have := hI.pos h
      have := Int.tdiv_nonneg this (show (0 : Int) ≤ 10 by omega)
      exact wrap64 (by omega) (by omega)
    · exact wrap64 (by omega) (by omega)
  refine Con.of tok (nt := 31) Go.Proofs.Tryz.func219 (by kernel_rfl) rfl rfl rfl (Nat.le_of_ble_eq_true rfl) fun G => ?_
  simp only [entSt, tmOf, List.append_nil, List.cons_append, List.nil_append]
  repeat' (first
    | apply WPc.sq
    | apply WPc.block
    | apply WPc.skip
    | (refine WPc.rq tok rfl fun K hK => ?_; simp -implicitDefEqProofs +contextual [-Int.not_le, -Int.not_lt, -Nat.not_le, -Nat.not_lt, -List.all_eq_true, -List.all_eq_false, -List.any_eq_true, -List.any_eq_false, hz]; (repeat1' (first | apply hK | apply And.intro | intro _)) <;> clear hK K <;> (try dsimp only [List.drop]))
    | (refine WPc.condF ?_ ?_; (focus (simp; done))))
  refine WPc.loopK (σ := Int × ByteArray) (fun x => DecI n x.1 x.2) (fun x => x.1.natAbs) (fun x => [(0, .sc (.int .i64 x.1)), (3, .sc (.string x.2))])  [4] (n, ⟨#[]⟩) (by simp) (by simp) (⟨by simp [ddig, hz], by simp, by simp; omega, by simp, by simp [ByteArray.size]⟩) ?_
  rintro ⟨m, out⟩ hI s hs
  simp at hs
  subst hs
  have hs := hI.sz
  dsimp only at hs hI
  by_cases hm : m = 0
  · subst hm
    have s1 : SAdd ⟨#[45]⟩ out := by unfold SAdd; have : (⟨#[45]⟩ : ByteArray).size = 1 := rfl; omega
    have he := hI.eq
    simp only [ddig, if_true, List.nil_append] at he
    have hd : dec n = if n < 0 then ⟨#[45]⟩ ++ out else out := by
      unfold dec itoa
      split
      · rw [he]; exact ba_ext (by simp)
      · rw [show n.toNat = n.natAbs by omega, he]
    rw [hd]
    repeat' (first
      | apply WPc.sq
      | (refine WPc.ret (endP.val (.inr rfl) rfl rfl (by simp; rfl) ?_))
      | apply WPc.skip
      | apply WPc.exit
      | (refine WPc.rq tok rfl fun K hK => ?_; simp -implicitDefEqProofs +contextual [-Int.not_le, -Int.not_lt, -Nat.not_le, -Nat.not_lt, -List.all_eq_true, -List.all_eq_false, -List.any_eq_true, -List.any_eq_false, s1]; (repeat1' (first | apply hK | apply And.intro | intro _)) <;> clear hK K <;> (try dsimp only [List.drop]))
      | (refine WPc.condF ?_ ?_; (focus (simp; done)))
      | (refine WPc.cond (by simp [-Bool.not_eq_eq_eq_not]; rfl) (fun hq => ?_) (fun hq => ?_) <;> simp only [hq] <;> (try (exfalso; (simp only [decide_eq_true_eq, decide_eq_false_iff_not] at hq); omega))))
    · rw [if_pos (by simpa using hq)]
    · rw [if_neg (by simpa using hq)]
  · have s1 : ∀ c : Int, SAdd (strOfNums [c]) out := fun c => by unfold SAdd; rw [strOfNums_size]; simp; omega
    have hb := digit_byte m
    have hn := hI.next (by omega) hm
    have hmm : (m.tdiv 10).natAbs < m.natAbs := by rw [Int.natAbs_tdiv]; show m.natAbs / 10 < _; omega
    repeat' (first
      | apply WPc.sq
      | apply WPc.block
      | apply WPc.skip
      | (refine WPc.rq tok rfl fun K hK => ?_; simp -implicitDefEqProofs +contextual [-Int.not_le, -Int.not_lt, -Nat.not_le, -Nat.not_lt, -List.all_eq_true, -List.all_eq_false, -List.any_eq_true, -List.any_eq_false, hm, s1]; (repeat1' (first | apply hK | apply And.intro | intro _)) <;> clear hK K <;> (try dsimp only [List.drop]))
      | (refine WPc.condT ?_ ?_; (focus (simp; done)))
      | (refine WPc.cond (by simp [-Bool.not_eq_eq_eq_not]; rfl) (fun hq => ?_) (fun hq => ?_) <;> simp only [hq] <;> (try (exfalso; (simp only [decide_eq_true_eq, decide_eq_false_iff_not] at hq); omega))))
    all_goals (first | (have g : m.tmod 10 < 0 := by simpa using hq
                        rw [if_pos g] at hb) | (have g : ¬ m.tmod 10 < 0 := by simpa using hq
                                                rw [if_neg g] at hb))
    all_goals
      refine ⟨(m.tdiv 10, nextD m out), ⟨hn, by first | omega | (simp only; omega) | assumption⟩, rfl, rfl, ?_, ?_⟩ <;> simp (disch := omega) [wrap64, nextD, hb, hdiv _ _ hI]
theorem bt_get {s : ByteArray} {i : Nat} (h : i < s.size) : ∃ c, s.data.toList[i]? = some c ∧ bt s i = (c.toNat : Int) := by
  refine ⟨s[i], ?_, ?_⟩
  · have : i < s.data.toList.length := by simpa using h
    rw [List.getElem?_eq_getElem this]; rfl
  · unfold bt
    simp only [Int.toNat_natCast]
    rw [dif_pos h]
theorem isDigB_bt {c : UInt8} : isDigB c = (decide (48 ≤ (c.toNat : Int)) && decide ((c.toNat : Int) ≤ 57)) := by
  unfold isDigB
  congr 1 <;> exact decide_eq_decide.2 (by omega)
theorem len_list (s : ByteArray) : s.data.toList.length = s.size := Array.length_toList
theorem c_spec_ReadDec (s : ByteArray) (h1 : s.size ≤ 9223372036854775807) : Con PP 167 [.sc (.string s)] [] [] (fun r o => r = .tup [.sc (.int .i64 ((rd s).getD 0)), .sc (.bool (rd s).isSome)]) := by
  refine Con.of tok (nt := 61) Go.Proofs.Tryz.func167 (by kernel_rfl) rfl rfl rfl (Nat.le_of_ble_eq_true rfl) fun G => ?_
  simp only [entSt, tmOf, List.append_nil, List.cons_append, List.nil_append]
  repeat' (first
    | apply WPc.sq
    | apply WPc.block
    | (refine WPc.rq tok rfl fun K hK => ?_; simp -implicitDefEqProofs +contextual [-Int.not_le, -Int.not_lt, -Nat.not_le, -Nat.not_lt, -List.all_eq_true, -List.all_eq_false, -List.any_eq_true, -List.any_eq_false]; (repeat1' (first | apply hK | apply And.intro | intro _)) <;> clear hK K <;> (try dsimp only [List.drop])))
  refine WPc.loopK (σ := Nat) (fun i => i ≤ s.size ∧ i ≤ 11) (fun i => 11 - i) (fun i => [(4, .sc (.int .i64 (foldD 0 (s.data.toList.take i) : Nat))), (5, .sc (.int .i64 (cntD (s.data.toList.take i) : Nat))), (6, .sc (.int .i64 i))])  [0] 0 (by simp [foldD, cntD]) (by simp [foldD, cntD]) (by simp) ?_
  rintro i ⟨hi, hi2⟩ s hs
  simp at hs
  subst hs
  have hf := foldD_lt (s.data.toList.take i)
  have hc : cntD (s.data.toList.take i) ≤ (s.data.toList.take i).length := List.countP_le_length
  have hl : (s.data.toList.take i).length ≤ i := List.length_take_le _ _
  have hp : 10 ^ (s.data.toList.take i).length ≤ 10 ^ i := Nat.pow_le_pow_right (by omega) hl
  have hp2 : 10 ^ i ≤ 10 ^ 11 := Nat.pow_le_pow_right (by omega) hi2
  by_cases hlt : i < s.size ∧ i < 11
  · obtain ⟨hlt, hlt2⟩ := hlt
    obtain ⟨c, hg, hb⟩ := bt_get hlt
    have hcn := c.toNat_lt
    have e1 := foldD_snoc hg
    have e2 := cntD_snoc hg
    have hd : isDigB c = (decide (48 ≤ (c.toNat : Int)) && decide ((c.toNat : Int) ≤ 57)) := isDigB_bt
    have hp3 : 10 ^ i ≤ 10 ^ 10 := Nat.pow_le_pow_right (by omega) (by omega)
    have hw : 48 ≤ (c.toNat : Int) → IntKind.i64.wrap (IntKind.i64.wrap ((foldD 0 (s.data.toList.take i) : Nat) * 10) + IntKind.i64.wrap (IntKind.u8.wrap (c.toNat - 48))) = ((foldD 0 (s.data.toList.take i) * 10 + (c.toNat - 48) : Nat) : Int) := fun h => by
      rw [IntKind.wrap_u8, Int.emod_eq_of_lt (by omega) (by omega), wrap64 (x := _ * 10) (by omega) (by omega), wrap64 (x := _ - 48) (by omega) (by omega), wrap64 (by omega) (by omega)]
      omega
    have hw2 : IntKind.i64.wrap ((cntD (s.data.toList.take i) : Nat) + 1) = ((cntD (s.data.toList.take i) + 1 : Nat) : Int) := wrap64 (by omega) (by omega)
    have hw3 : IntKind.i64.wrap ((i : Int) + 1) = ((i + 1 : Nat) : Int) := wrap64 (by omega) (by omega)
    by_cases h48 : 48 ≤ (c.toNat : Int)
    · by_cases h57 : (c.toNat : Int) ≤ 57
      · have hdt : isDigB c = true := by rw [hd]; simp [h48, h57]
        rw [if_pos hdt] at e1 e2
        repeat' (first
          | apply WPc.sq
          | apply WPc.block
          | apply WPc.skip
          | (refine WPc.rq tok rfl fun K hK => ?_; simp -implicitDefEqProofs +contextual [-Int.not_le, -Int.not_lt, -Nat.not_le, -Nat.not_lt, -List.all_eq_true, -List.all_eq_false, -List.any_eq_true, -List.any_eq_false, hlt, hb, h48, h57, show (i : Int) < 11 by omega]; (repeat1' (first | apply hK | apply And.intro | intro _)) <;> clear hK K <;> (try dsimp only [List.drop]))
          | (refine WPc.condT ?_ ?_; (focus (simp; done))))
        refine ⟨i + 1, ⟨⟨by omega, by omega⟩, by omega⟩, rfl, rfl, ?_, ?_⟩
        · simp only [FitT, List.cons_append, List.nil_append, lk_cons, pick_cons, pick_nil, hw h48, hw2, hw3, e1, e2]
          simp
        · simp
      · have hdt : isDigB c = false := by rw [hd]; simp [h57]
        rw [hdt] at e1 e2
        simp only [Bool.false_eq_true, if_false] at e1 e2
        repeat' (first
          | apply WPc.sq
          | apply WPc.block
          | apply WPc.skip
          | (refine WPc.rq tok rfl fun K hK => ?_; simp -implicitDefEqProofs +contextual [-Int.not_le, -Int.not_lt, -Nat.not_le, -Nat.not_lt, -List.all_eq_true, -List.all_eq_false, -List.any_eq_true, -List.any_eq_false, hlt, hb, h48, h57, show (i : Int) < 11 by omega]; (repeat1' (first | apply hK | apply And.intro | intro _)) <;> clear hK K <;> (try dsimp only [List.drop]))
          | (refine WPc.condT ?_ ?_; (focus (simp; done)))
          | (refine WPc.condF ?_ ?_; (focus (simp; done))))
        refine ⟨i + 1, ⟨⟨by omega, by omega⟩, by omega⟩, rfl, rfl, ?_, ?_⟩
        · simp only [FitT, List.cons_append, List.nil_append, lk_cons, pick_cons, pick_nil, hw3, e1, e2]
          simp
        · simp
    · have hdt : isDigB c = false := by rw [hd]; simp [h48]
      rw [hdt] at e1 e2
      simp only [Bool.false_eq_true, if_false] at e1 e2
      repeat' (first
        | apply WPc.sq
        | apply WPc.block
        | apply WPc.skip
        | (refine WPc.rq tok rfl fun K hK => ?_; simp -implicitDefEqProofs +contextual [-Int.not_le, -Int.not_lt, -Nat.not_le, -Nat.not_lt, -List.all_eq_true, -List.all_eq_false, -List.any_eq_true, -List.any_eq_false, hlt, hb, h48, show (i : Int) < 11 by omega]; (repeat1' (first | apply hK | apply And.intro | intro _)) <;> clear hK K <;> (try dsimp only [List.drop]))
        | (refine WPc.condT ?_ ?_; (focus (simp; done)))
        | (refine WPc.condF ?_ ?_; (focus (simp; done))))
      refine ⟨i + 1, ⟨⟨by omega, by omega⟩, by omega⟩, rfl, rfl, ?_, ?_⟩
      · simp only [FitT, List.cons_append, List.nil_append, lk_cons, pick_cons, pick_nil, hw3, e1, e2]
        simp
      · simp
  · have hneg : IntKind.i64.wrap (-((foldD 0 (s.data.toList.take i) : Nat) : Int)) = -((foldD 0 (s.data.toList.take i) : Nat) : Int) := wrap64 (by omega) (by omega)
    have hh : s.data.toList.head? = some 45 ↔ 0 < s.size ∧ bt s 0 = 45 := by
      constructor
      · intro h
        have h0 : 0 < s.size := by
          rw [← len_list]; cases hs : s.data.toList with
          | nil => rw [hs] at h; simp at h
          | cons => simp
        obtain ⟨c, hg, hb⟩ := bt_get h0
        rw [List.head?_eq_getElem?, hg] at h
        injection h with h
        subst h
        exact ⟨h0, hb⟩
      · rintro ⟨h0, hb0⟩
        obtain ⟨c, hg, hb⟩ := bt_get h0
        rw [List.head?_eq_getElem?, hg]
        simp only [Int.natCast_zero] at hb
        rw [hb0] at hb
        congr 1
        apply UInt8.toNat_inj.1
        show c.toNat = 45
        omega
    have hall : s.size ≤ 10 → s.data.toList.take i = s.data.toList := fun h => List.take_of_length_le (by rw [len_list]; omega)
    have hdv : decVal s.data.toList = if s.data.toList.head? = some 45 then -(foldD 0 s.data.toList : Int) else foldD 0 s.data.toList := rfl
    have key : ∀ v : Int, (s.size ≤ 10 → v = decVal s.data.toList) → rd s = if cntD (s.data.toList.take i) ≤ 9 ∧ s.size ≤ 10 ∧ dec v = s then some v else none := fun v hv => by
      split
      · rename_i h
        obtain ⟨g1, g2, g3⟩ := h
        rw [hall g2] at g1
        rw [hv g2] at g3 ⊢
        exact readDec_spec (by rw [len_list]; omega) g1 (dec_ne.1 g3)
      · rename_i h
        refine readDec_spec_no fun ⟨g1, g2, g3⟩ => h ?_
        rw [len_list] at g1
        exact ⟨by rw [hall g1]; exact g2, g1, by rw [hv g1]; exact dec_ne.2 g3⟩
    have hnot : ¬ ((i : Int) < s.size ∧ (i : Int) < 11) := by omega
    by_cases hmin : 0 < s.size ∧ bt s 0 = 45
    · have hk := key (-((foldD 0 (s.data.toList.take i) : Nat) : Int)) (fun h => by rw [hall h, hdv, if_pos (hh.2 hmin)])
      rw [hk]
      repeat' (first
        | apply WPc.sq
        | (refine WPc.ret (endP.val (.inr rfl) rfl rfl (by simp; rfl) ?_))
        | apply WPc.skip
        | apply WPc.exit
        | refine WPL.nil ?_
        | (apply WPL.cL (c_spec_Dec _ ?g1 ?g2); (case q => (repeat' (first | refine And.intro ?_ ?_ | intro _ | exact cleanOut_nil | (refine Eqv.mk ?_; first | rfl | (simp -implicitDefEqProofs [hmin.1, hmin.2, hneg]; done)) | (simp -implicitDefEqProofs [hmin.1, hmin.2, hneg]; done) | (simp -implicitDefEqProofs [hmin.1, hmin.2, hneg]; rfl) | (simp; done) | (simp; rfl) | rfl))); (case g1 => (first | assumption | omega | decide)); (case g2 => (first | assumption | omega | decide)))
        | (refine WPL.call0f ?_ ?_ ?_; (focus (simp; done)); (focus (simp; done)))
        | ((first | refine WPc.rq tok rfl fun K hK => ?_ | refine WPL.rn tok _ (by simp [ahead, isFn]; rfl) fun K hK => ?_); simp -implicitDefEqProofs +contextual [-Int.not_le, -Int.not_lt, -Nat.not_le, -Nat.not_lt, -List.all_eq_true, -List.all_eq_false, -List.any_eq_true, -List.any_eq_false, hmin.1, hmin.2, hneg]; (repeat1' (first | apply hK | apply And.intro | intro _)) <;> clear hK K <;> (try dsimp only [List.drop]))
        | (refine WPc.region ?_; simp only [List.toList_toArray])
        | (refine WPc.condT ?_ ?_; (focus (simp; done)))
        | (refine WPc.condF ?_ ?_; (focus (simp; done)))
        | (refine WPc.cond (by simp [-Bool.not_eq_eq_eq_not]; rfl) (fun hq => ?_) (fun hq => ?_) <;> simp only [hq] <;> (try (exfalso; (simp only [decide_eq_true_eq, decide_eq_false_iff_not] at hq); omega))))
      all_goals (first | (rw [if_pos ⟨by omega, by omega, by simp_all⟩]; rfl) | (rw [if_neg (by intro ⟨g1, g2, g3⟩; first | omega | simp_all)]; rfl))
    · have hk := key ((foldD 0 (s.data.toList.take i) : Nat) : Int) (fun h => by rw [hall h, hdv, if_neg (fun e => hmin (hh.1 e))])
      rw [hk]
      by_cases h0 : 0 < s.size
      · have hb0 : ¬ bt s 0 = 45 := fun e => hmin ⟨h0, e⟩
        repeat' (first
          | apply WPc.sq
          | (refine WPc.ret (endP.val (.inr rfl) rfl rfl (by simp; rfl) ?_))
          | apply WPc.skip
          | apply WPc.exit
          | refine WPL.nil ?_
          | (apply WPL.cL (c_spec_Dec _ ?g1 ?g2); (case q => (repeat' (first | refine And.intro ?_ ?_ | intro _ | exact cleanOut_nil | (refine Eqv.mk ?_; first | rfl | (simp -implicitDefEqProofs [h0, hb0]; done)) | (simp -implicitDefEqProofs [h0, hb0]; done) | (simp -implicitDefEqProofs [h0, hb0]; rfl) | (simp; done) | (simp; rfl) | rfl))); (case g1 => (first | assumption | omega | decide)); (case g2 => (first | assumption | omega | decide)))
          | (refine WPL.call0f ?_ ?_ ?_; (focus (simp; done)); (focus (simp; done)))
          | ((first | refine WPc.rq tok rfl fun K hK => ?_ | refine WPL.rn tok _ (by simp [ahead, isFn]; rfl) fun K hK => ?_); simp -implicitDefEqProofs +contextual [-Int.not_le, -Int.not_lt, -Nat.not_le, -Nat.not_lt, -List.all_eq_true, -List.all_eq_false, -List.any_eq_true, -List.any_eq_false, h0, hb0]; (repeat1' (first | apply hK | apply And.intro | intro _)) <;> clear hK K <;> (try dsimp only [List.drop]))
          | (refine WPc.region ?_; simp only [List.toList_toArray])
          | (refine WPc.condT ?_ ?_; (focus (simp; done)))
          | (refine WPc.condF ?_ ?_; (focus (simp; done)))
          | (refine WPc.cond (by simp [-Bool.not_eq_eq_eq_not]; rfl) (fun hq => ?_) (fun hq => ?_) <;> simp only [hq] <;> (try (exfalso; (simp only [decide_eq_true_eq, decide_eq_false_iff_not] at hq); omega))))
        all_goals (first | (rw [if_pos ⟨by omega, by omega, by simp_all⟩]; rfl) | (rw [if_neg (by intro ⟨g1, g2, g3⟩; first | omega | simp_all)]; rfl))
      · repeat' (first
          | apply WPc.sq
          | (refine WPc.ret (endP.val (.inr rfl) rfl rfl (by simp; rfl) ?_))
          | apply WPc.skip
          | apply WPc.exit
          | refine WPL.nil ?_
          | (apply WPL.cL (c_spec_Dec _ ?g1 ?g2); (case q => (repeat' (first | refine And.intro ?_ ?_ | intro _ | exact cleanOut_nil | (refine Eqv.mk ?_; first | rfl | (simp -implicitDefEqProofs [h0]; done)) | (simp -implicitDefEqProofs [h0]; done) | (simp -implicitDefEqProofs [h0]; rfl) | (simp; done) | (simp; rfl) | rfl))); (case g1 => (first | assumption | omega | decide)); (case g2 => (first | assumption | omega | decide)))
          | (refine WPL.call0f ?_ ?_ ?_; (focus (simp; done)); (focus (simp; done)))
          | ((first | refine WPc.rq tok rfl fun K hK => ?_ | refine WPL.rn tok _ (by simp [ahead, isFn]; rfl) fun K hK => ?_); simp -implicitDefEqProofs +contextual [-Int.not_le, -Int.not_lt, -Nat.not_le, -Nat.not_lt, -List.all_eq_true, -List.all_eq_false, -List.any_eq_true, -List.any_eq_false, h0]; (repeat1' (first | apply hK | apply And.intro | intro _)) <;> clear hK K <;> (try dsimp only [List.drop]))
          | (refine WPc.region ?_; simp only [List.toList_toArray])
          | (refine WPc.condT ?_ ?_; (focus (simp; done)))
          | (refine WPc.condF ?_ ?_; (focus (simp; done)))
          | (refine WPc.cond (by simp [-Bool.not_eq_eq_eq_not]; rfl) (fun hq => ?_) (fun hq => ?_) <;> simp only [hq] <;> (try (exfalso; (simp only [decide_eq_true_eq, decide_eq_false_iff_not] at hq); omega))))
        all_goals (first | (rw [if_pos ⟨by omega, by omega, by simp_all⟩]; rfl) | (rw [if_neg (by intro ⟨g1, g2, g3⟩; first | omega | simp_all)]; rfl))
def allB (p : Int → Bool) (s : ByteArray) : Bool := (List.range s.size).all fun i => p (bt s i)
def sym (s : ByteArray) : Bool := allB isSym s && inRange s.size 1 16 && !isDigit (bt s 0) && !(rd s).isSome
theorem c_impl_symOk [F : Facts.Of] (s : ByteArray) (h1 : s.size ≤ 281474976710656) : Con PP 181 [.sc (.string s)] [] [] (fun r o => r = .sc (.bool (sym s))) := by
  refine Con.of tok (nt := 38) Go.Proofs.Tryz.func181 (by kernel_rfl) rfl rfl rfl (Nat.le_of_ble_eq_true rfl) fun G => ?_
  simp only [entSt, tmOf, List.append_nil, List.cons_append, List.nil_append]
  repeat' (first
    | apply WPc.sq
    | apply WPc.block
    | (refine WPc.rq tok rfl fun K hK => ?_; simp -implicitDefEqProofs +contextual [-Int.not_le, -Int.not_lt, -Nat.not_le, -Nat.not_lt, -List.all_eq_true, -List.all_eq_false, -List.any_eq_true, -List.any_eq_false]; (repeat1' (first | apply hK | apply And.intro | intro _)) <;> clear hK K <;> (try dsimp only [List.drop])))
  refine WPc.loopK (σ := Nat) (fun i => i ≤ s.size ∧ ((List.range s.size).take i).all (fun i => isSym (bt s i)) = true) (fun i => s.size - i) (fun i => [(3, .sc (.int .i64 i))])  [0] 0 (by simp) (by simp) (by simp) ?_
  rintro i ⟨hi, hall⟩ s hs
  simp at hs
  subst hs
  by_cases hlt : i < s.size
  · have hv : (List.range s.size)[i]? = some i := List.getElem?_range hlt
    repeat' (first
      | apply WPc.sq
      | apply WPc.block
      | (refine WPc.ret (endP.val (.inr rfl) rfl rfl (by simp; rfl) ?_))
      | apply WPc.skip
      | refine WPL.nil ?_
      | (apply WPL.cL (c_impl_isSymByte _ ?g1 ?g2); (case q => (repeat' (first | refine And.intro ?_ ?_ | intro _ | exact cleanOut_nil | (refine Eqv.mk ?_; first | rfl | (simp -implicitDefEqProofs [hlt]; done)) | (simp -implicitDefEqProofs [hlt]; done) | (simp -implicitDefEqProofs [hlt]; rfl) | (simp; done) | (simp; rfl) | rfl))); (case g1 => (first | assumption | omega | (simp; done))); (case g2 => (first | assumption | omega | (simp; done))))
      | ((first | refine WPc.rq tok rfl fun K hK => ?_ | refine WPL.rn tok _ (by simp [ahead, isFn]; rfl) fun K hK => ?_); simp -implicitDefEqProofs +contextual [-Int.not_le, -Int.not_lt, -Nat.not_le, -Nat.not_lt, -List.all_eq_true, -List.all_eq_false, -List.any_eq_true, -List.any_eq_false, hlt]; (repeat1' (first | apply hK | apply And.intro | intro _)) <;> clear hK K <;> (try dsimp only [List.drop]))
      | (refine WPc.region ?_; simp only [List.toList_toArray])
      | (refine WPc.condT ?_ ?_; (focus (simp; done)))
      | (refine WPc.cond (by simp [-Bool.not_eq_eq_eq_not]; rfl) (fun hq => ?_) (fun hq => ?_) <;> simp only [hq] <;> (try (exfalso; (simp only [decide_eq_true_eq, decide_eq_false_iff_not] at hq); omega))))
    · have : allB isSym s = false := all_at hv (by simp_all)
      simp [sym, this]
    all_goals
      refine ⟨i + 1, ⟨⟨by omega, all_next hv (by simp_all) hall⟩, by first | omega | (simp only; omega) | assumption⟩, rfl, rfl, ?_, ?_⟩ <;> simp (disch := omega) [wrap64]
  · rw [List.take_of_length_le (by simp; omega)] at hall
    have ha : allB isSym s = true := hall
    by_cases hr : inRange s.size 1 16 = true
    · have h0 : 0 < s.size := by simp [inRange] at hr; omega
      repeat' (first
        | apply WPc.sq
        | (refine WPc.ret (endP.val (.inr rfl) rfl rfl (by simp; rfl) ?_))
        | apply WPc.skip
        | apply WPc.exit
        | refine WPL.nil ?_
        | (apply WPL.cL (c_impl_inRange _ _ _); (case q => (repeat' (first | refine And.intro ?_ ?_ | intro _ | exact cleanOut_nil | (refine Eqv.mk ?_; first | rfl | (simp -implicitDefEqProofs [hlt, hr, h0]; done)) | (simp -implicitDefEqProofs [hlt, hr, h0]; done) | (simp -implicitDefEqProofs [hlt, hr, h0]; rfl) | (simp; done) | (simp; rfl) | rfl))))
        | (apply WPL.cL (c_impl_ReadDec _ ?g1); (case q => (repeat' (first | refine And.intro ?_ ?_ | intro _ | exact cleanOut_nil | (refine Eqv.mk ?_; first | rfl | (simp -implicitDefEqProofs [hlt, hr, h0]; done)) | (simp -implicitDefEqProofs [hlt, hr, h0]; done) | (simp -implicitDefEqProofs [hlt, hr, h0]; rfl) | (simp; done) | (simp; rfl) | rfl))); (case g1 => (first | assumption | omega | (simp; done))))
        | ((first | refine WPc.rq tok rfl fun K hK => ?_ | refine WPL.rn tok _ (by simp [ahead, isFn]; rfl) fun K hK => ?_); simp -implicitDefEqProofs +contextual [-Int.not_le, -Int.not_lt, -Nat.not_le, -Nat.not_lt, -List.all_eq_true, -List.all_eq_false, -List.any_eq_true, -List.any_eq_false, hlt, hr, h0]; (repeat1' (first | apply hK | apply And.intro | intro _)) <;> clear hK K <;> (try dsimp only [List.drop]))
        | (refine WPc.region ?_; simp only [List.toList_toArray])
        | (refine WPc.condF ?_ ?_; (focus (simp; done)))
        | (refine WPc.cond (by simp [-Bool.not_eq_eq_eq_not]; rfl) (fun hq => ?_) (fun hq => ?_) <;> simp only [hq] <;> (try (exfalso; (simp only [decide_eq_true_eq, decide_eq_false_iff_not] at hq); omega))))
      all_goals (simp_all [sym, isDigit])
    · repeat' (first
        | apply WPc.sq
        | (refine WPc.ret (endP.val (.inr rfl) rfl rfl (by simp; rfl) ?_))
        | apply WPc.exit
        | refine WPL.nil ?_
        | (apply WPL.cL (c_impl_inRange _ _ _); (case q => (repeat' (first | refine And.intro ?_ ?_ | intro _ | exact cleanOut_nil | (refine Eqv.mk ?_; first | rfl | (simp -implicitDefEqProofs [hlt, hr]; done)) | (simp -implicitDefEqProofs [hlt, hr]; done) | (simp -implicitDefEqProofs [hlt, hr]; rfl) | (simp; done) | (simp; rfl) | rfl))))
        | ((first | refine WPc.rq tok rfl fun K hK => ?_ | refine WPL.rn tok _ (by simp [ahead, isFn]; rfl) fun K hK => ?_); simp -implicitDefEqProofs +contextual [-Int.not_le, -Int.not_lt, -Nat.not_le, -Nat.not_lt, -List.all_eq_true, -List.all_eq_false, -List.any_eq_true, -List.any_eq_false, hlt, hr]; (repeat1' (first | apply hK | apply And.intro | intro _)) <;> clear hK K <;> (try dsimp only [List.drop]))
        | (refine WPc.region ?_; simp only [List.toList_toArray])
        | (refine WPc.condT ?_ ?_; (focus (simp; done)))
        | (refine WPc.condF ?_ ?_; (focus (simp; done))))
      all_goals (simp_all [sym])
theorem c_spec_l2Sym (s : ByteArray) (h1 : s.size ≤ 9223372036854775807) : Con PP 99 [.sc (.string s)] [] [] (fun r o => r = .sc (.bool (sym s))) := by
  by_cases hr : inRange s.size 1 16 = true
  · have h0 : 0 < s.size := by simp [inRange] at hr; omega
    refine Con.of tok (nt := 33) Go.Proofs.Tryz.func99 (by kernel_rfl) rfl rfl rfl (Nat.le_of_ble_eq_true rfl) fun G => ?_
    simp only [entSt, tmOf, List.append_nil, List.cons_append, List.nil_append]
    repeat' (first
      | apply WPc.sq
      | apply WPc.block
      | (refine WPc.ret (endP.val (.inr rfl) rfl rfl (by simp; rfl) ?_))
      | apply WPc.skip
      | refine WPL.nil ?_
      | (apply WPL.cL (c_spec_l1In _ _ _); (case q => (repeat' (first | refine And.intro ?_ ?_ | intro _ | exact cleanOut_nil | (refine Eqv.mk ?_; first | rfl | (simp -implicitDefEqProofs [hr, h0]; done)) | (simp -implicitDefEqProofs [hr, h0]; done) | (simp -implicitDefEqProofs [hr, h0]; rfl) | (simp; done) | (simp; rfl) | rfl))))
      | (apply WPL.cL (c_spec_l2Digit _); (case q => (repeat' (first | refine And.intro ?_ ?_ | intro _ | exact cleanOut_nil | (refine Eqv.mk ?_; first | rfl | (simp -implicitDefEqProofs [hr, h0]; done)) | (simp -implicitDefEqProofs [hr, h0]; done) | (simp -implicitDefEqProofs [hr, h0]; rfl) | (simp; done) | (simp; rfl) | rfl))))
      | ((first | refine WPc.rq tok rfl fun K hK => ?_ | refine WPL.rn tok _ (by simp [ahead, isFn]; rfl) fun K hK => ?_); simp -implicitDefEqProofs +contextual [-Int.not_le, -Int.not_lt, -Nat.not_le, -Nat.not_lt, -List.all_eq_true, -List.all_eq_false, -List.any_eq_true, -List.any_eq_false, hr, h0]; (repeat1' (first | apply hK | apply And.intro | intro _)) <;> clear hK K <;> (try dsimp only [List.drop]))
      | (refine WPc.region ?_; simp only [List.toList_toArray])
      | (refine WPc.cond (by simp [-Bool.not_eq_eq_eq_not]; rfl) (fun hq => ?_) (fun hq => ?_) <;> simp only [hq] <;> (try (exfalso; (simp only [decide_eq_true_eq, decide_eq_false_iff_not] at hq); omega))))
    · simp_all [sym]
    refine WPc.loopK (σ := Nat) (fun i => i ≤ s.size ∧ ((List.range s.size).take i).all (fun i => isSym (bt s i)) = true) (fun i => s.size - i) (fun i => [(3, .sc (.int .i64 i))])  [0] 0 (by simp) (by simp) (by simp) ?_
    rintro i ⟨hi, hall⟩ s hs
    simp at hs
    subst hs
    by_cases hlt : i < s.size
    · have hv : (List.range s.size)[i]? = some i := List.getElem?_range hlt
      repeat' (first
        | apply WPc.sq
        | apply WPc.block
        | (refine WPc.ret (endP.val (.inr rfl) rfl rfl (by simp; rfl) ?_))
        | apply WPc.skip
        | refine WPL.nil ?_
        | (apply WPL.cL (c_spec_l2Sign _ ?g1 ?g2); (case q => (repeat' (first | refine And.intro ?_ ?_ | intro _ | exact cleanOut_nil | (refine Eqv.mk ?_; first | rfl | (simp -implicitDefEqProofs [hlt]; done)) | (simp -implicitDefEqProofs [hlt]; done) | (simp -implicitDefEqProofs [hlt]; rfl) | (simp; done) | (simp; rfl) | rfl))); (case g1 => (first | assumption | omega | (simp; done))); (case g2 => (first | assumption | omega | (simp; done))))
        | ((first | refine WPc.rq tok rfl fun K hK => ?_ | refine WPL.rn tok _ (by simp [ahead, isFn]; rfl) fun K hK => ?_); simp -implicitDefEqProofs +contextual [-Int.not_le, -Int.not_lt, -Nat.not_le, -Nat.not_lt, -List.all_eq_true, -List.all_eq_false, -List.any_eq_true, -List.any_eq_false, hlt]; (repeat1' (first | apply hK | apply And.intro | intro _)) <;> clear hK K <;> (try dsimp only [List.drop]))
        | (refine WPc.region ?_; simp only [List.toList_toArray])
        | (refine WPc.condT ?_ ?_; (focus (simp; done)))
        | (refine WPc.cond (by simp [-Bool.not_eq_eq_eq_not]; rfl) (fun hq => ?_) (fun hq => ?_) <;> simp only [hq] <;> (try (exfalso; (simp only [decide_eq_true_eq, decide_eq_false_iff_not] at hq); omega))))
      · have : allB isSym s = false := all_at hv (by simp_all)
        simp [sym, this]
      all_goals
        refine ⟨i + 1, ⟨⟨by omega, all_next hv (by simp_all) hall⟩, by first | omega | (simp only; omega) | assumption⟩, rfl, rfl, ?_, ?_⟩ <;> simp (disch := omega) [wrap64]
    · rw [List.take_of_length_le (by simp; omega)] at hall
      have ha : allB isSym s = true := hall
      repeat' (first
        | apply WPc.sq
        | (refine WPc.ret (endP.val (.inr rfl) rfl rfl (by simp; rfl) ?_))
        | apply WPc.exit
        | refine WPL.nil ?_
        | (apply WPL.cL (c_spec_ReadDec _ ?g1); (case q => (repeat' (first | refine And.intro ?_ ?_ | intro _ | exact cleanOut_nil | (refine Eqv.mk ?_; first | rfl | (simp -implicitDefEqProofs [hlt]; done)) | (simp -implicitDefEqProofs [hlt]; done) | (simp -implicitDefEqProofs [hlt]; rfl) | (simp; done) | (simp; rfl) | rfl))); (case g1 => (first | assumption | omega | (simp; done))))
        | ((first | refine WPc.rq tok rfl fun K hK => ?_ | refine WPL.rn tok _ (by simp [ahead, isFn]; rfl) fun K hK => ?_); simp -implicitDefEqProofs +contextual [-Int.not_le, -Int.not_lt, -Nat.not_le, -Nat.not_lt, -List.all_eq_true, -List.all_eq_false, -List.any_eq_true, -List.any_eq_false, hlt]; (repeat1' (first | apply hK | apply And.intro | intro _)) <;> clear hK K <;> (try dsimp only [List.drop]))
        | (refine WPc.region ?_; simp only [List.toList_toArray])
        | (refine WPc.condF ?_ ?_; (focus (simp; done))))
      all_goals (simp_all [sym])
  · refine Con.of tok (nt := 33) Go.Proofs.Tryz.func99 (by kernel_rfl) rfl rfl rfl (Nat.le_of_ble_eq_true rfl) fun G => ?_
    simp only [entSt, tmOf, List.append_nil, List.cons_append, List.nil_append]
    repeat' (first
      | apply WPc.sq
      | (refine WPc.ret (endP.val (.inr rfl) rfl rfl (by simp; rfl) ?_))
      | refine WPL.nil ?_
      | (apply WPL.cL (c_spec_l1In _ _ _); (case q => (repeat' (first | refine And.intro ?_ ?_ | intro _ | exact cleanOut_nil | (refine Eqv.mk ?_; first | rfl | (simp -implicitDefEqProofs [hr]; done)) | (simp -implicitDefEqProofs [hr]; done) | (simp -implicitDefEqProofs [hr]; rfl) | (simp; done) | (simp; rfl) | rfl))))
      | (refine WPL.call0f ?_ ?_ ?_; (focus (simp; done)); (focus (simp; done)))
      | ((first | refine WPc.rq tok rfl fun K hK => ?_ | refine WPL.rn tok _ (by simp [ahead, isFn]; rfl) fun K hK => ?_); simp -implicitDefEqProofs +contextual [-Int.not_le, -Int.not_lt, -Nat.not_le, -Nat.not_lt, -List.all_eq_true, -List.all_eq_false, -List.any_eq_true, -List.any_eq_false, hr]; (repeat1' (first | apply hK | apply And.intro | intro _)) <;> clear hK K <;> (try dsimp only [List.drop]))
      | (refine WPc.region ?_; simp only [List.toList_toArray])
      | (refine WPc.condT ?_ ?_; (focus (simp; done))))
    all_goals simp_all [sym]
def isName (s : ByteArray) : Bool := decide (s = ⟨#[37, 116]⟩) || sym s && !isW wWord s && decide (arity s < 0)
theorem c_impl_IsName [F : Facts.Of] (s : ByteArray) (h1 : s.size < 4294967000) : Con PP 175 [.sc (.string s)] [] [] (fun r o => r = .sc (.bool (isName s))) := by
  refine Con.of tok (nt := 17) Go.Proofs.Tryz.func175 (by kernel_rfl) rfl rfl rfl (Nat.le_of_ble_eq_true rfl) fun G => ?_
  simp only [entSt, tmOf, List.append_nil, List.cons_append, List.nil_append]
  repeat' (first
    | apply WPc.sq
    | (refine WPc.ret (endP.val (.inr rfl) rfl rfl (by simp; rfl) ?_))
    | apply WPc.skip
    | refine WPL.nil ?_
    | (apply WPL.cL (c_impl_symOk _ ?g1); (case q => (repeat' (first | refine And.intro ?_ ?_ | intro _ | exact cleanOut_nil | (refine Eqv.mk ?_; first | rfl | (simp -implicitDefEqProofs; done)) | (simp -implicitDefEqProofs; done) | (simp -implicitDefEqProofs; rfl) | rfl))); (case g1 => (first | assumption | omega | decide | (simp; done) | (simp_all; done) | (intros; omega))))
    | (apply WPL.cL (c_impl_isOneOf _ _ ?g1 ?g2); (case q => (repeat' (first | refine And.intro ?_ ?_ | intro _ | exact cleanOut_nil | (refine Eqv.mk ?_; first | rfl | (simp -implicitDefEqProofs; done)) | (simp -implicitDefEqProofs; done) | (simp -implicitDefEqProofs; rfl) | rfl))); (case g1 => (first | assumption | omega | decide | (simp; done) | (simp_all; done) | (intros; omega))); (case g2 => (first | assumption | omega | decide | (simp; done) | (simp_all; done) | (intros; omega))))
    | (apply WPL.cL (c_impl_Arity _ ?g1); (case q => (repeat' (first | refine And.intro ?_ ?_ | intro _ | exact cleanOut_nil | (refine Eqv.mk ?_; first | rfl | (simp -implicitDefEqProofs; done)) | (simp -implicitDefEqProofs; done) | (simp -implicitDefEqProofs; rfl) | rfl))); (case g1 => (first | assumption | omega | decide | (simp; done) | (simp_all; done) | (intros; omega))))
    | (refine WPL.call0f ?_ ?_ ?_; (focus (simp; done)); (focus (simp; done)))
    | ((first | refine WPc.rq tok rfl fun K hK => ?_ | refine WPL.rn tok _ (by simp [ahead, isFn]; rfl) fun K hK => ?_); simp -implicitDefEqProofs +contextual [-Int.not_le, -Int.not_lt, -Nat.not_le, -Nat.not_lt, -List.all_eq_true, -List.all_eq_false, -List.any_eq_true, -List.any_eq_false]; (repeat1' (first | apply hK | apply And.intro | intro _)) <;> clear hK K <;> (try dsimp only [List.drop]))
    | (refine WPc.region ?_; simp only [List.toList_toArray])
    | (refine WPc.cond (by simp [-Bool.not_eq_eq_eq_not]; rfl) (fun hq => ?_) (fun hq => ?_) <;> simp only [hq] <;> (try (exfalso; (simp only [decide_eq_true_eq, decide_eq_false_iff_not] at hq); omega))))
  all_goals (simp_all [isName]; try (intros; omega))
theorem c_spec_IsName (s : ByteArray) (h1 : s.size < 4294967000) : Con PP 98 [.sc (.string s)] [] [] (fun r o => r = .sc (.bool (isName s))) := by
  refine Con.of tok (nt := 19) Go.Proofs.Tryz.func98 (by kernel_rfl) rfl rfl rfl (Nat.le_of_ble_eq_true rfl) fun G => ?_
  simp only [entSt, tmOf, List.append_nil, List.cons_append, List.nil_append]
  repeat' (first
    | apply WPc.sq
    | (refine WPc.ret (endP.val (.inr rfl) rfl rfl (by simp; rfl) ?_))
    | refine WPL.nil ?_
    | (apply WPL.cL (c_spec_l2Sym _ ?g1); (case q => (repeat' (first | refine And.intro ?_ ?_ | intro _ | exact cleanOut_nil | (refine Eqv.mk ?_; first | rfl | (simp -implicitDefEqProofs; done)) | (simp -implicitDefEqProofs; done) | (simp -implicitDefEqProofs; rfl) | rfl))); (case g1 => (first | assumption | omega | decide | (simp; done) | (simp_all; done) | (intros; omega))))
    | (apply WPL.cL (c_spec_l3Word _); (case q => (repeat' (first | refine And.intro ?_ ?_ | intro _ | exact cleanOut_nil | (refine Eqv.mk ?_; first | rfl | (simp -implicitDefEqProofs; done)) | (simp -implicitDefEqProofs; done) | (simp -implicitDefEqProofs; rfl) | rfl))))
    | (apply WPL.cL (c_spec_Arity _); (case q => (repeat' (first | refine And.intro ?_ ?_ | intro _ | exact cleanOut_nil | (refine Eqv.mk ?_; first | rfl | (simp -implicitDefEqProofs; done)) | (simp -implicitDefEqProofs; done) | (simp -implicitDefEqProofs; rfl) | rfl))))
    | (refine WPL.call0f ?_ ?_ ?_; (focus (simp; done)); (focus (simp; done)))
    | ((first | refine WPc.rq tok rfl fun K hK => ?_ | refine WPL.rn tok _ (by simp [ahead, isFn]; rfl) fun K hK => ?_); simp -implicitDefEqProofs +contextual [-Int.not_le, -Int.not_lt, -Nat.not_le, -Nat.not_lt, -List.all_eq_true, -List.all_eq_false, -List.any_eq_true, -List.any_eq_false]; (repeat1' (first | apply hK | apply And.intro | intro _)) <;> clear hK K <;> (try dsimp only [List.drop]))
    | (refine WPc.region ?_; simp only [List.toList_toArray]))
  all_goals (simp_all [isName]; try (intros; omega))
end Go.Own
set_option maxRecDepth 1000000
set_option maxHeartbeats 4000000
namespace Go.Own
attribute [local irreducible] WPc WPL WPS HAny endP
variable [Laid]
open Go.Lib Go.RowKit
structure Cl where
  k : Int
  s : ByteArray
  a : Int
  b : Int
  names : List ByteArray
  vals : List V
  deriving DecidableEq
def Cl.cs (c : Cl) : List C := [.sc (.int .i64 c.k), .sc (.string c.s), .sc (.int .i64 c.a), .sc (.int .i64 c.b), .fz (c.names.map sC), .fz (c.vals.map V.cs)]
def Cl.av (c : Cl) : AV := .agg [.sc (.int .i64 c.k), .sc (.string c.s), .sc (.int .i64 c.a), .sc (.int .i64 c.b), .fz (c.names.map sC), .fz (c.vals.map V.cs)]
@[simp] theorem V.len (c : V) : c.cs.length = 3 := rfl
@[simp] theorem V.frz (c : V) : c.cs.map Own.frz = c.cs := rfl
@[simp] theorem V.pln (c : V) : c.cs.all plainC = true := rfl
@[simp] theorem V.lenA (l : List V) : lenAll 3 (l.map V.cs) = true := lenAll_map V.len l
@[simp] theorem V.frzA (l : List V) : frzAll (l.map V.cs) = l.map V.cs := frzAll_map V.frz l
@[simp] theorem V.plnA (l : List V) : plainAll (l.map V.cs) = true := plainAll_map V.pln l
@[simp] theorem sC.len (c : ByteArray) : (sC c).length = 1 := rfl
@[simp] theorem sC.frz (c : ByteArray) : (sC c).map Own.frz = sC c := rfl
@[simp] theorem sC.pln (c : ByteArray) : (sC c).all plainC = true := rfl
@[simp] theorem sC.lenA (l : List ByteArray) : lenAll 1 (l.map sC) = true := lenAll_map sC.len l
@[simp] theorem sC.frzA (l : List ByteArray) : frzAll (l.map sC) = l.map sC := frzAll_map sC.frz l
@[simp] theorem sC.plnA (l : List ByteArray) : plainAll (l.map sC) = true := plainAll_map sC.pln l
@[simp] theorem Cl.len (c : Cl) : c.cs.length = 6 := rfl
@[simp] theorem Cl.frz (c : Cl) : c.cs.map Own.frz = c.cs := rfl
@[simp] theorem Cl.pln (c : Cl) : c.cs.all plainC = true := rfl
@[simp] theorem Cl.lenA (l : List Cl) : lenAll 6 (l.map Cl.cs) = true := lenAll_map Cl.len l
@[simp] theorem Cl.frzA (l : List Cl) : frzAll (l.map Cl.cs) = l.map Cl.cs := frzAll_map Cl.frz l
@[simp] theorem Cl.plnA (l : List Cl) : plainAll (l.map Cl.cs) = true := plainAll_map Cl.pln l
def V.sm (v : V) : Prop := v.s.size < 4294967000
structure Cl.sm (c : Cl) : Prop where
  s : c.s.size < 4294967000
  names : ∀ x, x ∈ c.names → x.size < 4294967000
  vals : ∀ v, v ∈ c.vals → v.sm
def cellAt (h : List Cl) (n kind : Int) : Bool := decide (0 ≤ n) && (match h[n.toNat]? with
  | some c => decide (c.k = kind)
  | none => false)
def valueOk (h : List Cl) (v : V) : Bool :=
  if v.k = 4 then decide (v.n = 0) && sym v.s
  else decide (v.s = zs) && (if v.k = 1 then inRange v.n (-1000000) 1000000 else if v.k = 2 then inRange v.n 0 1 else if v.k = 3 then decide (v.n = 0)
    else decide (cellKind v.k ≠ 0) && cellAt h v.n (cellKind v.k))
theorem c_spec_l6Points (v : V) : Con PP 216 [v.av] [] [] (fun r o => r = .sc (.bool (inRange v.k 5 7))) := by
  refine Con.of tok (nt := 6) Go.Proofs.Tryz.func216 (by kernel_rfl) rfl rfl rfl (Nat.le_of_ble_eq_true rfl) fun G => ?_
  simp only [entSt, tmOf, List.append_nil, List.cons_append, List.nil_append, V.av]
  repeat' (first
    | apply WPc.sq
    | (refine WPc.ret (endP.val (.inr rfl) rfl rfl (by simp; rfl) ?_))
    | refine WPL.nil ?_
    | (apply WPL.cL (c_spec_l1In _ _ _); (case q => (repeat' (first | refine And.intro ?_ ?_ | intro _ | exact cleanOut_nil | (refine Eqv.mk ?_; first | rfl | (simp -implicitDefEqProofs; done)) | (simp -implicitDefEqProofs; done) | (simp -implicitDefEqProofs; rfl) | rfl))))
    | ((first | refine WPc.rq tok rfl fun K hK => ?_ | refine WPL.rn tok _ (by simp [ahead, isFn]; rfl) fun K hK => ?_); simp -implicitDefEqProofs +contextual [-Int.not_le, -Int.not_lt, -Nat.not_le, -Nat.not_lt, -List.all_eq_true, -List.all_eq_false, -List.any_eq_true, -List.any_eq_false]; (repeat1' (first | apply hK | apply And.intro | intro _)) <;> clear hK K <;> (try dsimp only [List.drop]))
    | (refine WPc.region ?_; simp only [List.toList_toArray]))
  all_goals rfl
theorem c_spec_l6Cell (h : List Cl) (n kind : Int) : Con PP 100 [.fz (h.map Cl.cs), .sc (.int .i64 n), .sc (.int .i64 kind)] [] [] (fun r o => r = .sc (.bool (cellAt h n kind))) := by
  by_cases h0 : 0 ≤ n
  · by_cases hlt : n.toNat < h.length
    · have g1 : n < (h.length : Int) := by omega
      refine Con.of tok (nt := 24) Go.Proofs.Tryz.func100 (by kernel_rfl) rfl rfl rfl (Nat.le_of_ble_eq_true rfl) fun G => ?_
      simp only [entSt, tmOf, List.append_nil, List.cons_append, List.nil_append]
      repeat' (first
        | apply WPc.sq
        | (refine WPc.ret (endP.val (.inr rfl) rfl rfl (by simp; rfl) ?_))
        | (refine WPc.rq tok rfl fun K hK => ?_; simp -implicitDefEqProofs +contextual [-Int.not_le, -Int.not_lt, -Nat.not_le, -Nat.not_lt, -List.all_eq_true, -List.all_eq_false, -List.any_eq_true, -List.any_eq_false, h0, g1, Cl.cs, hlt]; (repeat1' (first | apply hK | apply And.intro | intro _)) <;> clear hK K <;> (try dsimp only [List.drop])))
      all_goals simp_all [cellAt]
    · have g1 : ¬ n < (h.length : Int) := by omega
      have g2 : h[n.toNat]? = none := by simp; omega
      refine Con.of tok (nt := 24) Go.Proofs.Tryz.func100 (by kernel_rfl) rfl rfl rfl (Nat.le_of_ble_eq_true rfl) fun G => ?_
      simp only [entSt, tmOf, List.append_nil, List.cons_append, List.nil_append]
      repeat' (first
        | apply WPc.sq
        | (refine WPc.ret (endP.val (.inr rfl) rfl rfl (by simp; rfl) ?_))
        | (refine WPc.rq tok rfl fun K hK => ?_; simp -implicitDefEqProofs +contextual [-Int.not_le, -Int.not_lt, -Nat.not_le, -Nat.not_lt, -List.all_eq_true, -List.all_eq_false, -List.any_eq_true, -List.any_eq_false, h0, g1]; (repeat1' (first | apply hK | apply And.intro | intro _)) <;> clear hK K <;> (try dsimp only [List.drop])))
      all_goals simp_all [cellAt]
  · have g : cellAt h n kind = false := by simp [cellAt, h0]
    rw [g]
    refine Con.of tok (nt := 24) Go.Proofs.Tryz.func100 (by kernel_rfl) rfl rfl rfl (Nat.le_of_ble_eq_true rfl) fun G => ?_
    simp only [entSt, tmOf, List.append_nil, List.cons_append, List.nil_append]
    repeat' (first
      | apply WPc.sq
      | (refine WPc.ret (endP.val (.inr rfl) rfl rfl (by simp; rfl) ?_))
      | (refine WPc.rq tok rfl fun K hK => ?_; simp -implicitDefEqProofs +contextual [-Int.not_le, -Int.not_lt, -Nat.not_le, -Nat.not_lt, -List.all_eq_true, -List.all_eq_false, -List.any_eq_true, -List.any_eq_false, h0]; (repeat1' (first | apply hK | apply And.intro | intro _)) <;> clear hK K <;> (try dsimp only [List.drop])))
    all_goals rfl
theorem c_spec_ValueOk (h : List Cl) (v : V) (hs : v.sm) : Con PP 46 [.fz (h.map Cl.cs), v.av] [] [] (fun r o => r = .sc (.bool (valueOk h v))) := by
  unfold V.sm at hs
  refine Con.of tok (nt := 58) Go.Proofs.Tryz.func46 (by kernel_rfl) rfl rfl rfl (Nat.le_of_ble_eq_true rfl) fun G => ?_
  simp only [entSt, tmOf, List.append_nil, List.cons_append, List.nil_append, V.av]
  repeat' (first
    | apply WPc.sq
    | apply WPc.block
    | (refine WPc.ret (endP.val (.inr rfl) rfl rfl (by simp; rfl) ?_))
    | apply WPc.skip
    | refine WPL.nil ?_
    | (apply WPL.cL (c_spec_l1In _ _ _); (case q => (repeat' (first | refine And.intro ?_ ?_ | intro _ | exact cleanOut_nil | (refine Eqv.mk ?_; first | rfl | (simp -implicitDefEqProofs; done)) | (simp -implicitDefEqProofs; done) | (simp -implicitDefEqProofs; rfl) | rfl))))
    | (apply WPL.cL (c_spec_l2Sym _ ?g1); (case q => (repeat' (first | refine And.intro ?_ ?_ | intro _ | exact cleanOut_nil | (refine Eqv.mk ?_; first | rfl | (simp -implicitDefEqProofs; done)) | (simp -implicitDefEqProofs; done) | (simp -implicitDefEqProofs; rfl) | rfl))); (case g1 => (first | assumption | omega)))
    | (apply WPL.cL (c_spec_l6Cell _ _ _); (case q => (repeat' (first | refine And.intro ?_ ?_ | intro _ | exact cleanOut_nil | (refine Eqv.mk ?_; first | rfl | (simp -implicitDefEqProofs; done)) | (simp -implicitDefEqProofs; done) | (simp -implicitDefEqProofs; rfl) | rfl))))
    | (refine WPL.call0f ?_ ?_ ?_; (focus (simp; done)); (focus (simp; done)))
    | ((first | refine WPc.rq tok rfl fun K hK => ?_ | refine WPL.rn tok _ (by simp [ahead, isFn]; rfl) fun K hK => ?_); simp -implicitDefEqProofs +contextual [-Int.not_le, -Int.not_lt, -Nat.not_le, -Nat.not_lt, -List.all_eq_true, -List.all_eq_false, -List.any_eq_true, -List.any_eq_false]; (repeat1' (first | apply hK | apply And.intro | intro _)) <;> clear hK K <;> (try dsimp only [List.drop]))
    | (refine WPc.region ?_; simp only [List.toList_toArray])
    | (refine WPc.condT ?_ ?_; (focus (simp; done)))
    | (refine WPc.condF ?_ ?_; (focus (simp; done)))
    | (refine WPc.cond (by simp [-Bool.not_eq_eq_eq_not]; rfl) (fun hq => ?_) (fun hq => ?_) <;> simp only [hq] <;> (try (exfalso; (simp only [decide_eq_true_eq, decide_eq_false_iff_not] at hq); omega))))
  all_goals simp_all [valueOk, cellKind]
theorem c_impl_ValueOk [F : Facts.Of] (h : List Cl) (v : V) (hs : v.sm) : Con PP 113 [.fz (h.map Cl.cs), v.av] [] [] (fun r o => r = .sc (.bool (valueOk h v))) := by
  unfold V.sm at hs
  refine Con.lenOf 0 Go.Proofs.Tryz.func113 (by kernel_rfl) (by kernel_rfl) rfl fun hlen => ?_
  simp at hlen
  have hw : IntKind.i64.wrap ((h.length : Int) - 1) = h.length - 1 := wrap64 (by omega) (by omega)
  by_cases hin : inRange v.n 0 (h.length - 1) = true
  · have h0 : 0 ≤ v.n ∧ v.n.toNat < h.length := by simp [inRange] at hin; omega
    obtain ⟨h0, h1⟩ := h0
    refine Con.of tok (nt := 74) Go.Proofs.Tryz.func113 (by kernel_rfl) rfl rfl rfl (Nat.le_of_ble_eq_true rfl) fun G => ?_
    simp only [entSt, tmOf, List.append_nil, List.cons_append, List.nil_append, V.av]
    repeat' (first
      | apply WPc.sq
      | apply WPc.block
      | (refine WPc.ret (endP.val (.inr rfl) rfl rfl (by simp; rfl) ?_))
      | apply WPc.skip
      | refine WPL.nil ?_
      | (apply WPL.cL (c_impl_inRange _ _ _); (case q => (repeat' (first | refine And.intro ?_ ?_ | intro _ | exact cleanOut_nil | (refine Eqv.mk ?_; first | rfl | (simp -implicitDefEqProofs [hw, hin, h0, h1, Cl.cs]; done)) | (simp -implicitDefEqProofs [hw, hin, h0, h1, Cl.cs]; done) | (simp -implicitDefEqProofs [hw, hin, h0, h1, Cl.cs]; rfl) | (simp; done) | (simp; rfl) | rfl))))
      | (apply WPL.cL (c_impl_symOk _ ?g1); (case q => (repeat' (first | refine And.intro ?_ ?_ | intro _ | exact cleanOut_nil | (refine Eqv.mk ?_; first | rfl | (simp -implicitDefEqProofs [hw, hin, h0, h1, Cl.cs]; done)) | (simp -implicitDefEqProofs [hw, hin, h0, h1, Cl.cs]; done) | (simp -implicitDefEqProofs [hw, hin, h0, h1, Cl.cs]; rfl) | (simp; done) | (simp; rfl) | rfl))); (case g1 => (first | assumption | omega)))
      | (apply WPS.cL (hc := (c_impl_inRange _ _ _)); (case ho => exact rfl); (case q => (repeat' (first | refine And.intro ?_ ?_ | intro _ | exact cleanOut_nil | (refine Eqv.mk ?_; first | rfl | (simp -implicitDefEqProofs [hw, hin, h0, h1, Cl.cs]; done)) | (simp -implicitDefEqProofs [hw, hin, h0, h1, Cl.cs]; done) | (simp -implicitDefEqProofs [hw, hin, h0, h1, Cl.cs]; rfl) | (simp; done) | (simp; rfl) | rfl))))
      | (apply WPS.cL (hc := (c_impl_cellKind _)); (case ho => exact rfl); (case q => (repeat' (first | refine And.intro ?_ ?_ | intro _ | exact cleanOut_nil | (refine Eqv.mk ?_; first | rfl | (simp -implicitDefEqProofs [hw, hin, h0, h1, Cl.cs]; done)) | (simp -implicitDefEqProofs [hw, hin, h0, h1, Cl.cs]; done) | (simp -implicitDefEqProofs [hw, hin, h0, h1, Cl.cs]; rfl) | (simp; done) | (simp; rfl) | rfl))))
      | (apply WPS.callf (ho := rfl); (case hg => (simp; done)); (case hd => (simp; done)))
      | (refine WPL.call0f ?_ ?_ ?_; (focus (simp; done)); (focus (simp; done)))
      | ((first | refine WPc.rq tok rfl fun K hK => ?_ | refine WPL.rn tok _ (by simp [ahead, isFn]; rfl) fun K hK => ?_ | refine WPS.rn tok _ (by simp [aheadS]; rfl) fun K hK => ?_); simp -implicitDefEqProofs +contextual [-Int.not_le, -Int.not_lt, -Nat.not_le, -Nat.not_lt, -List.all_eq_true, -List.all_eq_false, -List.any_eq_true, -List.any_eq_false, hw, hin, h0, h1, Cl.cs]; (repeat1' (first | apply hK | apply And.intro | intro _)) <;> clear hK K <;> (try dsimp only [List.drop]))
      | (refine WPc.sched (id := 13) tok [] [(0, []), (1, []), (2, []), (3, []), (4, []), (5, []), (6, []), (7, []), (8, []), (9, []), (10, []), (11, []), (12, []), (13, []), (14, []), (15, []), (16, []), (17, []), (18, []), (19, []), (20, []), (21, []), (22, []), (23, [])] (by kernel_rfl) ?_)
      | (refine WPS.nil ?_)
      | (refine WPc.region ?_; simp only [List.toList_toArray])
      | (refine WPc.condT ?_ ?_; (focus (simp; done)))
      | (refine WPc.cond (by simp [-Bool.not_eq_eq_eq_not]; rfl) (fun hq => ?_) (fun hq => ?_) <;> simp only [hq] <;> (try (exfalso; (simp only [decide_eq_true_eq, decide_eq_false_iff_not] at hq); omega))))
    all_goals simp_all [valueOk, cellKind, cellAt]
  · have h0 : cellAt h v.n (cellKind v.k) = false := by
      unfold cellAt
      by_cases g : 0 ≤ v.n
      · have : h[v.n.toNat]? = none := by simp [inRange] at hin; simp; omega
        rw [this]; simp
      · simp [g]
    refine Con.of tok (nt := 74) Go.Proofs.Tryz.func113 (by kernel_rfl) rfl rfl rfl (Nat.le_of_ble_eq_true rfl) fun G => ?_
    simp only [entSt, tmOf, List.append_nil, List.cons_append, List.nil_append, V.av]
    repeat' (first
      | apply WPc.sq
      | apply WPc.block
      | (refine WPc.ret (endP.val (.inr rfl) rfl rfl (by simp; rfl) ?_))
      | apply WPc.skip
      | refine WPL.nil ?_
      | (apply WPL.cL (c_impl_inRange _ _ _); (case q => (repeat' (first | refine And.intro ?_ ?_ | intro _ | exact cleanOut_nil | (refine Eqv.mk ?_; first | rfl | (simp -implicitDefEqProofs [hw, hin]; done)) | (simp -implicitDefEqProofs [hw, hin]; done) | (simp -implicitDefEqProofs [hw, hin]; rfl) | (simp; done) | (simp; rfl) | rfl))))
      | (apply WPL.cL (c_impl_symOk _ ?g1); (case q => (repeat' (first | refine And.intro ?_ ?_ | intro _ | exact cleanOut_nil | (refine Eqv.mk ?_; first | rfl | (simp -implicitDefEqProofs [hw, hin]; done)) | (simp -implicitDefEqProofs [hw, hin]; done) | (simp -implicitDefEqProofs [hw, hin]; rfl) | (simp; done) | (simp; rfl) | rfl))); (case g1 => (first | assumption | omega)))
      | (apply WPS.cL (hc := (c_impl_inRange _ _ _)); (case ho => exact rfl); (case q => (repeat' (first | refine And.intro ?_ ?_ | intro _ | exact cleanOut_nil | (refine Eqv.mk ?_; first | rfl | (simp -implicitDefEqProofs [hw, hin]; done)) | (simp -implicitDefEqProofs [hw, hin]; done) | (simp -implicitDefEqProofs [hw, hin]; rfl) | (simp; done) | (simp; rfl) | rfl))))
      | (apply WPS.callf (ho := rfl); (case hg => (simp; done)); (case hd => (simp; done)))
      | (refine WPL.call0f ?_ ?_ ?_; (focus (simp; done)); (focus (simp; done)))
      | ((first | refine WPc.rq tok rfl fun K hK => ?_ | refine WPL.rn tok _ (by simp [ahead, isFn]; rfl) fun K hK => ?_ | refine WPS.rn tok _ (by simp [aheadS]; rfl) fun K hK => ?_); simp -implicitDefEqProofs +contextual [-Int.not_le, -Int.not_lt, -Nat.not_le, -Nat.not_lt, -List.all_eq_true, -List.all_eq_false, -List.any_eq_true, -List.any_eq_false, hw, hin]; (repeat1' (first | apply hK | apply And.intro | intro _)) <;> clear hK K <;> (try dsimp only [List.drop]))
      | (refine WPc.sched (id := 13) tok [] [(0, []), (1, []), (2, []), (3, []), (4, []), (5, []), (6, []), (7, []), (8, []), (9, []), (10, []), (11, []), (12, []), (13, []), (14, []), (15, []), (16, []), (17, []), (18, []), (19, []), (20, []), (21, []), (22, []), (23, [])] (by kernel_rfl) ?_)
      | (refine WPS.nil ?_)
      | (refine WPc.region ?_; simp only [List.toList_toArray])
      | (refine WPc.condT ?_ ?_; (focus (simp; done)))
      | (refine WPc.cond (by simp [-Bool.not_eq_eq_eq_not]; rfl) (fun hq => ?_) (fun hq => ?_) <;> simp only [hq] <;> (try (exfalso; (simp only [decide_eq_true_eq, decide_eq_false_iff_not] at hq); omega))))
    all_goals simp_all [valueOk, cellKind]
end Go.Own
set_option maxRecDepth 1000000
set_option maxHeartbeats 4000000
namespace Go.Own
attribute [local irreducible] WPc WPL WPS HAny endP
variable [Laid]
open Go.Lib Go.RowKit
def Cl.ow (c : Cl) : List C := [.sc (.int .i64 c.k), .sc (.string c.s), .sc (.int .i64 c.a), .sc (.int .i64 c.b), .sl 9 1 (c.names.map sC), .sl 44 3 (c.vals.map V.cs)]
def heapR (h : List Cl) : Root := (171, 6, h.map Cl.ow)
structure Cl.rm (c : Cl) : Prop where
  names : c.names.length ≤ 1000000000
  vals : c.vals.length ≤ 1000000000
def mixed (h : List Cl) (i : Nat) : List (List C) := (h.take i).map Cl.ow ++ (h.drop i).map Cl.cs
end Go.Own
set_option maxRecDepth 1000000
set_option maxHeartbeats 4000000
namespace Go.Own
attribute [local irreducible] WPc WPL WPS HAny endP
variable [Laid]
open Go.Lib Go.RowKit
def noV : V := ⟨0, 0, zs⟩
end Go.Own
set_option maxRecDepth 1000000
set_option maxHeartbeats 4000000
namespace Go.Own
attribute [local irreducible] WPc WPL WPS HAny endP
variable [Laid]
open Go.Lib Go.RowKit
end Go.Own
set_option maxRecDepth 1000000
set_option maxHeartbeats 4000000
namespace Go.Own
attribute [local irreducible] WPc WPL WPS HAny endP
variable [Laid]
open Go.Lib Go.RowKit
theorem dz_sC (l : List ByteArray) : dzLL (l.map sC) = l.map sC := by
  rw [dzLL_map, List.map_map]; rfl
theorem dz_V (l : List V) : dzLL (l.map V.cs) = l.map V.cs := by
  rw [dzLL_map, List.map_map]; rfl
@[simp] theorem dz_ow (h : List Cl) : dzLL (h.map Cl.ow) = h.map Cl.cs := by
  rw [dzLL_map, List.map_map]
  refine List.map_congr_left fun c _ => ?_
  simp [Cl.ow, Cl.cs, dzL, deepFz, dz_sC, dz_V]
@[simp] theorem dz_ow1 (h : List Cl) : dzLL (List.take h.length (h.map Cl.ow)) = h.map Cl.cs := by
  rw [List.take_of_length_le (by simp), dz_ow]
end Go.Own
