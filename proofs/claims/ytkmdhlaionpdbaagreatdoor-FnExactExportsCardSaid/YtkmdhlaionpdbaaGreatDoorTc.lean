import Derived.Test.YtkmdhlaionpdbaaGreatDoorTb
import Derived.Test.YtkmdhlaionpdbaaGreatDoorProg
import Derived.WalkKit
import Derived.Shelf.Small.Strs
import Derived.Shelf.Strconv.Atoi
import Derived.Shelf.Strconv.Itoa0
import Derived.Shelf.Strconv.Itoa1
import Derived.Shelf.LaysM
import Derived.Shelf.Strconv.Itoa2
import Derived.Shelf.Strconv.Itoa3
import Derived.Shelf.Strconv.AtoiErrFast
import Derived.Shelf.Strconv.ParseIntEmpty
import Derived.Shelf.Strconv.AtoiFail
import Derived.Shelf.Strconv.Clone
import Derived.Shelf.Strconv.SyntaxError
import Derived.Shelf.LaysC
import Derived.Shelf.Strconv.ToError
import Derived.Shelf.Strconv.Lower
import Derived.Shelf.Strconv.ParseUint10
import Derived.Shelf.Strconv.ParseUint10Empty
import Derived.Shelf.Strconv.ParseUint10Any
import Derived.Shelf.Strconv.ParseInt10
import Derived.Shelf.Strconv.AtoiLong
import Derived.Shelf.Strconv.AtoiInnerAll
import Derived.Shelf.Strconv.RangeError
import Derived.Shelf.Strconv.ToErrorRange
import Derived.Shelf.Strconv.AtoiAll
import Derived.Shelf.Strings.Search1
import Derived.Shelf.Strings.Search2
import Derived.Shelf.Strings.Search3
import Derived.Shelf.Strings.Shaped
import Derived.Shelf.Strings.Prefix
import Derived.Ground.Names2Prog
import Derived.Shelf.Slices.Clone
import Derived.Ground.SlgnProg
import Derived.Shelf.SlicesE.Clone
import Derived.Lib.AppendIntMem
import Derived.Lib.IndexMore
import Derived.Lib.ItoaLen
import Derived.Lib.AtoiAll
import Derived.Lib.Bytealg
import Derived.Lib.IndexLaws
import Derived.Lib.AtoiAllCases
import Derived.Laws.BytesArg
import Derived.Lib.Strings
/- Lemmas for the proof in the last text of this claim. -/
set_option linter.unusedVariables false
set_option linter.unusedSimpArgs false
set_option linter.unusedSectionVars false
set_option maxRecDepth 1000000
namespace Go.Own
variable [Laid]
structure Bx (p : Prop) : Prop where
  o : p
structure Sch (id : Nat) (te l : List (Nat × List Nat)) : Prop where
  o : True
structure Outs (is : List Nat) : Prop where
  o : True
structure Nm (k : Nat) (l : List Nat) : Prop where
  o : True
theorem nm (k : Nat) (l : List Nat) : Nm k l := ⟨trivial⟩
structure OutO (ob : List (Nat × Root)) : Prop where
  o : True
theorem outO (ob : List (Nat × Root)) : OutO ob := ⟨trivial⟩
section
variable {P : Program} {tt : Nat → Option TI} {st : St} {ops : Array Oper} {l : List Oper} {ls : List (Nat × List Nat)} {Ψ : St → Prop} {Φ : Exit → St → Prop} {b : Bool} {kk d id nid i j t g e k r x : Nat} {rest : List Nat}
theorem WPL.detStH (z : Nm 1 [d, id, nid, i, j]) (hd : stHd d l = true) (h : ∀ K : St → Prop, (∀ s, WPL P ops l s Ψ → K s) → ∃ s, Own.detS st id nid [] i j = some s ∧ K s) : WPL P ops l st Ψ := WPL.detSt d id nid [] i j hd h
theorem WPS.detStH (z : Nm 1 [d, id, nid, i, j]) (hd : stHdS d ops ls = true) (hn : (nid - 500000) % 100000 = id ∧ 500000 ≤ nid ∧ nid < 900000) (h : ∀ K : St → Prop, (∀ s, WPS P ops ls s Ψ → K s) → ∃ s, Own.detS st id nid [] i j = some s ∧ K s) : WPS P ops ls st Ψ := WPS.detSt d id nid [] i j hd hn h
theorem WPL.detAtH (z : Nm 2 [d, id, nid, i, j]) (hd : dstOf l = some d) (h : ∀ K : St → Prop, (∀ s, WPL P ops l s Ψ → K s) → ∃ s, Own.detS st id nid [] i j = some s ∧ K s) : WPL P ops l st Ψ := WPL.detAt d id nid [] i j hd h
theorem WPS.detAtH (z : Nm 2 [d, id, nid, i, j]) (hd : dstS ops ls = some d) (hn : (nid - 500000) % 100000 = id ∧ 500000 ≤ nid ∧ nid < 900000) (h : ∀ K : St → Prop, (∀ s, WPS P ops ls s Ψ → K s) → ∃ s, Own.detS st id nid [] i j = some s ∧ K s) : WPS P ops ls st Ψ := WPS.detAt d id nid [] i j hd hn h
theorem WPL.focAtH (z : Nm 3 [d, id, nid, g, i, j]) (hd : dstOf l = some d) (h : ∀ u, ∀ K : St → Prop, (∀ s, WPL P ops l s Ψ → K s) → ∃ s, Own.detG st id nid g [] i j u = some s ∧ K s) : WPL P ops l st Ψ := WPL.focAt d id nid g [] i j hd h
theorem WPL.attAtH (z : Nm 4 [x, id, nid, g, i, j]) {G0 : Nat → Value} {u : Value} (hd : dstOf l = some x) (hG : st.G = updG G0 g u) (h : ∀ K : St → Prop, (∀ s, WPL P ops l s Ψ → K s) → ∃ r : Value × St, Own.attS st id nid g [] i j G0 = some r ∧ r.1 = u ∧ K r.2) : WPL P ops l st Ψ := WPL.attAt (some x) id nid g [] i j hd hG h
theorem WPL.attEndH (z : Nm 5 [id, nid, g, i, j]) {G0 : Nat → Value} {u : Value} (hd : dstOf l = none) (hG : st.G = updG G0 g u) (h : ∀ K : St → Prop, (∀ s, WPL P ops l s Ψ → K s) → ∃ r : Value × St, Own.attS st id nid g [] i j G0 = some r ∧ r.1 = u ∧ K r.2) : WPL P ops l st Ψ := WPL.attAt none id nid g [] i j hd hG h
theorem WPc.renRH (z : Nm 6 [id, nid]) (h : ∀ K : St → Prop, (∀ s, WPc P .ret s Φ → K s) → ∃ s, Own.renS st id nid = some s ∧ K s) : WPc P .ret st Φ := WPc.renR id nid h
theorem WPc.detRH (z : Nm 7 [id, nid, i, j]) (h : ∀ K : St → Prop, (∀ s, WPc P .ret s Φ → K s) → ∃ s, Own.detS st id nid [] i j = some s ∧ K s) : WPc P .ret st Φ := WPc.detR id nid [] i j h
theorem WPc.renRgH (z : Nm 8 [r, id, nid]) (h : ∀ K : St → Prop, (∀ s, WPc P (.region r ops b) s Φ → K s) → ∃ s, Own.renS st id nid = some s ∧ K s) : WPc P (.region r ops b) st Φ := WPc.renRg id nid h
theorem WPc.dropRH (z : Nm 9 []) {g : Nat} {G0 : Nat → Value} {u : Value} (hG : st.G = updG G0 g u) (h : WPc P .ret { st with G := G0, tm := (g, .un) :: st.tm } Φ) : WPc P .ret st Φ := WPc.dropR hG h
theorem WPc.dropRgH (z : Nm 10 [r]) {g : Nat} {G0 : Nat → Value} {u : Value} (hG : st.G = updG G0 g u) (h : WPc P (.region r ops b) { st with G := G0, tm := (g, .un) :: st.tm } Φ) : WPc P (.region r ops b) st Φ := WPc.dropRg hG h
theorem WPc.openRg (z : Nm 11 [r]) (h : WPL P ops ops.toList st (Φ .normal)) : WPc P (.region r ops false) st Φ := WPc.region h
theorem WPL.unAtH (z : Nm 12 [d, t, g, i]) (hd : dstOf l = some d) (h : ∀ K : St → Prop, (∀ s, WPL P ops l s Ψ → K s) → ∃ r : Value × St, Own.unS st t g i = some r ∧ st.G g = r.1 ∧ K r.2) : WPL P ops l st Ψ := WPL.unAt d t g i hd h
theorem WPS.unAtH (z : Nm 12 [d, t, g, i]) (hd : dstS ops ls = some d) (h : ∀ K : St → Prop, (∀ s, WPS P ops ls s Ψ → K s) → ∃ r : Value × St, Own.unS st t g i = some r ∧ st.G g = r.1 ∧ K r.2) : WPS P ops ls st Ψ := WPS.unAt d t g i hd h
theorem WPL.adAtH (z : Nm 13 [d, t, i, nid, e, k]) (hd : dstOf l = some d) (h : ∀ K : St → Prop, (∀ s, WPL P ops l s Ψ → K s) → ∃ s, Own.adoptC st t i nid e k = some s ∧ K s) : WPL P ops l st Ψ := WPL.adAt d t i nid e k hd h
theorem WPS.adAtH (z : Nm 13 [d, t, i, nid, e, k]) (hd : dstS ops ls = some d) (h : ∀ K : St → Prop, (∀ s, WPS P ops ls s Ψ → K s) → ∃ s, Own.adoptC st t i nid e k = some s ∧ K s) : WPS P ops ls st Ψ := WPS.adAt d t i nid e k hd h
theorem WPL.utAtH (z : Nm 14 [d, t, g]) (hd : dstOf l = some d) (h : ∀ K : St → Prop, (∀ s, WPL P ops l s Ψ → K s) → ∃ r : Value × St, Own.unT st t g = some r ∧ st.G g = r.1 ∧ K r.2) : WPL P ops l st Ψ := WPL.utAt d t g hd h
theorem WPS.utAtH (z : Nm 14 [d, t, g]) (hd : dstS ops ls = some d) (h : ∀ K : St → Prop, (∀ s, WPS P ops ls s Ψ → K s) → ∃ r : Value × St, Own.unT st t g = some r ∧ st.G g = r.1 ∧ K r.2) : WPS P ops ls st Ψ := WPS.utAt d t g hd h
theorem WPL.rnToH (tok : TOk P tt) (z : Nm kk (d :: rest)) (m : Nat) (hm : upTo d l 0 = m + 1) (h : ∀ K : St → Prop, (∀ s, WPL P ops (l.drop (m + 1)) s Ψ → K s) → ∃ s, runL tt ops (l.take (m + 1)) st = some s ∧ K s) : WPL P ops l st Ψ := WPL.rnTo tok d m hm h
theorem WPL.rnToStH (tok : TOk P tt) (z : Nm 1 (d :: rest)) (m : Nat) (hm : upToSt d l 0 = m + 1) (h : ∀ K : St → Prop, (∀ s, WPL P ops (l.drop (m + 1)) s Ψ → K s) → ∃ s, runL tt ops (l.take (m + 1)) st = some s ∧ K s) : WPL P ops l st Ψ := WPL.rnToSt tok d m hm h
theorem WPS.rnToH (tok : TOk P tt) (z : Nm kk (d :: rest)) (m : Nat) (hm : upToS ops d ls 0 = m + 1) (h : ∀ K : St → Prop, (∀ s, WPS P ops (ls.drop (m + 1)) s Ψ → K s) → ∃ s, runS tt ops (ls.take (m + 1)) st = some s ∧ K s) : WPS P ops ls st Ψ := WPS.rnTo tok d m hm h
theorem endP.ownH {nt : Nat} {rs : List ResultVar} {G : Nat → Value} {ins : List AV} {keep : List Nat} {Φ : AV → List (Nat × Root) → Prop} {e : Exit} {s : St} {r : AV} {ob' : List (Nat × Root)} (z : OutO ob') (he : e = .normal ∨ e = .ret) (hs : s.nt = nt) (hg : s.G = G)
    (h : resA tt s rs = some r) (hO : FitO s ob') (hΦ : Φ r ob') (hk : ∀ i, i ∈ keep → ∀ v, ins[i]? = some v → lk s.tm (nt + i) = v) : endP tt nt rs G ins keep Φ e s := endP.own ob' he hs hg h hO hΦ hk
end
theorem sch (id : Nat) (te l : List (Nat × List Nat)) : Sch id te l := ⟨trivial⟩
theorem outs (is : List Nat) : Outs is := ⟨trivial⟩
theorem WPc.schedH {P : Program} {tt : Nat → Option TI} {st : St} (tok : TOk P tt) {id : Nat} {ops : Array Oper} {Φ : Exit → St → Prop} {te l : List (Nat × List Nat)} (z : Sch id te l) (hn : (Region.noSelect ops && schedF te ops (Array.replicate ops.size false) l && (l.length == ops.size)) = true)
    (h : WPS P ops l st (Φ .normal)) : WPc P (.region id ops true) st Φ := WPc.sched tok te l hn h
theorem endP.selH {tt : Nat → Option TI} {nt : Nat} {rs : List ResultVar} {G : Nat → Value} {ins : List AV} {keep : List Nat} {Φ : AV → List (Nat × Root) → Prop} {e : Exit} {s : St} {r : AV} {ob' : List (Nat × Root)} {is : List Nat} (z : Outs is) (he : e = .normal ∨ e = .ret) (hs : s.nt = nt) (hg : s.G = G)
    (h : resA tt s rs = some r) (hO : selO s.ob is = some ob') (hΦ : Φ r ob') (hk : ∀ i, i ∈ keep → ∀ v, ins[i]? = some v → lk s.tm (nt + i) = v) : endP tt nt rs G ins keep Φ e s := endP.sel is he hs hg h hO hΦ hk
section
variable {P : Program} {st : St} {ops : Array Oper} {l : List Oper} {ls : List (Nat × List Nat)} {k f d : Nat} {T : List Nat} {ins ins0 : List AV} {args : Array Operand} {tys : Array TypeId} {ty : TypeId} {pos : String} {af : Array Edge} {g : Option (Nat × Bool)} {lent : List Nat} {Ψ : St → Prop}
theorem WPL.isCall (h : WPL P ops ({ dst := some d, op := .call { callee := .value (.func f), args := args, argTypes := tys }, type := ty, pos := pos, after := af, guard := g } :: l) st Ψ) : WPL P ops ({ dst := some d, op := .call { callee := .value (.func f), args := args, argTypes := tys }, type := ty, pos := pos, after := af, guard := g } :: l) st Ψ := h
theorem WPS.isCall (ho : ops[k]? = some { dst := some d, op := .call { callee := .value (.func f), args := args, argTypes := tys }, type := ty, pos := pos, after := af, guard := g }) (h : WPS P ops ((k, T) :: ls) st Ψ) : WPS P ops ((k, T) :: ls) st Ψ := h
theorem WPL.cLH {H : Prop} {res : AV} (hc : H → Con P f ins [] [] (fun r _ => r = res))
    (q : (wantA ops st { dst := some d, op := .call { callee := .value (.func f), args := args, argTypes := tys }, type := ty, pos := pos, after := af, guard := g } = some true ∧ d < st.nt ∧ lentOf st args.toList = lent ∧ below lent = true ∧ insA st [] lent args.toList = some ins0 ∧ Eqv ins0 ins) ∧ (lent = [] ∨ nzT res = true)) (hh : H) (hk : WPL P ops l (putSt st (some d) (rnT [] res)) Ψ) :
    WPL P ops ({ dst := some d, op := .call { callee := .value (.func f), args := args, argTypes := tys }, type := ty, pos := pos, after := af, guard := g } :: l) st Ψ := WPL.cL (hc hh) q hk
theorem WPL.cUH {H : Prop} {ob ob0 : List (Nat × Root)} {keep : List Nat} {ren nw : List (Nat × Nat)} {kP kS : List Nat} {R : AV} {O : List (Nat × Root)} {s : St} (hc : H → Con P f ins ob keep (fun r o => r = R ∧ o = O))
    (q : (wantA ops st { dst := some d, op := .call { callee := .value (.func f), args := args, argTypes := tys }, type := ty, pos := pos, after := af, guard := g } = some true ∧ d < st.nt ∧ lentAt st ins args.toList = lent ∧ renAt st lent args.toList = ren ∧ insA st ren lent args.toList = some ins0 ∧ Eqv ins0 ins ∧ obIn st ren = ob0 ∧ Eqv ob0 ob) ∧ (nwAt d ren 0 (keys O) = nw ∧ callOk ren lent nw = true ∧ kpOf ren nw (partsAt st keep args.toList) = kP ∧ ksOf ren nw (partsAt st keep args.toList) = kS ∧ cleanOut lent R O = true ∧ putSt (callSt st ren nw kP kS O) (some d) (rnT nw R) = s))
    (hh : H) (hk : WPL P ops l s Ψ) : WPL P ops ({ dst := some d, op := .call { callee := .value (.func f), args := args, argTypes := tys }, type := ty, pos := pos, after := af, guard := g } :: l) st Ψ := WPL.cU (hc hh) q hk
theorem WPL.cRH {H : Prop} {ob ob0 : List (Nat × Root)} {keep : List Nat} {ren nw : List (Nat × Nat)} {kP kS : List Nat} {σ : Type} {I : σ → Prop} {R : σ → AV} {O : σ → List (Nat × Root)} (hc : H → Con P f ins ob keep (fun r o => ∃ y, I y ∧ r = R y ∧ o = O y))
    (q : (wantA ops st { dst := some d, op := .call { callee := .value (.func f), args := args, argTypes := tys }, type := ty, pos := pos, after := af, guard := g } = some true ∧ d < st.nt ∧ lentAt st ins args.toList = lent ∧ renAt st lent args.toList = ren ∧ insA st ren lent args.toList = some ins0 ∧ Eqv ins0 ins ∧ obIn st ren = ob0 ∧ Eqv ob0 ob) ∧ ((∀ y, nwAt d ren 0 (keys (O y)) = nw) ∧ callOk ren lent nw = true ∧ kpOf ren nw (partsAt st keep args.toList) = kP ∧ ksOf ren nw (partsAt st keep args.toList) = kS ∧ ∀ y, I y → cleanOut lent (R y) (O y) = true))
    (hh : H) (hk : ∀ y, I y → ∀ s, putSt (callSt st ren nw kP kS (O y)) (some d) (rnT nw (R y)) = s → WPL P ops l s Ψ) :
    WPL P ops ({ dst := some d, op := .call { callee := .value (.func f), args := args, argTypes := tys }, type := ty, pos := pos, after := af, guard := g } :: l) st Ψ := WPL.cR (hc hh) q hk
theorem WPS.cLH {H : Prop} {res : AV} (ho : ops[k]? = some { dst := some d, op := .call { callee := .value (.func f), args := args, argTypes := tys }, type := ty, pos := pos, after := af, guard := g })
    (hc : H → Con P f ins [] [] (fun r _ => r = res))
    (q : (wantA ops st { dst := some d, op := .call { callee := .value (.func f), args := args, argTypes := tys }, type := ty, pos := pos, after := af, guard := g } = some true ∧ d < st.nt ∧ lentOf st args.toList = lent ∧ below lent = true ∧ insA st [] lent args.toList = some ins0 ∧ Eqv ins0 ins) ∧ (lent = [] ∨ nzT res = true)) (hh : H) (hk : WPS P ops ls (putSt st (some d) (rnT [] res)) Ψ) : WPS P ops ((k, T) :: ls) st Ψ := WPS.cL ho (hc hh) q hk
theorem WPS.cUH {H : Prop} {ob ob0 : List (Nat × Root)} {keep : List Nat} {ren nw : List (Nat × Nat)} {kP kS : List Nat} {R : AV} {O : List (Nat × Root)} {s : St} (ho : ops[k]? = some { dst := some d, op := .call { callee := .value (.func f), args := args, argTypes := tys }, type := ty, pos := pos, after := af, guard := g })
    (hc : H → Con P f ins ob keep (fun r o => r = R ∧ o = O))
    (q : (wantA ops st { dst := some d, op := .call { callee := .value (.func f), args := args, argTypes := tys }, type := ty, pos := pos, after := af, guard := g } = some true ∧ d < st.nt ∧ lentAt st ins args.toList = lent ∧ renAt st lent args.toList = ren ∧ insA st ren lent args.toList = some ins0 ∧ Eqv ins0 ins ∧ obIn st ren = ob0 ∧ Eqv ob0 ob) ∧ (nwAt d ren 0 (keys O) = nw ∧ callOk ren lent nw = true ∧ kpOf ren nw (partsAt st keep args.toList) = kP ∧ ksOf ren nw (partsAt st keep args.toList) = kS ∧ cleanOut lent R O = true ∧ subB (ren.map (·.1) ++ nw.map (·.2)) T = true ∧ putSt (callSt st ren nw kP kS O) (some d) (rnT nw R) = s))
    (hh : H) (hk : WPS P ops ls s Ψ) : WPS P ops ((k, T) :: ls) st Ψ := WPS.cU ho (hc hh) q hk
theorem WPS.cRH {H : Prop} {ob ob0 : List (Nat × Root)} {keep : List Nat} {ren nw : List (Nat × Nat)} {kP kS : List Nat} {σ : Type} {I : σ → Prop} {R : σ → AV} {O : σ → List (Nat × Root)} (ho : ops[k]? = some { dst := some d, op := .call { callee := .value (.func f), args := args, argTypes := tys }, type := ty, pos := pos, after := af, guard := g })
    (hc : H → Con P f ins ob keep (fun r o => ∃ y, I y ∧ r = R y ∧ o = O y))
    (q : (wantA ops st { dst := some d, op := .call { callee := .value (.func f), args := args, argTypes := tys }, type := ty, pos := pos, after := af, guard := g } = some true ∧ d < st.nt ∧ lentAt st ins args.toList = lent ∧ renAt st lent args.toList = ren ∧ insA st ren lent args.toList = some ins0 ∧ Eqv ins0 ins ∧ obIn st ren = ob0 ∧ Eqv ob0 ob) ∧ ((∀ y, nwAt d ren 0 (keys (O y)) = nw) ∧ callOk ren lent nw = true ∧ kpOf ren nw (partsAt st keep args.toList) = kP ∧ ksOf ren nw (partsAt st keep args.toList) = kS ∧ (∀ y, I y → cleanOut lent (R y) (O y) = true) ∧ subB (ren.map (·.1) ++ nw.map (·.2)) T = true))
    (hh : H) (hk : ∀ y, I y → ∀ s, putSt (callSt st ren nw kP kS (O y)) (some d) (rnT nw (R y)) = s → WPS P ops ls s Ψ) : WPS P ops ((k, T) :: ls) st Ψ := WPS.cR ho (hc hh) q hk
end
theorem wa1 {A0 : Prop} (x0 : A0) : A0 := x0
theorem wa2 {A0 A1 : Prop} (x0 : A0) (x1 : A1) : A0 ∧ A1 := ⟨x0, x1⟩
theorem wa3 {A0 A1 A2 : Prop} (x0 : A0) (x1 : A1) (x2 : A2) : A0 ∧ A1 ∧ A2 := ⟨x0, x1, x2⟩
theorem wa4 {A0 A1 A2 A3 : Prop} (x0 : A0) (x1 : A1) (x2 : A2) (x3 : A3) : A0 ∧ A1 ∧ A2 ∧ A3 := ⟨x0, x1, x2, x3⟩
theorem wa5 {A0 A1 A2 A3 A4 : Prop} (x0 : A0) (x1 : A1) (x2 : A2) (x3 : A3) (x4 : A4) : A0 ∧ A1 ∧ A2 ∧ A3 ∧ A4 := ⟨x0, x1, x2, x3, x4⟩
theorem wa6 {A0 A1 A2 A3 A4 A5 : Prop} (x0 : A0) (x1 : A1) (x2 : A2) (x3 : A3) (x4 : A4) (x5 : A5) : A0 ∧ A1 ∧ A2 ∧ A3 ∧ A4 ∧ A5 := ⟨x0, x1, x2, x3, x4, x5⟩
theorem wa7 {A0 A1 A2 A3 A4 A5 A6 : Prop} (x0 : A0) (x1 : A1) (x2 : A2) (x3 : A3) (x4 : A4) (x5 : A5) (x6 : A6) : A0 ∧ A1 ∧ A2 ∧ A3 ∧ A4 ∧ A5 ∧ A6 := ⟨x0, x1, x2, x3, x4, x5, x6⟩
theorem wa8 {A0 A1 A2 A3 A4 A5 A6 A7 : Prop} (x0 : A0) (x1 : A1) (x2 : A2) (x3 : A3) (x4 : A4) (x5 : A5) (x6 : A6) (x7 : A7) : A0 ∧ A1 ∧ A2 ∧ A3 ∧ A4 ∧ A5 ∧ A6 ∧ A7 := ⟨x0, x1, x2, x3, x4, x5, x6, x7⟩
theorem wa9 {A0 A1 A2 A3 A4 A5 A6 A7 A8 : Prop} (x0 : A0) (x1 : A1) (x2 : A2) (x3 : A3) (x4 : A4) (x5 : A5) (x6 : A6) (x7 : A7) (x8 : A8) : A0 ∧ A1 ∧ A2 ∧ A3 ∧ A4 ∧ A5 ∧ A6 ∧ A7 ∧ A8 := ⟨x0, x1, x2, x3, x4, x5, x6, x7, x8⟩
theorem wa10 {A0 A1 A2 A3 A4 A5 A6 A7 A8 A9 : Prop} (x0 : A0) (x1 : A1) (x2 : A2) (x3 : A3) (x4 : A4) (x5 : A5) (x6 : A6) (x7 : A7) (x8 : A8) (x9 : A9) : A0 ∧ A1 ∧ A2 ∧ A3 ∧ A4 ∧ A5 ∧ A6 ∧ A7 ∧ A8 ∧ A9 := ⟨x0, x1, x2, x3, x4, x5, x6, x7, x8, x9⟩
theorem wa11 {A0 A1 A2 A3 A4 A5 A6 A7 A8 A9 A10 : Prop} (x0 : A0) (x1 : A1) (x2 : A2) (x3 : A3) (x4 : A4) (x5 : A5) (x6 : A6) (x7 : A7) (x8 : A8) (x9 : A9) (x10 : A10) : A0 ∧ A1 ∧ A2 ∧ A3 ∧ A4 ∧ A5 ∧ A6 ∧ A7 ∧ A8 ∧ A9 ∧ A10 := ⟨x0, x1, x2, x3, x4, x5, x6, x7, x8, x9, x10⟩
theorem wa12 {A0 A1 A2 A3 A4 A5 A6 A7 A8 A9 A10 A11 : Prop} (x0 : A0) (x1 : A1) (x2 : A2) (x3 : A3) (x4 : A4) (x5 : A5) (x6 : A6) (x7 : A7) (x8 : A8) (x9 : A9) (x10 : A10) (x11 : A11) : A0 ∧ A1 ∧ A2 ∧ A3 ∧ A4 ∧ A5 ∧ A6 ∧ A7 ∧ A8 ∧ A9 ∧ A10 ∧ A11 := ⟨x0, x1, x2, x3, x4, x5, x6, x7, x8, x9, x10, x11⟩
theorem wa13 {A0 A1 A2 A3 A4 A5 A6 A7 A8 A9 A10 A11 A12 : Prop} (x0 : A0) (x1 : A1) (x2 : A2) (x3 : A3) (x4 : A4) (x5 : A5) (x6 : A6) (x7 : A7) (x8 : A8) (x9 : A9) (x10 : A10) (x11 : A11) (x12 : A12) : A0 ∧ A1 ∧ A2 ∧ A3 ∧ A4 ∧ A5 ∧ A6 ∧ A7 ∧ A8 ∧ A9 ∧ A10 ∧ A11 ∧ A12 := ⟨x0, x1, x2, x3, x4, x5, x6, x7, x8, x9, x10, x11, x12⟩
theorem wa14 {A0 A1 A2 A3 A4 A5 A6 A7 A8 A9 A10 A11 A12 A13 : Prop} (x0 : A0) (x1 : A1) (x2 : A2) (x3 : A3) (x4 : A4) (x5 : A5) (x6 : A6) (x7 : A7) (x8 : A8) (x9 : A9) (x10 : A10) (x11 : A11) (x12 : A12) (x13 : A13) : A0 ∧ A1 ∧ A2 ∧ A3 ∧ A4 ∧ A5 ∧ A6 ∧ A7 ∧ A8 ∧ A9 ∧ A10 ∧ A11 ∧ A12 ∧ A13 := ⟨x0, x1, x2, x3, x4, x5, x6, x7, x8, x9, x10, x11, x12, x13⟩
theorem wa15 {A0 A1 A2 A3 A4 A5 A6 A7 A8 A9 A10 A11 A12 A13 A14 : Prop} (x0 : A0) (x1 : A1) (x2 : A2) (x3 : A3) (x4 : A4) (x5 : A5) (x6 : A6) (x7 : A7) (x8 : A8) (x9 : A9) (x10 : A10) (x11 : A11) (x12 : A12) (x13 : A13) (x14 : A14) : A0 ∧ A1 ∧ A2 ∧ A3 ∧ A4 ∧ A5 ∧ A6 ∧ A7 ∧ A8 ∧ A9 ∧ A10 ∧ A11 ∧ A12 ∧ A13 ∧ A14 := ⟨x0, x1, x2, x3, x4, x5, x6, x7, x8, x9, x10, x11, x12, x13, x14⟩
theorem wa16 {A0 A1 A2 A3 A4 A5 A6 A7 A8 A9 A10 A11 A12 A13 A14 A15 : Prop} (x0 : A0) (x1 : A1) (x2 : A2) (x3 : A3) (x4 : A4) (x5 : A5) (x6 : A6) (x7 : A7) (x8 : A8) (x9 : A9) (x10 : A10) (x11 : A11) (x12 : A12) (x13 : A13) (x14 : A14) (x15 : A15) : A0 ∧ A1 ∧ A2 ∧ A3 ∧ A4 ∧ A5 ∧ A6 ∧ A7 ∧ A8 ∧ A9 ∧ A10 ∧ A11 ∧ A12 ∧ A13 ∧ A14 ∧ A15 := ⟨x0, x1, x2, x3, x4, x5, x6, x7, x8, x9, x10, x11, x12, x13, x14, x15⟩
theorem wa17 {A0 A1 A2 A3 A4 A5 A6 A7 A8 A9 A10 A11 A12 A13 A14 A15 A16 : Prop} (x0 : A0) (x1 : A1) (x2 : A2) (x3 : A3) (x4 : A4) (x5 : A5) (x6 : A6) (x7 : A7) (x8 : A8) (x9 : A9) (x10 : A10) (x11 : A11) (x12 : A12) (x13 : A13) (x14 : A14) (x15 : A15) (x16 : A16) : A0 ∧ A1 ∧ A2 ∧ A3 ∧ A4 ∧ A5 ∧ A6 ∧ A7 ∧ A8 ∧ A9 ∧ A10 ∧ A11 ∧ A12 ∧ A13 ∧ A14 ∧ A15 ∧ A16 := ⟨x0, x1, x2, x3, x4, x5, x6, x7, x8, x9, x10, x11, x12, x13, x14, x15, x16⟩
theorem wa18 {A0 A1 A2 A3 A4 A5 A6 A7 A8 A9 A10 A11 A12 A13 A14 A15 A16 A17 : Prop} (x0 : A0) (x1 : A1) (x2 : A2) (x3 : A3) (x4 : A4) (x5 : A5) (x6 : A6) (x7 : A7) (x8 : A8) (x9 : A9) (x10 : A10) (x11 : A11) (x12 : A12) (x13 : A13) (x14 : A14) (x15 : A15) (x16 : A16) (x17 : A17) : A0 ∧ A1 ∧ A2 ∧ A3 ∧ A4 ∧ A5 ∧ A6 ∧ A7 ∧ A8 ∧ A9 ∧ A10 ∧ A11 ∧ A12 ∧ A13 ∧ A14 ∧ A15 ∧ A16 ∧ A17 := ⟨x0, x1, x2, x3, x4, x5, x6, x7, x8, x9, x10, x11, x12, x13, x14, x15, x16, x17⟩
theorem wa20 {A0 A1 A2 A3 A4 A5 A6 A7 A8 A9 A10 A11 A12 A13 A14 A15 A16 A17 A18 A19 : Prop} (x0 : A0) (x1 : A1) (x2 : A2) (x3 : A3) (x4 : A4) (x5 : A5) (x6 : A6) (x7 : A7) (x8 : A8) (x9 : A9) (x10 : A10) (x11 : A11) (x12 : A12) (x13 : A13) (x14 : A14) (x15 : A15) (x16 : A16) (x17 : A17) (x18 : A18) (x19 : A19) : A0 ∧ A1 ∧ A2 ∧ A3 ∧ A4 ∧ A5 ∧ A6 ∧ A7 ∧ A8 ∧ A9 ∧ A10 ∧ A11 ∧ A12 ∧ A13 ∧ A14 ∧ A15 ∧ A16 ∧ A17 ∧ A18 ∧ A19 := ⟨x0, x1, x2, x3, x4, x5, x6, x7, x8, x9, x10, x11, x12, x13, x14, x15, x16, x17, x18, x19⟩
theorem wb0  : True := trivial
theorem wb1 {A0 : Prop} (x0 : A0) : A0 ∧ True := ⟨x0, trivial⟩
theorem wb2 {A0 A1 : Prop} (x0 : A0) (x1 : A1) : A0 ∧ A1 ∧ True := ⟨x0, x1, trivial⟩
theorem wb3 {A0 A1 A2 : Prop} (x0 : A0) (x1 : A1) (x2 : A2) : A0 ∧ A1 ∧ A2 ∧ True := ⟨x0, x1, x2, trivial⟩
theorem wb4 {A0 A1 A2 A3 : Prop} (x0 : A0) (x1 : A1) (x2 : A2) (x3 : A3) : A0 ∧ A1 ∧ A2 ∧ A3 ∧ True := ⟨x0, x1, x2, x3, trivial⟩
theorem wb5 {A0 A1 A2 A3 A4 : Prop} (x0 : A0) (x1 : A1) (x2 : A2) (x3 : A3) (x4 : A4) : A0 ∧ A1 ∧ A2 ∧ A3 ∧ A4 ∧ True := ⟨x0, x1, x2, x3, x4, trivial⟩
theorem wb6 {A0 A1 A2 A3 A4 A5 : Prop} (x0 : A0) (x1 : A1) (x2 : A2) (x3 : A3) (x4 : A4) (x5 : A5) : A0 ∧ A1 ∧ A2 ∧ A3 ∧ A4 ∧ A5 ∧ True := ⟨x0, x1, x2, x3, x4, x5, trivial⟩
theorem wb7 {A0 A1 A2 A3 A4 A5 A6 : Prop} (x0 : A0) (x1 : A1) (x2 : A2) (x3 : A3) (x4 : A4) (x5 : A5) (x6 : A6) : A0 ∧ A1 ∧ A2 ∧ A3 ∧ A4 ∧ A5 ∧ A6 ∧ True := ⟨x0, x1, x2, x3, x4, x5, x6, trivial⟩
theorem wb8 {A0 A1 A2 A3 A4 A5 A6 A7 : Prop} (x0 : A0) (x1 : A1) (x2 : A2) (x3 : A3) (x4 : A4) (x5 : A5) (x6 : A6) (x7 : A7) : A0 ∧ A1 ∧ A2 ∧ A3 ∧ A4 ∧ A5 ∧ A6 ∧ A7 ∧ True := ⟨x0, x1, x2, x3, x4, x5, x6, x7, trivial⟩
theorem wb9 {A0 A1 A2 A3 A4 A5 A6 A7 A8 : Prop} (x0 : A0) (x1 : A1) (x2 : A2) (x3 : A3) (x4 : A4) (x5 : A5) (x6 : A6) (x7 : A7) (x8 : A8) : A0 ∧ A1 ∧ A2 ∧ A3 ∧ A4 ∧ A5 ∧ A6 ∧ A7 ∧ A8 ∧ True := ⟨x0, x1, x2, x3, x4, x5, x6, x7, x8, trivial⟩
theorem gox {p W UL UU UR Z L : Prop} (w : W) (uL : UL) (uU : UU) (uR : UR) (z : Z) (n : L) (h : Bx W → Bx UL → Bx UU → Bx UR → Bx Z → Bx L → p := by
  intro w_ uL_ uU_ uR_ z_ n_
  repeat' (first
    | ((first | (refine WPL.detStH z_.o.2.1 ?_ ?_; (focus (simp; done)); refine fun K hK => ?_) | (refine WPS.detStH z_.o.2.1 ?_ (by decide) ?_; (focus (simp; done)); refine fun K hK => ?_) | (refine WPL.detAtH z_.o.2.1 ?_ ?_; (focus (simp; done)); refine fun K hK => ?_) | (refine WPS.detAtH z_.o.2.1 ?_ (by decide) ?_; (focus (simp; done)); refine fun K hK => ?_) | (refine WPL.focAtH z_.o.2.1 ?_ ?_; (focus (simp; done)); refine fun u_ K hK => ?_) | (refine WPL.attAtH z_.o.2.1 ?_ rfl ?_; (focus (simp; done)); refine fun K hK => ?_) | (refine WPL.attEndH z_.o.2.1 ?_ rfl ?_; (focus (simp; done)); refine fun K hK => ?_) | (refine WPc.renRH z_.o.2.1 fun K hK => ?_) | (refine WPc.detRH z_.o.2.1 fun K hK => ?_) | (refine WPc.renRgH z_.o.2.1 fun K hK => ?_) | (refine WPL.unAtH z_.o.2.1 ?_ ?_; (focus (simp; done)); refine fun K hK => ?_) | (refine WPS.unAtH z_.o.2.1 ?_ ?_; (focus (simp; done)); refine fun K hK => ?_) | (refine WPL.adAtH z_.o.2.1 ?_ ?_; (focus (simp; done)); refine fun K hK => ?_) | (refine WPS.adAtH z_.o.2.1 ?_ ?_; (focus (simp; done)); refine fun K hK => ?_) | (refine WPL.utAtH z_.o.2.1 ?_ ?_; (focus (simp; done)); refine fun K hK => ?_) | (refine WPS.utAtH z_.o.2.1 ?_ ?_; (focus (simp; done)); refine fun K hK => ?_)); simp -implicitDefEqProofs +contextual [-Int.not_le, -Int.not_lt, -Nat.not_le, -Nat.not_lt, -List.all_eq_true, -List.all_eq_false, -List.any_eq_true, -List.any_eq_false, w_.o]; (repeat1' (first | refine hK _ ?_ | refine And.intro ?_ ?_ | intro ha_)) <;> clear hK K)
    | (refine WPc.openRg z_.o.2.1 ?_; simp only [List.toList_toArray])
    | (refine WPc.dropRgH z_.o.2.1 rfl ?_; dsimp only)
    | (refine WPc.dropRH z_.o.2.1 rfl ?_; dsimp only)
    | ((first | refine WPL.rnToStH tok z_.o.2.1 _ (by simp [isFn]; rfl) fun K hK => ?_ | refine WPL.rnToH tok z_.o.2.1 _ (by simp [isFn]; rfl) fun K hK => ?_ | refine WPS.rnToH tok z_.o.2.1 _ (by simp; rfl) fun K hK => ?_); simp -implicitDefEqProofs +contextual [-Int.not_le, -Int.not_lt, -Nat.not_le, -Nat.not_lt, -List.all_eq_true, -List.all_eq_false, -List.any_eq_true, -List.any_eq_false, w_.o]; (repeat1' (first | refine hK _ ?_ | refine And.intro ?_ ?_ | intro ha_)) <;> clear hK K <;> (try dsimp only [List.drop]))
    | ((first | (refine WPL.detStH z_.o.2.2.1 ?_ ?_; (focus (simp; done)); refine fun K hK => ?_) | (refine WPS.detStH z_.o.2.2.1 ?_ (by decide) ?_; (focus (simp; done)); refine fun K hK => ?_) | (refine WPL.detAtH z_.o.2.2.1 ?_ ?_; (focus (simp; done)); refine fun K hK => ?_) | (refine WPS.detAtH z_.o.2.2.1 ?_ (by decide) ?_; (focus (simp; done)); refine fun K hK => ?_) | (refine WPL.focAtH z_.o.2.2.1 ?_ ?_; (focus (simp; done)); refine fun u_ K hK => ?_) | (refine WPL.attAtH z_.o.2.2.1 ?_ rfl ?_; (focus (simp; done)); refine fun K hK => ?_) | (refine WPL.attEndH z_.o.2.2.1 ?_ rfl ?_; (focus (simp; done)); refine fun K hK => ?_) | (refine WPc.renRH z_.o.2.2.1 fun K hK => ?_) | (refine WPc.detRH z_.o.2.2.1 fun K hK => ?_) | (refine WPc.renRgH z_.o.2.2.1 fun K hK => ?_) | (refine WPL.unAtH z_.o.2.2.1 ?_ ?_; (focus (simp; done)); refine fun K hK => ?_) | (refine WPS.unAtH z_.o.2.2.1 ?_ ?_; (focus (simp; done)); refine fun K hK => ?_) | (refine WPL.adAtH z_.o.2.2.1 ?_ ?_; (focus (simp; done)); refine fun K hK => ?_) | (refine WPS.adAtH z_.o.2.2.1 ?_ ?_; (focus (simp; done)); refine fun K hK => ?_) | (refine WPL.utAtH z_.o.2.2.1 ?_ ?_; (focus (simp; done)); refine fun K hK => ?_) | (refine WPS.utAtH z_.o.2.2.1 ?_ ?_; (focus (simp; done)); refine fun K hK => ?_)); simp -implicitDefEqProofs +contextual [-Int.not_le, -Int.not_lt, -Nat.not_le, -Nat.not_lt, -List.all_eq_true, -List.all_eq_false, -List.any_eq_true, -List.any_eq_false, w_.o]; (repeat1' (first | refine hK _ ?_ | refine And.intro ?_ ?_ | intro ha_)) <;> clear hK K)
    | (refine WPc.openRg z_.o.2.2.1 ?_; simp only [List.toList_toArray])
    | (refine WPc.dropRgH z_.o.2.2.1 rfl ?_; dsimp only)
    | (refine WPc.dropRH z_.o.2.2.1 rfl ?_; dsimp only)
    | ((first | refine WPL.rnToStH tok z_.o.2.2.1 _ (by simp [isFn]; rfl) fun K hK => ?_ | refine WPL.rnToH tok z_.o.2.2.1 _ (by simp [isFn]; rfl) fun K hK => ?_ | refine WPS.rnToH tok z_.o.2.2.1 _ (by simp; rfl) fun K hK => ?_); simp -implicitDefEqProofs +contextual [-Int.not_le, -Int.not_lt, -Nat.not_le, -Nat.not_lt, -List.all_eq_true, -List.all_eq_false, -List.any_eq_true, -List.any_eq_false, w_.o]; (repeat1' (first | refine hK _ ?_ | refine And.intro ?_ ?_ | intro ha_)) <;> clear hK K <;> (try dsimp only [List.drop]))
    | ((first | (refine WPL.detStH z_.o.2.2.2.1 ?_ ?_; (focus (simp; done)); refine fun K hK => ?_) | (refine WPS.detStH z_.o.2.2.2.1 ?_ (by decide) ?_; (focus (simp; done)); refine fun K hK => ?_) | (refine WPL.detAtH z_.o.2.2.2.1 ?_ ?_; (focus (simp; done)); refine fun K hK => ?_) | (refine WPS.detAtH z_.o.2.2.2.1 ?_ (by decide) ?_; (focus (simp; done)); refine fun K hK => ?_) | (refine WPL.focAtH z_.o.2.2.2.1 ?_ ?_; (focus (simp; done)); refine fun u_ K hK => ?_) | (refine WPL.attAtH z_.o.2.2.2.1 ?_ rfl ?_; (focus (simp; done)); refine fun K hK => ?_) | (refine WPL.attEndH z_.o.2.2.2.1 ?_ rfl ?_; (focus (simp; done)); refine fun K hK => ?_) | (refine WPc.renRH z_.o.2.2.2.1 fun K hK => ?_) | (refine WPc.detRH z_.o.2.2.2.1 fun K hK => ?_) | (refine WPc.renRgH z_.o.2.2.2.1 fun K hK => ?_) | (refine WPL.unAtH z_.o.2.2.2.1 ?_ ?_; (focus (simp; done)); refine fun K hK => ?_) | (refine WPS.unAtH z_.o.2.2.2.1 ?_ ?_; (focus (simp; done)); refine fun K hK => ?_) | (refine WPL.adAtH z_.o.2.2.2.1 ?_ ?_; (focus (simp; done)); refine fun K hK => ?_) | (refine WPS.adAtH z_.o.2.2.2.1 ?_ ?_; (focus (simp; done)); refine fun K hK => ?_) | (refine WPL.utAtH z_.o.2.2.2.1 ?_ ?_; (focus (simp; done)); refine fun K hK => ?_) | (refine WPS.utAtH z_.o.2.2.2.1 ?_ ?_; (focus (simp; done)); refine fun K hK => ?_)); simp -implicitDefEqProofs +contextual [-Int.not_le, -Int.not_lt, -Nat.not_le, -Nat.not_lt, -List.all_eq_true, -List.all_eq_false, -List.any_eq_true, -List.any_eq_false, w_.o]; (repeat1' (first | refine hK _ ?_ | refine And.intro ?_ ?_ | intro ha_)) <;> clear hK K)
    | (refine WPc.openRg z_.o.2.2.2.1 ?_; simp only [List.toList_toArray])
    | (refine WPc.dropRgH z_.o.2.2.2.1 rfl ?_; dsimp only)
    | (refine WPc.dropRH z_.o.2.2.2.1 rfl ?_; dsimp only)
    | ((first | refine WPL.rnToStH tok z_.o.2.2.2.1 _ (by simp [isFn]; rfl) fun K hK => ?_ | refine WPL.rnToH tok z_.o.2.2.2.1 _ (by simp [isFn]; rfl) fun K hK => ?_ | refine WPS.rnToH tok z_.o.2.2.2.1 _ (by simp; rfl) fun K hK => ?_); simp -implicitDefEqProofs +contextual [-Int.not_le, -Int.not_lt, -Nat.not_le, -Nat.not_lt, -List.all_eq_true, -List.all_eq_false, -List.any_eq_true, -List.any_eq_false, w_.o]; (repeat1' (first | refine hK _ ?_ | refine And.intro ?_ ?_ | intro ha_)) <;> clear hK K <;> (try dsimp only [List.drop]))
    | ((first | (refine WPL.detStH z_.o.2.2.2.2.1 ?_ ?_; (focus (simp; done)); refine fun K hK => ?_) | (refine WPS.detStH z_.o.2.2.2.2.1 ?_ (by decide) ?_; (focus (simp; done)); refine fun K hK => ?_) | (refine WPL.detAtH z_.o.2.2.2.2.1 ?_ ?_; (focus (simp; done)); refine fun K hK => ?_) | (refine WPS.detAtH z_.o.2.2.2.2.1 ?_ (by decide) ?_; (focus (simp; done)); refine fun K hK => ?_) | (refine WPL.focAtH z_.o.2.2.2.2.1 ?_ ?_; (focus (simp; done)); refine fun u_ K hK => ?_) | (refine WPL.attAtH z_.o.2.2.2.2.1 ?_ rfl ?_; (focus (simp; done)); refine fun K hK => ?_) | (refine WPL.attEndH z_.o.2.2.2.2.1 ?_ rfl ?_; (focus (simp; done)); refine fun K hK => ?_) | (refine WPc.renRH z_.o.2.2.2.2.1 fun K hK => ?_) | (refine WPc.detRH z_.o.2.2.2.2.1 fun K hK => ?_) | (refine WPc.renRgH z_.o.2.2.2.2.1 fun K hK => ?_) | (refine WPL.unAtH z_.o.2.2.2.2.1 ?_ ?_; (focus (simp; done)); refine fun K hK => ?_) | (refine WPS.unAtH z_.o.2.2.2.2.1 ?_ ?_; (focus (simp; done)); refine fun K hK => ?_) | (refine WPL.adAtH z_.o.2.2.2.2.1 ?_ ?_; (focus (simp; done)); refine fun K hK => ?_) | (refine WPS.adAtH z_.o.2.2.2.2.1 ?_ ?_; (focus (simp; done)); refine fun K hK => ?_) | (refine WPL.utAtH z_.o.2.2.2.2.1 ?_ ?_; (focus (simp; done)); refine fun K hK => ?_) | (refine WPS.utAtH z_.o.2.2.2.2.1 ?_ ?_; (focus (simp; done)); refine fun K hK => ?_)); simp -implicitDefEqProofs +contextual [-Int.not_le, -Int.not_lt, -Nat.not_le, -Nat.not_lt, -List.all_eq_true, -List.all_eq_false, -List.any_eq_true, -List.any_eq_false, w_.o]; (repeat1' (first | refine hK _ ?_ | refine And.intro ?_ ?_ | intro ha_)) <;> clear hK K)
    | (refine WPc.openRg z_.o.2.2.2.2.1 ?_; simp only [List.toList_toArray])
    | (refine WPc.dropRgH z_.o.2.2.2.2.1 rfl ?_; dsimp only)
    | (refine WPc.dropRH z_.o.2.2.2.2.1 rfl ?_; dsimp only)
    | ((first | refine WPL.rnToStH tok z_.o.2.2.2.2.1 _ (by simp [isFn]; rfl) fun K hK => ?_ | refine WPL.rnToH tok z_.o.2.2.2.2.1 _ (by simp [isFn]; rfl) fun K hK => ?_ | refine WPS.rnToH tok z_.o.2.2.2.2.1 _ (by simp; rfl) fun K hK => ?_); simp -implicitDefEqProofs +contextual [-Int.not_le, -Int.not_lt, -Nat.not_le, -Nat.not_lt, -List.all_eq_true, -List.all_eq_false, -List.any_eq_true, -List.any_eq_false, w_.o]; (repeat1' (first | refine hK _ ?_ | refine And.intro ?_ ?_ | intro ha_)) <;> clear hK K <;> (try dsimp only [List.drop]))
    | ((first | (refine WPL.detStH z_.o.2.2.2.2.2.1 ?_ ?_; (focus (simp; done)); refine fun K hK => ?_) | (refine WPS.detStH z_.o.2.2.2.2.2.1 ?_ (by decide) ?_; (focus (simp; done)); refine fun K hK => ?_) | (refine WPL.detAtH z_.o.2.2.2.2.2.1 ?_ ?_; (focus (simp; done)); refine fun K hK => ?_) | (refine WPS.detAtH z_.o.2.2.2.2.2.1 ?_ (by decide) ?_; (focus (simp; done)); refine fun K hK => ?_) | (refine WPL.focAtH z_.o.2.2.2.2.2.1 ?_ ?_; (focus (simp; done)); refine fun u_ K hK => ?_) | (refine WPL.attAtH z_.o.2.2.2.2.2.1 ?_ rfl ?_; (focus (simp; done)); refine fun K hK => ?_) | (refine WPL.attEndH z_.o.2.2.2.2.2.1 ?_ rfl ?_; (focus (simp; done)); refine fun K hK => ?_) | (refine WPc.renRH z_.o.2.2.2.2.2.1 fun K hK => ?_) | (refine WPc.detRH z_.o.2.2.2.2.2.1 fun K hK => ?_) | (refine WPc.renRgH z_.o.2.2.2.2.2.1 fun K hK => ?_) | (refine WPL.unAtH z_.o.2.2.2.2.2.1 ?_ ?_; (focus (simp; done)); refine fun K hK => ?_) | (refine WPS.unAtH z_.o.2.2.2.2.2.1 ?_ ?_; (focus (simp; done)); refine fun K hK => ?_) | (refine WPL.adAtH z_.o.2.2.2.2.2.1 ?_ ?_; (focus (simp; done)); refine fun K hK => ?_) | (refine WPS.adAtH z_.o.2.2.2.2.2.1 ?_ ?_; (focus (simp; done)); refine fun K hK => ?_) | (refine WPL.utAtH z_.o.2.2.2.2.2.1 ?_ ?_; (focus (simp; done)); refine fun K hK => ?_) | (refine WPS.utAtH z_.o.2.2.2.2.2.1 ?_ ?_; (focus (simp; done)); refine fun K hK => ?_)); simp -implicitDefEqProofs +contextual [-Int.not_le, -Int.not_lt, -Nat.not_le, -Nat.not_lt, -List.all_eq_true, -List.all_eq_false, -List.any_eq_true, -List.any_eq_false, w_.o]; (repeat1' (first | refine hK _ ?_ | refine And.intro ?_ ?_ | intro ha_)) <;> clear hK K)
    | (refine WPc.openRg z_.o.2.2.2.2.2.1 ?_; simp only [List.toList_toArray])
    | (refine WPc.dropRgH z_.o.2.2.2.2.2.1 rfl ?_; dsimp only)
    | (refine WPc.dropRH z_.o.2.2.2.2.2.1 rfl ?_; dsimp only)
    | ((first | refine WPL.rnToStH tok z_.o.2.2.2.2.2.1 _ (by simp [isFn]; rfl) fun K hK => ?_ | refine WPL.rnToH tok z_.o.2.2.2.2.2.1 _ (by simp [isFn]; rfl) fun K hK => ?_ | refine WPS.rnToH tok z_.o.2.2.2.2.2.1 _ (by simp; rfl) fun K hK => ?_); simp -implicitDefEqProofs +contextual [-Int.not_le, -Int.not_lt, -Nat.not_le, -Nat.not_lt, -List.all_eq_true, -List.all_eq_false, -List.any_eq_true, -List.any_eq_false, w_.o]; (repeat1' (first | refine hK _ ?_ | refine And.intro ?_ ?_ | intro ha_)) <;> clear hK K <;> (try dsimp only [List.drop]))
    | ((first | (refine WPL.detStH z_.o.2.2.2.2.2.2.1 ?_ ?_; (focus (simp; done)); refine fun K hK => ?_) | (refine WPS.detStH z_.o.2.2.2.2.2.2.1 ?_ (by decide) ?_; (focus (simp; done)); refine fun K hK => ?_) | (refine WPL.detAtH z_.o.2.2.2.2.2.2.1 ?_ ?_; (focus (simp; done)); refine fun K hK => ?_) | (refine WPS.detAtH z_.o.2.2.2.2.2.2.1 ?_ (by decide) ?_; (focus (simp; done)); refine fun K hK => ?_) | (refine WPL.focAtH z_.o.2.2.2.2.2.2.1 ?_ ?_; (focus (simp; done)); refine fun u_ K hK => ?_) | (refine WPL.attAtH z_.o.2.2.2.2.2.2.1 ?_ rfl ?_; (focus (simp; done)); refine fun K hK => ?_) | (refine WPL.attEndH z_.o.2.2.2.2.2.2.1 ?_ rfl ?_; (focus (simp; done)); refine fun K hK => ?_) | (refine WPc.renRH z_.o.2.2.2.2.2.2.1 fun K hK => ?_) | (refine WPc.detRH z_.o.2.2.2.2.2.2.1 fun K hK => ?_) | (refine WPc.renRgH z_.o.2.2.2.2.2.2.1 fun K hK => ?_) | (refine WPL.unAtH z_.o.2.2.2.2.2.2.1 ?_ ?_; (focus (simp; done)); refine fun K hK => ?_) | (refine WPS.unAtH z_.o.2.2.2.2.2.2.1 ?_ ?_; (focus (simp; done)); refine fun K hK => ?_) | (refine WPL.adAtH z_.o.2.2.2.2.2.2.1 ?_ ?_; (focus (simp; done)); refine fun K hK => ?_) | (refine WPS.adAtH z_.o.2.2.2.2.2.2.1 ?_ ?_; (focus (simp; done)); refine fun K hK => ?_) | (refine WPL.utAtH z_.o.2.2.2.2.2.2.1 ?_ ?_; (focus (simp; done)); refine fun K hK => ?_) | (refine WPS.utAtH z_.o.2.2.2.2.2.2.1 ?_ ?_; (focus (simp; done)); refine fun K hK => ?_)); simp -implicitDefEqProofs +contextual [-Int.not_le, -Int.not_lt, -Nat.not_le, -Nat.not_lt, -List.all_eq_true, -List.all_eq_false, -List.any_eq_true, -List.any_eq_false, w_.o]; (repeat1' (first | refine hK _ ?_ | refine And.intro ?_ ?_ | intro ha_)) <;> clear hK K)
    | (refine WPc.openRg z_.o.2.2.2.2.2.2.1 ?_; simp only [List.toList_toArray])
    | (refine WPc.dropRgH z_.o.2.2.2.2.2.2.1 rfl ?_; dsimp only)
    | (refine WPc.dropRH z_.o.2.2.2.2.2.2.1 rfl ?_; dsimp only)
    | ((first | refine WPL.rnToStH tok z_.o.2.2.2.2.2.2.1 _ (by simp [isFn]; rfl) fun K hK => ?_ | refine WPL.rnToH tok z_.o.2.2.2.2.2.2.1 _ (by simp [isFn]; rfl) fun K hK => ?_ | refine WPS.rnToH tok z_.o.2.2.2.2.2.2.1 _ (by simp; rfl) fun K hK => ?_); simp -implicitDefEqProofs +contextual [-Int.not_le, -Int.not_lt, -Nat.not_le, -Nat.not_lt, -List.all_eq_true, -List.all_eq_false, -List.any_eq_true, -List.any_eq_false, w_.o]; (repeat1' (first | refine hK _ ?_ | refine And.intro ?_ ?_ | intro ha_)) <;> clear hK K <;> (try dsimp only [List.drop]))
    | ((first | (refine WPL.detStH z_.o.2.2.2.2.2.2.2.1 ?_ ?_; (focus (simp; done)); refine fun K hK => ?_) | (refine WPS.detStH z_.o.2.2.2.2.2.2.2.1 ?_ (by decide) ?_; (focus (simp; done)); refine fun K hK => ?_) | (refine WPL.detAtH z_.o.2.2.2.2.2.2.2.1 ?_ ?_; (focus (simp; done)); refine fun K hK => ?_) | (refine WPS.detAtH z_.o.2.2.2.2.2.2.2.1 ?_ (by decide) ?_; (focus (simp; done)); refine fun K hK => ?_) | (refine WPL.focAtH z_.o.2.2.2.2.2.2.2.1 ?_ ?_; (focus (simp; done)); refine fun u_ K hK => ?_) | (refine WPL.attAtH z_.o.2.2.2.2.2.2.2.1 ?_ rfl ?_; (focus (simp; done)); refine fun K hK => ?_) | (refine WPL.attEndH z_.o.2.2.2.2.2.2.2.1 ?_ rfl ?_; (focus (simp; done)); refine fun K hK => ?_) | (refine WPc.renRH z_.o.2.2.2.2.2.2.2.1 fun K hK => ?_) | (refine WPc.detRH z_.o.2.2.2.2.2.2.2.1 fun K hK => ?_) | (refine WPc.renRgH z_.o.2.2.2.2.2.2.2.1 fun K hK => ?_) | (refine WPL.unAtH z_.o.2.2.2.2.2.2.2.1 ?_ ?_; (focus (simp; done)); refine fun K hK => ?_) | (refine WPS.unAtH z_.o.2.2.2.2.2.2.2.1 ?_ ?_; (focus (simp; done)); refine fun K hK => ?_) | (refine WPL.adAtH z_.o.2.2.2.2.2.2.2.1 ?_ ?_; (focus (simp; done)); refine fun K hK => ?_) | (refine WPS.adAtH z_.o.2.2.2.2.2.2.2.1 ?_ ?_; (focus (simp; done)); refine fun K hK => ?_) | (refine WPL.utAtH z_.o.2.2.2.2.2.2.2.1 ?_ ?_; (focus (simp; done)); refine fun K hK => ?_) | (refine WPS.utAtH z_.o.2.2.2.2.2.2.2.1 ?_ ?_; (focus (simp; done)); refine fun K hK => ?_)); simp -implicitDefEqProofs +contextual [-Int.not_le, -Int.not_lt, -Nat.not_le, -Nat.not_lt, -List.all_eq_true, -List.all_eq_false, -List.any_eq_true, -List.any_eq_false, w_.o]; (repeat1' (first | refine hK _ ?_ | refine And.intro ?_ ?_ | intro ha_)) <;> clear hK K)
    | (refine WPc.openRg z_.o.2.2.2.2.2.2.2.1 ?_; simp only [List.toList_toArray])
    | (refine WPc.dropRgH z_.o.2.2.2.2.2.2.2.1 rfl ?_; dsimp only)
    | (refine WPc.dropRH z_.o.2.2.2.2.2.2.2.1 rfl ?_; dsimp only)
    | ((first | refine WPL.rnToStH tok z_.o.2.2.2.2.2.2.2.1 _ (by simp [isFn]; rfl) fun K hK => ?_ | refine WPL.rnToH tok z_.o.2.2.2.2.2.2.2.1 _ (by simp [isFn]; rfl) fun K hK => ?_ | refine WPS.rnToH tok z_.o.2.2.2.2.2.2.2.1 _ (by simp; rfl) fun K hK => ?_); simp -implicitDefEqProofs +contextual [-Int.not_le, -Int.not_lt, -Nat.not_le, -Nat.not_lt, -List.all_eq_true, -List.all_eq_false, -List.any_eq_true, -List.any_eq_false, w_.o]; (repeat1' (first | refine hK _ ?_ | refine And.intro ?_ ?_ | intro ha_)) <;> clear hK K <;> (try dsimp only [List.drop]))
    | ((first | (refine WPL.detStH z_.o.2.2.2.2.2.2.2.2.1 ?_ ?_; (focus (simp; done)); refine fun K hK => ?_) | (refine WPS.detStH z_.o.2.2.2.2.2.2.2.2.1 ?_ (by decide) ?_; (focus (simp; done)); refine fun K hK => ?_) | (refine WPL.detAtH z_.o.2.2.2.2.2.2.2.2.1 ?_ ?_; (focus (simp; done)); refine fun K hK => ?_) | (refine WPS.detAtH z_.o.2.2.2.2.2.2.2.2.1 ?_ (by decide) ?_; (focus (simp; done)); refine fun K hK => ?_) | (refine WPL.focAtH z_.o.2.2.2.2.2.2.2.2.1 ?_ ?_; (focus (simp; done)); refine fun u_ K hK => ?_) | (refine WPL.attAtH z_.o.2.2.2.2.2.2.2.2.1 ?_ rfl ?_; (focus (simp; done)); refine fun K hK => ?_) | (refine WPL.attEndH z_.o.2.2.2.2.2.2.2.2.1 ?_ rfl ?_; (focus (simp; done)); refine fun K hK => ?_) | (refine WPc.renRH z_.o.2.2.2.2.2.2.2.2.1 fun K hK => ?_) | (refine WPc.detRH z_.o.2.2.2.2.2.2.2.2.1 fun K hK => ?_) | (refine WPc.renRgH z_.o.2.2.2.2.2.2.2.2.1 fun K hK => ?_) | (refine WPL.unAtH z_.o.2.2.2.2.2.2.2.2.1 ?_ ?_; (focus (simp; done)); refine fun K hK => ?_) | (refine WPS.unAtH z_.o.2.2.2.2.2.2.2.2.1 ?_ ?_; (focus (simp; done)); refine fun K hK => ?_) | (refine WPL.adAtH z_.o.2.2.2.2.2.2.2.2.1 ?_ ?_; (focus (simp; done)); refine fun K hK => ?_) | (refine WPS.adAtH z_.o.2.2.2.2.2.2.2.2.1 ?_ ?_; (focus (simp; done)); refine fun K hK => ?_) | (refine WPL.utAtH z_.o.2.2.2.2.2.2.2.2.1 ?_ ?_; (focus (simp; done)); refine fun K hK => ?_) | (refine WPS.utAtH z_.o.2.2.2.2.2.2.2.2.1 ?_ ?_; (focus (simp; done)); refine fun K hK => ?_)); simp -implicitDefEqProofs +contextual [-Int.not_le, -Int.not_lt, -Nat.not_le, -Nat.not_lt, -List.all_eq_true, -List.all_eq_false, -List.any_eq_true, -List.any_eq_false, w_.o]; (repeat1' (first | refine hK _ ?_ | refine And.intro ?_ ?_ | intro ha_)) <;> clear hK K)
    | (refine WPc.openRg z_.o.2.2.2.2.2.2.2.2.1 ?_; simp only [List.toList_toArray])
    | (refine WPc.dropRgH z_.o.2.2.2.2.2.2.2.2.1 rfl ?_; dsimp only)
    | (refine WPc.dropRH z_.o.2.2.2.2.2.2.2.2.1 rfl ?_; dsimp only)
    | ((first | refine WPL.rnToStH tok z_.o.2.2.2.2.2.2.2.2.1 _ (by simp [isFn]; rfl) fun K hK => ?_ | refine WPL.rnToH tok z_.o.2.2.2.2.2.2.2.2.1 _ (by simp [isFn]; rfl) fun K hK => ?_ | refine WPS.rnToH tok z_.o.2.2.2.2.2.2.2.2.1 _ (by simp; rfl) fun K hK => ?_); simp -implicitDefEqProofs +contextual [-Int.not_le, -Int.not_lt, -Nat.not_le, -Nat.not_lt, -List.all_eq_true, -List.all_eq_false, -List.any_eq_true, -List.any_eq_false, w_.o]; (repeat1' (first | refine hK _ ?_ | refine And.intro ?_ ?_ | intro ha_)) <;> clear hK K <;> (try dsimp only [List.drop]))
    | (apply WPc.ret; apply (endP.selH z_.o.1 (.inr rfl)); (case hs => rfl); (case hg => rfl); (case h => (simp; rfl)); (case hO => (simp; rfl)); (case hk => (simp; done)))
    | (apply (endP.selH z_.o.1 (.inl rfl)); (case hs => rfl); (case hg => rfl); (case h => (simp; rfl)); (case hO => (simp; rfl)); (case hk => (simp; done)))
    | (refine WPc.ret (endP.ownH z_.o.1 (.inr rfl) rfl rfl (by simp; rfl) ?_ ?_ (by simp)))
    | apply WPc.sq
    | apply WPc.block
    | apply WPc.skip
    | apply WPc.exit
    | refine WPL.nil ?_
    | refine WPS.nil ?_
    | (apply WPc.ret; apply (endP.selH z_.o.1 (.inr rfl)); (case hs => rfl); (case hg => rfl); (case h => (simp; rfl)); (case hO => (simp; rfl)); (case hk => (simp; done)))
    | (refine WPc.ret (endP.val (.inr rfl) rfl rfl (by simp; rfl) ?_))
    | (refine WPL.isCall ?_; first
      | (apply WPL.cLH; (case' hc => with_reducible (first | apply uL_.o.1 | apply uL_.o.2.1 | apply uL_.o.2.2.1 | apply uL_.o.2.2.2.1 | apply uL_.o.2.2.2.2.1 | apply uL_.o.2.2.2.2.2.1 | apply uL_.o.2.2.2.2.2.2.1 | apply uL_.o.2.2.2.2.2.2.2.1 | apply uL_.o.2.2.2.2.2.2.2.2.1 | apply uL_.o.2.2.2.2.2.2.2.2.2.1)); (case q => (repeat' (first | refine And.intro ?_ ?_ | intro _ | (with_reducible exact cleanOut_nil) | (refine Eqv.mk ?_; first | rfl | (simp -implicitDefEqProofs [w_.o]; done)) | (simp -implicitDefEqProofs [w_.o]; done) | (simp -implicitDefEqProofs [w_.o]; rfl) | (simp; done) | (simp; rfl) | rfl))); (case hh => (repeat' (first | exact True.intro | assumption | apply And.intro | omega | (simp; done) | (intros; omega) | decide | (simp_all; done)))))
      | (apply WPL.cUH; (case' hc => with_reducible (first | apply uU_.o.1 | apply uU_.o.2.1 | apply uU_.o.2.2.1 | apply uU_.o.2.2.2.1 | apply uU_.o.2.2.2.2.1 | apply uU_.o.2.2.2.2.2.1 | apply uU_.o.2.2.2.2.2.2.1 | apply uU_.o.2.2.2.2.2.2.2.1 | apply uU_.o.2.2.2.2.2.2.2.2.1 | apply uU_.o.2.2.2.2.2.2.2.2.2.1)); (case q => (repeat' (first | refine And.intro ?_ ?_ | intro _ | (with_reducible exact cleanOut_nil) | (refine Eqv.mk ?_; first | rfl | (simp -implicitDefEqProofs [w_.o]; done)) | (simp -implicitDefEqProofs [w_.o]; done) | (simp -implicitDefEqProofs [w_.o]; rfl) | (simp; done) | (simp; rfl) | rfl))); (case hh => (repeat' (first | exact True.intro | assumption | apply And.intro | omega | (simp; done) | (intros; omega) | decide | (simp_all; done)))))
      | (apply WPL.cRH; (case' hc => with_reducible (first | apply uR_.o.1 | apply uR_.o.2.1 | apply uR_.o.2.2.1 | apply uR_.o.2.2.2.1 | apply uR_.o.2.2.2.2.1 | apply uR_.o.2.2.2.2.2.1 | apply uR_.o.2.2.2.2.2.2.1 | apply uR_.o.2.2.2.2.2.2.2.1 | apply uR_.o.2.2.2.2.2.2.2.2.1 | apply uR_.o.2.2.2.2.2.2.2.2.2.1)); (case q => (repeat' (first | refine And.intro ?_ ?_ | intro _ | (with_reducible exact cleanOut_nil) | (refine Eqv.mk ?_; first | rfl | (simp -implicitDefEqProofs [w_.o]; done)) | (simp -implicitDefEqProofs [w_.o]; done) | (simp -implicitDefEqProofs [w_.o]; rfl) | (simp; done) | (simp; rfl) | rfl))); (case hh => (repeat' (first | exact True.intro | assumption | apply And.intro | omega | (simp; done) | (intros; omega) | decide | (simp_all; done)))); (intro y_ hy_ s hs; simp at hs; subst hs))
      | (refine WPL.call0f ?_ ?_ ?_; (focus (simp; done)); (focus (simp; done))))
    | (apply WPS.isCall; (case ho => exact rfl); first
      | (apply WPS.cLH; (case ho => exact rfl); (case' hc => with_reducible (first | apply uL_.o.1 | apply uL_.o.2.1 | apply uL_.o.2.2.1 | apply uL_.o.2.2.2.1 | apply uL_.o.2.2.2.2.1 | apply uL_.o.2.2.2.2.2.1 | apply uL_.o.2.2.2.2.2.2.1 | apply uL_.o.2.2.2.2.2.2.2.1 | apply uL_.o.2.2.2.2.2.2.2.2.1 | apply uL_.o.2.2.2.2.2.2.2.2.2.1)); (case q => (repeat' (first | refine And.intro ?_ ?_ | intro _ | (with_reducible exact cleanOut_nil) | (refine Eqv.mk ?_; first | rfl | (simp -implicitDefEqProofs [w_.o]; done)) | (simp -implicitDefEqProofs [w_.o]; done) | (simp -implicitDefEqProofs [w_.o]; rfl) | (simp; done) | (simp; rfl) | rfl))); (case hh => (repeat' (first | exact True.intro | assumption | apply And.intro | omega | (simp; done) | (intros; omega) | decide | (simp_all; done)))))
      | (apply WPS.cUH; (case ho => exact rfl); (case' hc => with_reducible (first | apply uU_.o.1 | apply uU_.o.2.1 | apply uU_.o.2.2.1 | apply uU_.o.2.2.2.1 | apply uU_.o.2.2.2.2.1 | apply uU_.o.2.2.2.2.2.1 | apply uU_.o.2.2.2.2.2.2.1 | apply uU_.o.2.2.2.2.2.2.2.1 | apply uU_.o.2.2.2.2.2.2.2.2.1 | apply uU_.o.2.2.2.2.2.2.2.2.2.1)); (case q => (repeat' (first | refine And.intro ?_ ?_ | intro _ | (with_reducible exact cleanOut_nil) | (refine Eqv.mk ?_; first | rfl | (simp -implicitDefEqProofs [w_.o]; done)) | (simp -implicitDefEqProofs [w_.o]; done) | (simp -implicitDefEqProofs [w_.o]; rfl) | (simp; done) | (simp; rfl) | rfl))); (case hh => (repeat' (first | exact True.intro | assumption | apply And.intro | omega | (simp; done) | (intros; omega) | decide | (simp_all; done)))))
      | (apply WPS.cRH; (case ho => exact rfl); (case' hc => with_reducible (first | apply uR_.o.1 | apply uR_.o.2.1 | apply uR_.o.2.2.1 | apply uR_.o.2.2.2.1 | apply uR_.o.2.2.2.2.1 | apply uR_.o.2.2.2.2.2.1 | apply uR_.o.2.2.2.2.2.2.1 | apply uR_.o.2.2.2.2.2.2.2.1 | apply uR_.o.2.2.2.2.2.2.2.2.1 | apply uR_.o.2.2.2.2.2.2.2.2.2.1)); (case q => (repeat' (first | refine And.intro ?_ ?_ | intro _ | (with_reducible exact cleanOut_nil) | (refine Eqv.mk ?_; first | rfl | (simp -implicitDefEqProofs [w_.o]; done)) | (simp -implicitDefEqProofs [w_.o]; done) | (simp -implicitDefEqProofs [w_.o]; rfl) | (simp; done) | (simp; rfl) | rfl))); (case hh => (repeat' (first | exact True.intro | assumption | apply And.intro | omega | (simp; done) | (intros; omega) | decide | (simp_all; done)))); (intro y_ hy_ s hs; simp at hs; subst hs))
      | (apply WPS.callf (ho := rfl); (case hg => (simp; done)); (case hd => (simp; done))))
    | ((first | refine WPc.rq tok rfl fun K hK => ?_ | refine WPL.rn tok _ (by simp [ahead, isFn]; rfl) fun K hK => ?_ | refine WPS.rn tok _ (by simp [aheadS]; rfl) fun K hK => ?_ | refine WPS.eff tok fun K hK => ?_); simp -implicitDefEqProofs +contextual [-Int.not_le, -Int.not_lt, -Nat.not_le, -Nat.not_lt, -List.all_eq_true, -List.all_eq_false, -List.any_eq_true, -List.any_eq_false, w_.o]; (repeat1' (first | refine hK _ ?_ | refine And.intro ?_ ?_ | intro ha_)) <;> clear hK K <;> (try dsimp only [List.drop]))
    | (first | refine WPc.schedH tok z_.o.2.1 (by kernel_rfl) ?_ | refine WPc.schedH tok z_.o.2.2.1 (by kernel_rfl) ?_ | refine WPc.schedH tok z_.o.2.2.2.1 (by kernel_rfl) ?_ | refine WPc.schedH tok z_.o.2.2.2.2.1 (by kernel_rfl) ?_ | refine WPc.schedH tok z_.o.2.2.2.2.2.1 (by kernel_rfl) ?_ | refine WPc.schedH tok z_.o.2.2.2.2.2.2.1 (by kernel_rfl) ?_ | refine WPc.schedH tok z_.o.2.2.2.2.2.2.2.1 (by kernel_rfl) ?_ | refine WPc.schedH tok z_.o.2.2.2.2.2.2.2.2.1 (by kernel_rfl) ?_)
    | (refine WPc.region ?_; simp only [List.toList_toArray])
    | (refine WPc.condT ?_ ?_; (focus (simp; done)))
    | (refine WPc.condF ?_ ?_; (focus (simp; done)))
    | (refine WPc.cond (by simp [-Bool.not_eq_eq_eq_not]; rfl) (fun hq_ => ?_) (fun hq_ => ?_) <;> simp only [hq_] <;> (try (exfalso; (simp only [decide_eq_true_eq, decide_eq_false_iff_not] at hq_); omega))))
  all_goals ((repeat revert hq_); (repeat revert ha_); (repeat revert hy_); (repeat revert y_); (repeat revert u_); revert w_)
  all_goals (with_reducible (first | exact And.left n_.o | exact And.left (And.right n_.o) | exact And.left (And.right (And.right n_.o)) | exact And.left (And.right (And.right (And.right n_.o))) | exact And.left (And.right (And.right (And.right (And.right n_.o)))) | exact And.left (And.right (And.right (And.right (And.right (And.right n_.o))))) | exact And.left (And.right (And.right (And.right (And.right (And.right (And.right n_.o)))))) | exact And.left (And.right (And.right (And.right (And.right (And.right (And.right (And.right n_.o))))))) | exact And.left (And.right (And.right (And.right (And.right (And.right (And.right (And.right (And.right n_.o)))))))) | exact And.left (And.right (And.right (And.right (And.right (And.right (And.right (And.right (And.right (And.right n_.o))))))))) | exact And.left (And.right (And.right (And.right (And.right (And.right (And.right (And.right (And.right (And.right (And.right n_.o)))))))))) | exact And.left (And.right (And.right (And.right (And.right (And.right (And.right (And.right (And.right (And.right (And.right (And.right n_.o)))))))))))))) : p := h ⟨w⟩ ⟨uL⟩ ⟨uU⟩ ⟨uR⟩ ⟨z⟩ ⟨n⟩
theorem go {p W UL UU UR Z L : Prop} (w : W) (uL : UL) (uU : UU) (uR : UR) (z : Z) (n : L) (h : Bx W → Bx UL → Bx UU → Bx UR → Bx Z → Bx L → p := by
  intro w_ uL_ uU_ uR_ z_ n_
  repeat' (first
    | apply WPc.sq
    | apply WPc.block
    | apply WPc.skip
    | apply WPc.exit
    | refine WPL.nil ?_
    | refine WPS.nil ?_
    | (apply WPc.ret; apply (endP.selH z_.o.1 (.inr rfl)); (case hs => rfl); (case hg => rfl); (case h => (simp; rfl)); (case hO => (simp; rfl)); (case hk => (simp; done)))
    | (refine WPc.ret (endP.val (.inr rfl) rfl rfl (by simp; rfl) ?_))
    | (refine WPL.isCall ?_; first
      | (apply WPL.cLH; (case' hc => with_reducible (first | apply uL_.o.1 | apply uL_.o.2.1 | apply uL_.o.2.2.1 | apply uL_.o.2.2.2.1 | apply uL_.o.2.2.2.2.1 | apply uL_.o.2.2.2.2.2.1 | apply uL_.o.2.2.2.2.2.2.1 | apply uL_.o.2.2.2.2.2.2.2.1 | apply uL_.o.2.2.2.2.2.2.2.2.1 | apply uL_.o.2.2.2.2.2.2.2.2.2.1)); (case q => (repeat' (first | refine And.intro ?_ ?_ | intro _ | (with_reducible exact cleanOut_nil) | (refine Eqv.mk ?_; first | rfl | (simp -implicitDefEqProofs [w_.o]; done)) | (simp -implicitDefEqProofs [w_.o]; done) | (simp -implicitDefEqProofs [w_.o]; rfl) | (simp; done) | (simp; rfl) | rfl))); (case hh => (repeat' (first | exact True.intro | assumption | apply And.intro | omega | (simp; done) | (intros; omega) | decide | (simp_all; done)))))
      | (apply WPL.cUH; (case' hc => with_reducible (first | apply uU_.o.1 | apply uU_.o.2.1 | apply uU_.o.2.2.1 | apply uU_.o.2.2.2.1 | apply uU_.o.2.2.2.2.1 | apply uU_.o.2.2.2.2.2.1 | apply uU_.o.2.2.2.2.2.2.1 | apply uU_.o.2.2.2.2.2.2.2.1 | apply uU_.o.2.2.2.2.2.2.2.2.1 | apply uU_.o.2.2.2.2.2.2.2.2.2.1)); (case q => (repeat' (first | refine And.intro ?_ ?_ | intro _ | (with_reducible exact cleanOut_nil) | (refine Eqv.mk ?_; first | rfl | (simp -implicitDefEqProofs [w_.o]; done)) | (simp -implicitDefEqProofs [w_.o]; done) | (simp -implicitDefEqProofs [w_.o]; rfl) | (simp; done) | (simp; rfl) | rfl))); (case hh => (repeat' (first | exact True.intro | assumption | apply And.intro | omega | (simp; done) | (intros; omega) | decide | (simp_all; done)))))
      | (apply WPL.cRH; (case' hc => with_reducible (first | apply uR_.o.1 | apply uR_.o.2.1 | apply uR_.o.2.2.1 | apply uR_.o.2.2.2.1 | apply uR_.o.2.2.2.2.1 | apply uR_.o.2.2.2.2.2.1 | apply uR_.o.2.2.2.2.2.2.1 | apply uR_.o.2.2.2.2.2.2.2.1 | apply uR_.o.2.2.2.2.2.2.2.2.1 | apply uR_.o.2.2.2.2.2.2.2.2.2.1)); (case q => (repeat' (first | refine And.intro ?_ ?_ | intro _ | (with_reducible exact cleanOut_nil) | (refine Eqv.mk ?_; first | rfl | (simp -implicitDefEqProofs [w_.o]; done)) | (simp -implicitDefEqProofs [w_.o]; done) | (simp -implicitDefEqProofs [w_.o]; rfl) | (simp; done) | (simp; rfl) | rfl))); (case hh => (repeat' (first | exact True.intro | assumption | apply And.intro | omega | (simp; done) | (intros; omega) | decide | (simp_all; done)))); (intro y_ hy_ s hs; simp at hs; subst hs))
      | (refine WPL.call0f ?_ ?_ ?_; (focus (simp; done)); (focus (simp; done))))
    | (apply WPS.isCall; (case ho => exact rfl); first
      | (apply WPS.cLH; (case ho => exact rfl); (case' hc => with_reducible (first | apply uL_.o.1 | apply uL_.o.2.1 | apply uL_.o.2.2.1 | apply uL_.o.2.2.2.1 | apply uL_.o.2.2.2.2.1 | apply uL_.o.2.2.2.2.2.1 | apply uL_.o.2.2.2.2.2.2.1 | apply uL_.o.2.2.2.2.2.2.2.1 | apply uL_.o.2.2.2.2.2.2.2.2.1 | apply uL_.o.2.2.2.2.2.2.2.2.2.1)); (case q => (repeat' (first | refine And.intro ?_ ?_ | intro _ | (with_reducible exact cleanOut_nil) | (refine Eqv.mk ?_; first | rfl | (simp -implicitDefEqProofs [w_.o]; done)) | (simp -implicitDefEqProofs [w_.o]; done) | (simp -implicitDefEqProofs [w_.o]; rfl) | (simp; done) | (simp; rfl) | rfl))); (case hh => (repeat' (first | exact True.intro | assumption | apply And.intro | omega | (simp; done) | (intros; omega) | decide | (simp_all; done)))))
      | (apply WPS.cUH; (case ho => exact rfl); (case' hc => with_reducible (first | apply uU_.o.1 | apply uU_.o.2.1 | apply uU_.o.2.2.1 | apply uU_.o.2.2.2.1 | apply uU_.o.2.2.2.2.1 | apply uU_.o.2.2.2.2.2.1 | apply uU_.o.2.2.2.2.2.2.1 | apply uU_.o.2.2.2.2.2.2.2.1 | apply uU_.o.2.2.2.2.2.2.2.2.1 | apply uU_.o.2.2.2.2.2.2.2.2.2.1)); (case q => (repeat' (first | refine And.intro ?_ ?_ | intro _ | (with_reducible exact cleanOut_nil) | (refine Eqv.mk ?_; first | rfl | (simp -implicitDefEqProofs [w_.o]; done)) | (simp -implicitDefEqProofs [w_.o]; done) | (simp -implicitDefEqProofs [w_.o]; rfl) | (simp; done) | (simp; rfl) | rfl))); (case hh => (repeat' (first | exact True.intro | assumption | apply And.intro | omega | (simp; done) | (intros; omega) | decide | (simp_all; done)))))
      | (apply WPS.cRH; (case ho => exact rfl); (case' hc => with_reducible (first | apply uR_.o.1 | apply uR_.o.2.1 | apply uR_.o.2.2.1 | apply uR_.o.2.2.2.1 | apply uR_.o.2.2.2.2.1 | apply uR_.o.2.2.2.2.2.1 | apply uR_.o.2.2.2.2.2.2.1 | apply uR_.o.2.2.2.2.2.2.2.1 | apply uR_.o.2.2.2.2.2.2.2.2.1 | apply uR_.o.2.2.2.2.2.2.2.2.2.1)); (case q => (repeat' (first | refine And.intro ?_ ?_ | intro _ | (with_reducible exact cleanOut_nil) | (refine Eqv.mk ?_; first | rfl | (simp -implicitDefEqProofs [w_.o]; done)) | (simp -implicitDefEqProofs [w_.o]; done) | (simp -implicitDefEqProofs [w_.o]; rfl) | (simp; done) | (simp; rfl) | rfl))); (case hh => (repeat' (first | exact True.intro | assumption | apply And.intro | omega | (simp; done) | (intros; omega) | decide | (simp_all; done)))); (intro y_ hy_ s hs; simp at hs; subst hs))
      | (apply WPS.callf (ho := rfl); (case hg => (simp; done)); (case hd => (simp; done))))
    | ((first | refine WPc.rq tok rfl fun K hK => ?_ | refine WPL.rn tok _ (by simp [ahead, isFn]; rfl) fun K hK => ?_ | refine WPS.rn tok _ (by simp [aheadS]; rfl) fun K hK => ?_ | refine WPS.eff tok fun K hK => ?_); simp -implicitDefEqProofs +contextual [-Int.not_le, -Int.not_lt, -Nat.not_le, -Nat.not_lt, -List.all_eq_true, -List.all_eq_false, -List.any_eq_true, -List.any_eq_false, w_.o]; (repeat1' (first | refine hK _ ?_ | refine And.intro ?_ ?_ | intro ha_)) <;> clear hK K <;> (try dsimp only [List.drop]))
    | (first | refine WPc.schedH tok z_.o.2.1 (by kernel_rfl) ?_ | refine WPc.schedH tok z_.o.2.2.1 (by kernel_rfl) ?_ | refine WPc.schedH tok z_.o.2.2.2.1 (by kernel_rfl) ?_ | refine WPc.schedH tok z_.o.2.2.2.2.1 (by kernel_rfl) ?_ | refine WPc.schedH tok z_.o.2.2.2.2.2.1 (by kernel_rfl) ?_ | refine WPc.schedH tok z_.o.2.2.2.2.2.2.1 (by kernel_rfl) ?_ | refine WPc.schedH tok z_.o.2.2.2.2.2.2.2.1 (by kernel_rfl) ?_ | refine WPc.schedH tok z_.o.2.2.2.2.2.2.2.2.1 (by kernel_rfl) ?_)
    | (refine WPc.region ?_; simp only [List.toList_toArray])
    | (refine WPc.condT ?_ ?_; (focus (simp; done)))
    | (refine WPc.condF ?_ ?_; (focus (simp; done)))
    | (refine WPc.cond (by simp [-Bool.not_eq_eq_eq_not]; rfl) (fun hq_ => ?_) (fun hq_ => ?_) <;> simp only [hq_] <;> (try (exfalso; (simp only [decide_eq_true_eq, decide_eq_false_iff_not] at hq_); omega))))
  all_goals ((repeat revert hq_); (repeat revert ha_); (repeat revert hy_); (repeat revert y_); (repeat revert u_); revert w_)
  all_goals (with_reducible (first | exact And.left n_.o | exact And.left (And.right n_.o) | exact And.left (And.right (And.right n_.o)) | exact And.left (And.right (And.right (And.right n_.o))) | exact And.left (And.right (And.right (And.right (And.right n_.o)))) | exact And.left (And.right (And.right (And.right (And.right (And.right n_.o))))) | exact And.left (And.right (And.right (And.right (And.right (And.right (And.right n_.o)))))) | exact And.left (And.right (And.right (And.right (And.right (And.right (And.right (And.right n_.o))))))) | exact And.left (And.right (And.right (And.right (And.right (And.right (And.right (And.right (And.right n_.o)))))))) | exact And.left (And.right (And.right (And.right (And.right (And.right (And.right (And.right (And.right (And.right n_.o))))))))) | exact And.left (And.right (And.right (And.right (And.right (And.right (And.right (And.right (And.right (And.right (And.right n_.o)))))))))) | exact And.left (And.right (And.right (And.right (And.right (And.right (And.right (And.right (And.right (And.right (And.right (And.right n_.o)))))))))))))) : p := h ⟨w⟩ ⟨uL⟩ ⟨uU⟩ ⟨uR⟩ ⟨z⟩ ⟨n⟩
end Go.Own
set_option maxRecDepth 1000000
namespace Go.Own
noncomputable abbrev PP : Program := Go.Proofs.Tryz.prog
def ti3 : TI := { size := 1, bytes := 8, kind := .int .i64, zero := [.int .i64 0] }
def ti4 : TI := { size := 1, bytes := 1, kind := .bool, zero := [.bool false] }
def ti5 : TI := { size := 1, bytes := 1, kind := .int .u8, zero := [.int .u8 0] }
def ti9 : TI := { size := 1, bytes := 16, kind := .str, zero := [.string ⟨#[]⟩] }
def ti12 : TI := { size := 1, bytes := 8, kind := .int .u64, zero := [.int .u64 0] }
def ti13 : TI := { size := 2, bytes := 24, kind := .struct [(0, 9), (1, 12)], zero := [.string ⟨#[]⟩, .int .u64 0] }
def ti22 : TI := { size := 1, bytes := 24, kind := .slice 190, zero := [.slice none 0 0] }
def ti23 : TI := { size := 1, bytes := 24, kind := .slice 194, zero := [.slice none 0 0] }
def ti24 : TI := { size := 1, bytes := 24, kind := .slice 200, zero := [.slice none 0 0] }
def ti25 : TI := { size := 1, bytes := 24, kind := .slice 9, zero := [.slice none 0 0] }
def ti27 : TI := { size := 4, bytes := 96, kind := .struct [(0, 22), (1, 23), (2, 24), (3, 25)], zero := [.slice none 0 0, .slice none 0 0, .slice none 0 0, .slice none 0 0] }
def ti28 : TI := { size := 1, bytes := 24, kind := .slice 115, zero := [.slice none 0 0] }
def ti29 : TI := { size := 1, bytes := 24, kind := .slice 123, zero := [.slice none 0 0] }
def ti31 : TI := { size := 7, bytes := 152, kind := .struct [(0, 27), (4, 28), (5, 29), (6, 3)], zero := [.slice none 0 0, .slice none 0 0, .slice none 0 0, .slice none 0 0, .slice none 0 0, .slice none 0 0, .int .i64 0] }
def ti34 : TI := { size := 1, bytes := 24, kind := .slice 133, zero := [.slice none 0 0] }
def ti35 : TI := { size := 1, bytes := 24, kind := .slice 68, zero := [.slice none 0 0] }
def ti36 : TI := { size := 1, bytes := 24, kind := .slice 130, zero := [.slice none 0 0] }
def ti38 : TI := { size := 4, bytes := 96, kind := .struct [(0, 34), (1, 35), (2, 36), (3, 25)], zero := [.slice none 0 0, .slice none 0 0, .slice none 0 0, .slice none 0 0] }
def ti39 : TI := { size := 1, bytes := 24, kind := .slice 63, zero := [.slice none 0 0] }
def ti40 : TI := { size := 1, bytes := 24, kind := .slice 81, zero := [.slice none 0 0] }
def ti42 : TI := { size := 7, bytes := 152, kind := .struct [(0, 38), (4, 39), (5, 40), (6, 3)], zero := [.slice none 0 0, .slice none 0 0, .slice none 0 0, .slice none 0 0, .slice none 0 0, .slice none 0 0, .int .i64 0] }
def ti58 : TI := { size := 1, bytes := 24, kind := .slice 142, zero := [.slice none 0 0] }
def ti59 : TI := { size := 1, bytes := 24, kind := .slice 144, zero := [.slice none 0 0] }
def ti61 : TI := { size := 6, bytes := 136, kind := .struct [(0, 9), (1, 25), (2, 25), (3, 58), (4, 59), (5, 59)], zero := [.string ⟨#[]⟩, .slice none 0 0, .slice none 0 0, .slice none 0 0, .slice none 0 0, .slice none 0 0] }
def ti63 : TI := { size := 8, bytes := 152, kind := .struct [(0, 61), (6, 3), (7, 3)], zero := [.string ⟨#[]⟩, .slice none 0 0, .slice none 0 0, .slice none 0 0, .slice none 0 0, .slice none 0 0, .int .i64 0, .int .i64 0] }
def ti65 : TI := { size := 1, bytes := 24, kind := .slice 71, zero := [.slice none 0 0] }
def ti66 : TI := { size := 1, bytes := 24, kind := .slice 174, zero := [.slice none 0 0] }
def ti68 : TI := { size := 6, bytes := 120, kind := .struct [(0, 9), (1, 3), (2, 25), (3, 65), (4, 66), (5, 58)], zero := [.string ⟨#[]⟩, .int .i64 0, .slice none 0 0, .slice none 0 0, .slice none 0 0, .slice none 0 0] }
def ti71 : TI := { size := 3, bytes := 32, kind := .struct [(0, 3), (1, 3), (2, 9)], zero := [.int .i64 0, .int .i64 0, .string ⟨#[]⟩], eqk := [.i, .i, .s] }
def ti74 : TI := { size := 1, bytes := 24, kind := .slice 61, zero := [.slice none 0 0] }
def ti76 : TI := { size := 1, bytes := 24, kind := .slice 210, zero := [.slice none 0 0] }
def ti77 : TI := { size := 1, bytes := 24, kind := .slice 150, zero := [.slice none 0 0] }
def ti79 : TI := { size := 9, bytes := 112, kind := .struct [(0, 3), (1, 3), (2, 3), (3, 76), (4, 71), (7, 77), (8, 3)], zero := [.int .i64 0, .int .i64 0, .int .i64 0, .slice none 0 0, .int .i64 0, .int .i64 0, .string ⟨#[]⟩, .slice none 0 0, .int .i64 0] }
def ti81 : TI := { size := 10, bytes := 120, kind := .struct [(0, 3), (1, 79)], zero := [.int .i64 0, .int .i64 0, .int .i64 0, .int .i64 0, .slice none 0 0, .int .i64 0, .int .i64 0, .string ⟨#[]⟩, .slice none 0 0, .int .i64 0] }
def ti95 : TI := { size := 1, bytes := 24, kind := .slice 4, zero := [.slice none 0 0] }
def ti97 : TI := { size := 3, bytes := 72, kind := .struct [(0, 95), (1, 95), (2, 95)], zero := [.slice none 0 0, .slice none 0 0, .slice none 0 0] }
def ti110 : TI := { size := 1, bytes := 24, kind := .slice 278, zero := [.slice none 0 0] }
def ti111 : TI := { size := 1, bytes := 24, kind := .slice 282, zero := [.slice none 0 0] }
def ti113 : TI := { size := 6, bytes := 136, kind := .struct [(0, 9), (1, 25), (2, 25), (3, 110), (4, 111), (5, 111)], zero := [.string ⟨#[]⟩, .slice none 0 0, .slice none 0 0, .slice none 0 0, .slice none 0 0, .slice none 0 0] }
def ti115 : TI := { size := 8, bytes := 152, kind := .struct [(0, 113), (6, 3), (7, 3)], zero := [.string ⟨#[]⟩, .slice none 0 0, .slice none 0 0, .slice none 0 0, .slice none 0 0, .slice none 0 0, .int .i64 0, .int .i64 0] }
def ti117 : TI := { size := 1, bytes := 24, kind := .slice 285, zero := [.slice none 0 0] }
def ti118 : TI := { size := 3, bytes := 32, kind := .struct [(0, 3), (1, 3), (2, 9)], zero := [.int .i64 0, .int .i64 0, .string ⟨#[]⟩], eqk := [.i, .i, .s] }
def ti119 : TI := { size := 1, bytes := 24, kind := .slice 288, zero := [.slice none 0 0] }
def ti121 : TI := { size := 9, bytes := 112, kind := .struct [(0, 3), (1, 3), (2, 3), (3, 117), (4, 118), (7, 119), (8, 3)], zero := [.int .i64 0, .int .i64 0, .int .i64 0, .slice none 0 0, .int .i64 0, .int .i64 0, .string ⟨#[]⟩, .slice none 0 0, .int .i64 0] }
def ti123 : TI := { size := 10, bytes := 120, kind := .struct [(0, 3), (1, 121)], zero := [.int .i64 0, .int .i64 0, .int .i64 0, .int .i64 0, .slice none 0 0, .int .i64 0, .int .i64 0, .string ⟨#[]⟩, .slice none 0 0, .int .i64 0] }
def ti126 : TI := { size := 1, bytes := 24, kind := .slice 136, zero := [.slice none 0 0] }
def ti128 : TI := { size := 2, bytes := 32, kind := .struct [(0, 126), (1, 3)], zero := [.slice none 0 0, .int .i64 0] }
def ti130 : TI := { size := 3, bytes := 40, kind := .struct [(0, 3), (1, 128)], zero := [.int .i64 0, .slice none 0 0, .int .i64 0] }
def ti133 : TI := { size := 6, bytes := 88, kind := .struct [(0, 3), (1, 9), (2, 3), (3, 3), (4, 25), (5, 65)], zero := [.int .i64 0, .string ⟨#[]⟩, .int .i64 0, .int .i64 0, .slice none 0 0, .slice none 0 0] }
def ti134 : TI := { size := 1, bytes := 24, kind := .slice 3, zero := [.slice none 0 0] }
def ti136 : TI := { size := 5, bytes := 80, kind := .struct [(0, 3), (1, 3), (2, 9), (3, 25), (4, 134)], zero := [.int .i64 0, .int .i64 0, .string ⟨#[]⟩, .slice none 0 0, .slice none 0 0] }
def ti142 : TI := { size := 2, bytes := 24, kind := .struct [(0, 9), (1, 3)], zero := [.string ⟨#[]⟩, .int .i64 0] }
def ti144 : TI := { size := 3, bytes := 48, kind := .struct [(0, 9), (1, 128)], zero := [.string ⟨#[]⟩, .slice none 0 0, .int .i64 0] }
def ti150 : TI := { size := 4, bytes := 64, kind := .struct [(0, 3), (1, 3), (2, 65), (3, 76)], zero := [.int .i64 0, .int .i64 0, .slice none 0 0, .slice none 0 0] }
def ti161 : TI := { size := 1, bytes := 8, kind := .oth, zero := [.pointer none] }
def ti174 : TI := { size := 3, bytes := 40, kind := .struct [(0, 9), (1, 3), (2, 9)], zero := [.string ⟨#[]⟩, .int .i64 0, .string ⟨#[]⟩] }
def ti176 : TI := { size := 7, bytes := 152, kind := .struct [(0, 161), (1, 97), (4, 134), (5, 134), (6, 134)], zero := [.pointer none, .slice none 0 0, .slice none 0 0, .slice none 0 0, .slice none 0 0, .slice none 0 0, .slice none 0 0] }
def ti186 : TI := { size := 1, bytes := 24, kind := .slice 5, zero := [.slice none 0 0] }
def ti188 : TI := { size := 1, bytes := 24, kind := .slice 118, zero := [.slice none 0 0] }
def ti190 : TI := { size := 6, bytes := 88, kind := .struct [(0, 3), (1, 9), (2, 3), (3, 3), (4, 25), (5, 188)], zero := [.int .i64 0, .string ⟨#[]⟩, .int .i64 0, .int .i64 0, .slice none 0 0, .slice none 0 0] }
def ti192 : TI := { size := 1, bytes := 24, kind := .slice 276, zero := [.slice none 0 0] }
def ti194 : TI := { size := 6, bytes := 120, kind := .struct [(0, 9), (1, 3), (2, 25), (3, 188), (4, 192), (5, 110)], zero := [.string ⟨#[]⟩, .int .i64 0, .slice none 0 0, .slice none 0 0, .slice none 0 0, .slice none 0 0] }
def ti196 : TI := { size := 1, bytes := 24, kind := .slice 309, zero := [.slice none 0 0] }
def ti198 : TI := { size := 2, bytes := 32, kind := .struct [(0, 196), (1, 3)], zero := [.slice none 0 0, .int .i64 0] }
def ti200 : TI := { size := 3, bytes := 40, kind := .struct [(0, 3), (1, 198)], zero := [.int .i64 0, .slice none 0 0, .int .i64 0] }
def ti210 : TI := { size := 4, bytes := 48, kind := .struct [(0, 9), (1, 71)], zero := [.string ⟨#[]⟩, .int .i64 0, .int .i64 0, .string ⟨#[]⟩] }
def ti234 : TI := { size := 1, bytes := 8, kind := .oth, zero := [.pointer none] }
def ti239 : TI := { size := 1, bytes := 8, kind := .oth, zero := [.pointer none] }
def ti276 : TI := { size := 3, bytes := 40, kind := .struct [(0, 9), (1, 3), (2, 9)], zero := [.string ⟨#[]⟩, .int .i64 0, .string ⟨#[]⟩] }
def ti278 : TI := { size := 2, bytes := 24, kind := .struct [(0, 9), (1, 3)], zero := [.string ⟨#[]⟩, .int .i64 0] }
def ti282 : TI := { size := 3, bytes := 48, kind := .struct [(0, 9), (1, 198)], zero := [.string ⟨#[]⟩, .slice none 0 0, .int .i64 0] }
def ti285 : TI := { size := 4, bytes := 48, kind := .struct [(0, 9), (1, 118)], zero := [.string ⟨#[]⟩, .int .i64 0, .int .i64 0, .string ⟨#[]⟩] }
def ti288 : TI := { size := 4, bytes := 64, kind := .struct [(0, 3), (1, 3), (2, 188), (3, 117)], zero := [.int .i64 0, .int .i64 0, .slice none 0 0, .slice none 0 0] }
def ti299 : TI := { size := 1, bytes := 16, kind := .ifc, zero := [.nilIface] }
def ti309 : TI := { size := 5, bytes := 80, kind := .struct [(0, 3), (1, 3), (2, 9), (3, 25), (4, 134)], zero := [.int .i64 0, .int .i64 0, .string ⟨#[]⟩, .slice none 0 0, .slice none 0 0] }
def tt : Nat → Option TI
  | 3 => some ti3
  | 4 => some ti4
  | 5 => some ti5
  | 9 => some ti9
  | 12 => some ti12
  | 13 => some ti13
  | 22 => some ti22
  | 23 => some ti23
  | 24 => some ti24
  | 25 => some ti25
  | 27 => some ti27
  | 28 => some ti28
  | 29 => some ti29
  | 31 => some ti31
  | 34 => some ti34
  | 35 => some ti35
  | 36 => some ti36
  | 38 => some ti38
  | 39 => some ti39
  | 40 => some ti40
  | 42 => some ti42
  | 58 => some ti58
  | 59 => some ti59
  | 61 => some ti61
  | 63 => some ti63
  | 65 => some ti65
  | 66 => some ti66
  | 68 => some ti68
  | 71 => some ti71
  | 74 => some ti74
  | 76 => some ti76
  | 77 => some ti77
  | 79 => some ti79
  | 81 => some ti81
  | 95 => some ti95
  | 97 => some ti97
  | 110 => some ti110
  | 111 => some ti111
  | 113 => some ti113
  | 115 => some ti115
  | 117 => some ti117
  | 118 => some ti118
  | 119 => some ti119
  | 121 => some ti121
  | 123 => some ti123
  | 126 => some ti126
  | 128 => some ti128
  | 130 => some ti130
  | 133 => some ti133
  | 134 => some ti134
  | 136 => some ti136
  | 142 => some ti142
  | 144 => some ti144
  | 150 => some ti150
  | 161 => some ti161
  | 174 => some ti174
  | 176 => some ti176
  | 186 => some ti186
  | 188 => some ti188
  | 190 => some ti190
  | 192 => some ti192
  | 194 => some ti194
  | 196 => some ti196
  | 198 => some ti198
  | 200 => some ti200
  | 210 => some ti210
  | 234 => some ti234
  | 239 => some ti239
  | 276 => some ti276
  | 278 => some ti278
  | 282 => some ti282
  | 285 => some ti285
  | 288 => some ti288
  | 299 => some ti299
  | 309 => some ti309
  | _ => none
def RowOk (t : Nat) (i : TI) : Prop := ∃ info d z, PP.info? t = some info ∧ PP.underlying t = some d ∧ info.size = i.size ∧ info.bytes = i.bytes ∧ info.zero = some z ∧ z.cells.toList = i.zero ∧ i.kind.ok d
theorem row3 : RowOk 3 ti3 := ⟨_, _, _, rfl, rfl, rfl, rfl, rfl, rfl, rfl⟩
theorem row4 : RowOk 4 ti4 := ⟨_, _, _, rfl, rfl, rfl, rfl, rfl, rfl, rfl⟩
theorem row5 : RowOk 5 ti5 := ⟨_, _, _, rfl, rfl, rfl, rfl, rfl, rfl, rfl⟩
theorem row9 : RowOk 9 ti9 := ⟨_, _, _, rfl, rfl, rfl, rfl, rfl, rfl, rfl⟩
theorem row12 : RowOk 12 ti12 := ⟨_, _, _, rfl, rfl, rfl, rfl, rfl, rfl, rfl⟩
theorem row13 : RowOk 13 ti13 := ⟨_, _, _, rfl, rfl, rfl, rfl, rfl, rfl, ⟨_, rfl, rfl⟩⟩
theorem row22 : RowOk 22 ti22 := ⟨_, _, _, rfl, rfl, rfl, rfl, rfl, rfl, rfl⟩
theorem row23 : RowOk 23 ti23 := ⟨_, _, _, rfl, rfl, rfl, rfl, rfl, rfl, rfl⟩
theorem row24 : RowOk 24 ti24 := ⟨_, _, _, rfl, rfl, rfl, rfl, rfl, rfl, rfl⟩
theorem row25 : RowOk 25 ti25 := ⟨_, _, _, rfl, rfl, rfl, rfl, rfl, rfl, rfl⟩
theorem row27 : RowOk 27 ti27 := ⟨_, _, _, rfl, rfl, rfl, rfl, rfl, rfl, ⟨_, rfl, rfl⟩⟩
theorem row28 : RowOk 28 ti28 := ⟨_, _, _, rfl, rfl, rfl, rfl, rfl, rfl, rfl⟩
theorem row29 : RowOk 29 ti29 := ⟨_, _, _, rfl, rfl, rfl, rfl, rfl, rfl, rfl⟩
theorem row31 : RowOk 31 ti31 := ⟨_, _, _, rfl, rfl, rfl, rfl, rfl, rfl, ⟨_, rfl, rfl⟩⟩
theorem row34 : RowOk 34 ti34 := ⟨_, _, _, rfl, rfl, rfl, rfl, rfl, rfl, rfl⟩
theorem row35 : RowOk 35 ti35 := ⟨_, _, _, rfl, rfl, rfl, rfl, rfl, rfl, rfl⟩
theorem row36 : RowOk 36 ti36 := ⟨_, _, _, rfl, rfl, rfl, rfl, rfl, rfl, rfl⟩
theorem row38 : RowOk 38 ti38 := ⟨_, _, _, rfl, rfl, rfl, rfl, rfl, rfl, ⟨_, rfl, rfl⟩⟩
theorem row39 : RowOk 39 ti39 := ⟨_, _, _, rfl, rfl, rfl, rfl, rfl, rfl, rfl⟩
theorem row40 : RowOk 40 ti40 := ⟨_, _, _, rfl, rfl, rfl, rfl, rfl, rfl, rfl⟩
theorem row42 : RowOk 42 ti42 := ⟨_, _, _, rfl, rfl, rfl, rfl, rfl, rfl, ⟨_, rfl, rfl⟩⟩
theorem row58 : RowOk 58 ti58 := ⟨_, _, _, rfl, rfl, rfl, rfl, rfl, rfl, rfl⟩
theorem row59 : RowOk 59 ti59 := ⟨_, _, _, rfl, rfl, rfl, rfl, rfl, rfl, rfl⟩
theorem row61 : RowOk 61 ti61 := ⟨_, _, _, rfl, rfl, rfl, rfl, rfl, rfl, ⟨_, rfl, rfl⟩⟩
theorem row63 : RowOk 63 ti63 := ⟨_, _, _, rfl, rfl, rfl, rfl, rfl, rfl, ⟨_, rfl, rfl⟩⟩
theorem row65 : RowOk 65 ti65 := ⟨_, _, _, rfl, rfl, rfl, rfl, rfl, rfl, rfl⟩
theorem row66 : RowOk 66 ti66 := ⟨_, _, _, rfl, rfl, rfl, rfl, rfl, rfl, rfl⟩
theorem row68 : RowOk 68 ti68 := ⟨_, _, _, rfl, rfl, rfl, rfl, rfl, rfl, ⟨_, rfl, rfl⟩⟩
theorem row71 : RowOk 71 ti71 := ⟨_, _, _, rfl, rfl, rfl, rfl, rfl, rfl, ⟨_, rfl, rfl⟩⟩
theorem row74 : RowOk 74 ti74 := ⟨_, _, _, rfl, rfl, rfl, rfl, rfl, rfl, rfl⟩
theorem row76 : RowOk 76 ti76 := ⟨_, _, _, rfl, rfl, rfl, rfl, rfl, rfl, rfl⟩
theorem row77 : RowOk 77 ti77 := ⟨_, _, _, rfl, rfl, rfl, rfl, rfl, rfl, rfl⟩
theorem row79 : RowOk 79 ti79 := ⟨_, _, _, rfl, rfl, rfl, rfl, rfl, rfl, ⟨_, rfl, rfl⟩⟩
theorem row81 : RowOk 81 ti81 := ⟨_, _, _, rfl, rfl, rfl, rfl, rfl, rfl, ⟨_, rfl, rfl⟩⟩
theorem row95 : RowOk 95 ti95 := ⟨_, _, _, rfl, rfl, rfl, rfl, rfl, rfl, rfl⟩
theorem row97 : RowOk 97 ti97 := ⟨_, _, _, rfl, rfl, rfl, rfl, rfl, rfl, ⟨_, rfl, rfl⟩⟩
theorem row110 : RowOk 110 ti110 := ⟨_, _, _, rfl, rfl, rfl, rfl, rfl, rfl, rfl⟩
theorem row111 : RowOk 111 ti111 := ⟨_, _, _, rfl, rfl, rfl, rfl, rfl, rfl, rfl⟩
theorem row113 : RowOk 113 ti113 := ⟨_, _, _, rfl, rfl, rfl, rfl, rfl, rfl, ⟨_, rfl, rfl⟩⟩
theorem row115 : RowOk 115 ti115 := ⟨_, _, _, rfl, rfl, rfl, rfl, rfl, rfl, ⟨_, rfl, rfl⟩⟩
theorem row117 : RowOk 117 ti117 := ⟨_, _, _, rfl, rfl, rfl, rfl, rfl, rfl, rfl⟩
theorem row118 : RowOk 118 ti118 := ⟨_, _, _, rfl, rfl, rfl, rfl, rfl, rfl, ⟨_, rfl, rfl⟩⟩
theorem row119 : RowOk 119 ti119 := ⟨_, _, _, rfl, rfl, rfl, rfl, rfl, rfl, rfl⟩
theorem row121 : RowOk 121 ti121 := ⟨_, _, _, rfl, rfl, rfl, rfl, rfl, rfl, ⟨_, rfl, rfl⟩⟩
theorem row123 : RowOk 123 ti123 := ⟨_, _, _, rfl, rfl, rfl, rfl, rfl, rfl, ⟨_, rfl, rfl⟩⟩
theorem row126 : RowOk 126 ti126 := ⟨_, _, _, rfl, rfl, rfl, rfl, rfl, rfl, rfl⟩
theorem row128 : RowOk 128 ti128 := ⟨_, _, _, rfl, rfl, rfl, rfl, rfl, rfl, ⟨_, rfl, rfl⟩⟩
theorem row130 : RowOk 130 ti130 := ⟨_, _, _, rfl, rfl, rfl, rfl, rfl, rfl, ⟨_, rfl, rfl⟩⟩
theorem row133 : RowOk 133 ti133 := ⟨_, _, _, rfl, rfl, rfl, rfl, rfl, rfl, ⟨_, rfl, rfl⟩⟩
theorem row134 : RowOk 134 ti134 := ⟨_, _, _, rfl, rfl, rfl, rfl, rfl, rfl, rfl⟩
theorem row136 : RowOk 136 ti136 := ⟨_, _, _, rfl, rfl, rfl, rfl, rfl, rfl, ⟨_, rfl, rfl⟩⟩
theorem row142 : RowOk 142 ti142 := ⟨_, _, _, rfl, rfl, rfl, rfl, rfl, rfl, ⟨_, rfl, rfl⟩⟩
theorem row144 : RowOk 144 ti144 := ⟨_, _, _, rfl, rfl, rfl, rfl, rfl, rfl, ⟨_, rfl, rfl⟩⟩
theorem row150 : RowOk 150 ti150 := ⟨_, _, _, rfl, rfl, rfl, rfl, rfl, rfl, ⟨_, rfl, rfl⟩⟩
theorem row161 : RowOk 161 ti161 := ⟨_, _, _, rfl, rfl, rfl, rfl, rfl, rfl, trivial⟩
theorem row174 : RowOk 174 ti174 := ⟨_, _, _, rfl, rfl, rfl, rfl, rfl, rfl, ⟨_, rfl, rfl⟩⟩
theorem row176 : RowOk 176 ti176 := ⟨_, _, _, rfl, rfl, rfl, rfl, rfl, rfl, ⟨_, rfl, rfl⟩⟩
theorem row186 : RowOk 186 ti186 := ⟨_, _, _, rfl, rfl, rfl, rfl, rfl, rfl, rfl⟩
theorem row188 : RowOk 188 ti188 := ⟨_, _, _, rfl, rfl, rfl, rfl, rfl, rfl, rfl⟩
theorem row190 : RowOk 190 ti190 := ⟨_, _, _, rfl, rfl, rfl, rfl, rfl, rfl, ⟨_, rfl, rfl⟩⟩
theorem row192 : RowOk 192 ti192 := ⟨_, _, _, rfl, rfl, rfl, rfl, rfl, rfl, rfl⟩
theorem row194 : RowOk 194 ti194 := ⟨_, _, _, rfl, rfl, rfl, rfl, rfl, rfl, ⟨_, rfl, rfl⟩⟩
theorem row196 : RowOk 196 ti196 := ⟨_, _, _, rfl, rfl, rfl, rfl, rfl, rfl, rfl⟩
theorem row198 : RowOk 198 ti198 := ⟨_, _, _, rfl, rfl, rfl, rfl, rfl, rfl, ⟨_, rfl, rfl⟩⟩
theorem row200 : RowOk 200 ti200 := ⟨_, _, _, rfl, rfl, rfl, rfl, rfl, rfl, ⟨_, rfl, rfl⟩⟩
theorem row210 : RowOk 210 ti210 := ⟨_, _, _, rfl, rfl, rfl, rfl, rfl, rfl, ⟨_, rfl, rfl⟩⟩
theorem row234 : RowOk 234 ti234 := ⟨_, _, _, rfl, rfl, rfl, rfl, rfl, rfl, trivial⟩
theorem row239 : RowOk 239 ti239 := ⟨_, _, _, rfl, rfl, rfl, rfl, rfl, rfl, trivial⟩
theorem row276 : RowOk 276 ti276 := ⟨_, _, _, rfl, rfl, rfl, rfl, rfl, rfl, ⟨_, rfl, rfl⟩⟩
theorem row278 : RowOk 278 ti278 := ⟨_, _, _, rfl, rfl, rfl, rfl, rfl, rfl, ⟨_, rfl, rfl⟩⟩
theorem row282 : RowOk 282 ti282 := ⟨_, _, _, rfl, rfl, rfl, rfl, rfl, rfl, ⟨_, rfl, rfl⟩⟩
theorem row285 : RowOk 285 ti285 := ⟨_, _, _, rfl, rfl, rfl, rfl, rfl, rfl, ⟨_, rfl, rfl⟩⟩
theorem row288 : RowOk 288 ti288 := ⟨_, _, _, rfl, rfl, rfl, rfl, rfl, rfl, ⟨_, rfl, rfl⟩⟩
theorem row299 : RowOk 299 ti299 := ⟨_, _, _, rfl, rfl, rfl, rfl, rfl, rfl, ⟨_, rfl⟩⟩
theorem row309 : RowOk 309 ti309 := ⟨_, _, _, rfl, rfl, rfl, rfl, rfl, rfl, ⟨_, rfl, rfl⟩⟩
theorem tt_ok : ∀ t i, tt t = some i → RowOk t i := by
  intro t i h
  unfold tt at h
  split at h
  · injection h with h; subst h; exact row3
  · injection h with h; subst h; exact row4
  · injection h with h; subst h; exact row5
  · injection h with h; subst h; exact row9
  · injection h with h; subst h; exact row12
  · injection h with h; subst h; exact row13
  · injection h with h; subst h; exact row22
  · injection h with h; subst h; exact row23
  · injection h with h; subst h; exact row24
  · injection h with h; subst h; exact row25
  · injection h with h; subst h; exact row27
  · injection h with h; subst h; exact row28
  · injection h with h; subst h; exact row29
  · injection h with h; subst h; exact row31
  · injection h with h; subst h; exact row34
  · injection h with h; subst h; exact row35
  · injection h with h; subst h; exact row36
  · injection h with h; subst h; exact row38
  · injection h with h; subst h; exact row39
  · injection h with h; subst h; exact row40
  · injection h with h; subst h; exact row42
  · injection h with h; subst h; exact row58
  · injection h with h; subst h; exact row59
  · injection h with h; subst h; exact row61
  · injection h with h; subst h; exact row63
  · injection h with h; subst h; exact row65
  · injection h with h; subst h; exact row66
  · injection h with h; subst h; exact row68
  · injection h with h; subst h; exact row71
  · injection h with h; subst h; exact row74
  · injection h with h; subst h; exact row76
  · injection h with h; subst h; exact row77
  · injection h with h; subst h; exact row79
  · injection h with h; subst h; exact row81
  · injection h with h; subst h; exact row95
  · injection h with h; subst h; exact row97
  · injection h with h; subst h; exact row110
  · injection h with h; subst h; exact row111
  · injection h with h; subst h; exact row113
  · injection h with h; subst h; exact row115
  · injection h with h; subst h; exact row117
  · injection h with h; subst h; exact row118
  · injection h with h; subst h; exact row119
  · injection h with h; subst h; exact row121
  · injection h with h; subst h; exact row123
  · injection h with h; subst h; exact row126
  · injection h with h; subst h; exact row128
  · injection h with h; subst h; exact row130
  · injection h with h; subst h; exact row133
  · injection h with h; subst h; exact row134
  · injection h with h; subst h; exact row136
  · injection h with h; subst h; exact row142
  · injection h with h; subst h; exact row144
  · injection h with h; subst h; exact row150
  · injection h with h; subst h; exact row161
  · injection h with h; subst h; exact row174
  · injection h with h; subst h; exact row176
  · injection h with h; subst h; exact row186
  · injection h with h; subst h; exact row188
  · injection h with h; subst h; exact row190
  · injection h with h; subst h; exact row192
  · injection h with h; subst h; exact row194
  · injection h with h; subst h; exact row196
  · injection h with h; subst h; exact row198
  · injection h with h; subst h; exact row200
  · injection h with h; subst h; exact row210
  · injection h with h; subst h; exact row234
  · injection h with h; subst h; exact row239
  · injection h with h; subst h; exact row276
  · injection h with h; subst h; exact row278
  · injection h with h; subst h; exact row282
  · injection h with h; subst h; exact row285
  · injection h with h; subst h; exact row288
  · injection h with h; subst h; exact row299
  · injection h with h; subst h; exact row309
  · simp at h
theorem eqV_iis {xs ys : List Value} {b : Bool} (h : eqV [.i, .i, .s] xs ys = some b) : ∃ a1 a2 a3 b1 b2 b3, xs = [.int .i64 a1, .int .i64 a2, .string a3] ∧ ys = [.int .i64 b1, .int .i64 b2, .string b3] ∧ b = (a1 == b1 && (a2 == b2 && (a3.toList == b3.toList && true))) := by
  unfold eqV at h
  split at h <;> (try (simp at h; done)) <;> rename_i hk <;> (try (simp at hk; done))
  rename_i x1 xs1 y1 ys1
  simp only [List.cons.injEq] at hk
  obtain ⟨_, rfl⟩ := hk
  simp only [Option.map_eq_some_iff] at h
  obtain ⟨r1, h, rfl⟩ := h
  unfold eqV at h
  split at h <;> (try (simp at h; done)) <;> rename_i hk <;> (try (simp at hk; done))
  rename_i x2 xs2 y2 ys2
  simp only [List.cons.injEq] at hk
  obtain ⟨_, rfl⟩ := hk
  simp only [Option.map_eq_some_iff] at h
  obtain ⟨r2, h, rfl⟩ := h
  unfold eqV at h
  split at h <;> (try (simp at h; done)) <;> rename_i hk <;> (try (simp at hk; done))
  rename_i x3 xs3 y3 ys3
  simp only [List.cons.injEq] at hk
  obtain ⟨_, rfl⟩ := hk
  simp only [Option.map_eq_some_iff] at h
  obtain ⟨r3, h, rfl⟩ := h
  unfold eqV at h
  split at h <;> (try (simp at h; done)) <;> (try (rename_i hk; simp at hk; done))
  injection h with h
  subst h
  exact ⟨x1, x2, x3, y1, y2, y3, rfl, rfl, rfl⟩
theorem eq_row (t : Nat) (h : t = 71 ∨ t = 118) : PP.eqGuardType PP.depth t = false ∧ ∀ (w : World) (xs ys : List Value) (b : Bool), eqV [.i, .i, .s] xs ys = some b → (Op.equal t (.agg xs.toArray) (.agg ys.toArray)).run PP w = .ok b w := by
  refine ⟨by rcases h with rfl | rfl <;> kernel_rfl, fun w xs ys b hb => ?_⟩
  obtain ⟨a1, a2, a3, b1, b2, b3, rfl, rfl, rfl⟩ := eqV_iis hb
  have key : ∀ t, PP.underlying t = some (.struct (PP.fieldsOf t)) → PP.stoodInHeld t = false → (PP.fieldsOf t) = (PP.fieldsOf 71) → (Op.equal t (.agg [Value.int .i64 a1, .int .i64 a2, .string a3].toArray) (.agg [Value.int .i64 b1, .int .i64 b2, .string b3].toArray)).run PP w = .ok (a1 == b1 && (a2 == b2 && (a3.toList == b3.toList && true))) w := by
    intro t h1 h2 h3
    simp only [Op.equal, Op.maxDepth]
    rw [run_equalIn_agg w _ t _ _ h1 h2, h3]
    have hf : (PP.fieldsOf 71).toList = [{ name := "Kind", type := 3, offset := 0, embedded := false, tag := "", pkgPath := "", byteOffset := 0 }, { name := "N", type := 3, offset := 1, embedded := false, tag := "", pkgPath := "", byteOffset := 8 }, { name := "S", type := 9, offset := 2, embedded := false, tag := "", pkgPath := "", byteOffset := 16 }] := rfl
    rw [hf]
    have u3 : PP.underlying 3 = some (.int .i64) := rfl
    have u9 : PP.underlying 9 = some .string := rfl
    simp [Op.eqFields, part, isAgg, run_underlying u3, run_underlying u9, run_equalIn_int _ _ _ _ _ _ _ u3, run_equalIn_string _ _ _ _ _ u9]
    by_cases e1 : a1 = b1 <;> by_cases e2 : a2 = b2 <;> by_cases e3 : a3.toList = b3.toList <;> simp [e1, e2, e3]
  rcases h with rfl | rfl
  · exact key 71 rfl (by kernel_rfl) rfl
  · exact key 118 rfl (by kernel_rfl) rfl
theorem tok : TOk PP tt where
  ok := tt_ok
  mixed := by kernel_rfl
  eq := by
    intro t i h hne
    unfold tt at h
    split at h
    · injection h with h; subst h; exact absurd rfl hne
    · injection h with h; subst h; exact absurd rfl hne
    · injection h with h; subst h; exact absurd rfl hne
    · injection h with h; subst h; exact absurd rfl hne
    · injection h with h; subst h; exact absurd rfl hne
    · injection h with h; subst h; exact absurd rfl hne
    · injection h with h; subst h; exact absurd rfl hne
    · injection h with h; subst h; exact absurd rfl hne
    · injection h with h; subst h; exact absurd rfl hne
    · injection h with h; subst h; exact absurd rfl hne
    · injection h with h; subst h; exact absurd rfl hne
    · injection h with h; subst h; exact absurd rfl hne
    · injection h with h; subst h; exact absurd rfl hne
    · injection h with h; subst h; exact absurd rfl hne
    · injection h with h; subst h; exact absurd rfl hne
    · injection h with h; subst h; exact absurd rfl hne
    · injection h with h; subst h; exact absurd rfl hne
    · injection h with h; subst h; exact absurd rfl hne
    · injection h with h; subst h; exact absurd rfl hne
    · injection h with h; subst h; exact absurd rfl hne
    · injection h with h; subst h; exact absurd rfl hne
    · injection h with h; subst h; exact absurd rfl hne
    · injection h with h; subst h; exact absurd rfl hne
    · injection h with h; subst h; exact absurd rfl hne
    · injection h with h; subst h; exact absurd rfl hne
    · injection h with h; subst h; exact absurd rfl hne
    · injection h with h; subst h; exact absurd rfl hne
    · injection h with h; subst h; exact absurd rfl hne
    · injection h with h; subst h; exact eq_row _ (by simp)
    · injection h with h; subst h; exact absurd rfl hne
    · injection h with h; subst h; exact absurd rfl hne
    · injection h with h; subst h; exact absurd rfl hne
    · injection h with h; subst h; exact absurd rfl hne
    · injection h with h; subst h; exact absurd rfl hne
    · injection h with h; subst h; exact absurd rfl hne
    · injection h with h; subst h; exact absurd rfl hne
    · injection h with h; subst h; exact absurd rfl hne
    · injection h with h; subst h; exact absurd rfl hne
    · injection h with h; subst h; exact absurd rfl hne
    · injection h with h; subst h; exact absurd rfl hne
    · injection h with h; subst h; exact absurd rfl hne
    · injection h with h; subst h; exact eq_row _ (by simp)
    · injection h with h; subst h; exact absurd rfl hne
    · injection h with h; subst h; exact absurd rfl hne
    · injection h with h; subst h; exact absurd rfl hne
    · injection h with h; subst h; exact absurd rfl hne
    · injection h with h; subst h; exact absurd rfl hne
    · injection h with h; subst h; exact absurd rfl hne
    · injection h with h; subst h; exact absurd rfl hne
    · injection h with h; subst h; exact absurd rfl hne
    · injection h with h; subst h; exact absurd rfl hne
    · injection h with h; subst h; exact absurd rfl hne
    · injection h with h; subst h; exact absurd rfl hne
    · injection h with h; subst h; exact absurd rfl hne
    · injection h with h; subst h; exact absurd rfl hne
    · injection h with h; subst h; exact absurd rfl hne
    · injection h with h; subst h; exact absurd rfl hne
    · injection h with h; subst h; exact absurd rfl hne
    · injection h with h; subst h; exact absurd rfl hne
    · injection h with h; subst h; exact absurd rfl hne
    · injection h with h; subst h; exact absurd rfl hne
    · injection h with h; subst h; exact absurd rfl hne
    · injection h with h; subst h; exact absurd rfl hne
    · injection h with h; subst h; exact absurd rfl hne
    · injection h with h; subst h; exact absurd rfl hne
    · injection h with h; subst h; exact absurd rfl hne
    · injection h with h; subst h; exact absurd rfl hne
    · injection h with h; subst h; exact absurd rfl hne
    · injection h with h; subst h; exact absurd rfl hne
    · injection h with h; subst h; exact absurd rfl hne
    · injection h with h; subst h; exact absurd rfl hne
    · injection h with h; subst h; exact absurd rfl hne
    · injection h with h; subst h; exact absurd rfl hne
    · injection h with h; subst h; exact absurd rfl hne
    · injection h with h; subst h; exact absurd rfl hne
    · simp at h
@[simp] theorem tt_3 : tt 3 = some ti3 := rfl
@[simp] theorem ti3_size : ti3.size = 1 := rfl
@[simp] theorem ti3_bytes : ti3.bytes = 8 := rfl
@[simp] theorem ti3_kind : ti3.kind = .int .i64 := rfl
@[simp] theorem ti3_agg : ti3.kind.agg = false := rfl
@[simp] theorem ti3_zero : ti3.zero = [.int .i64 0] := rfl
@[simp] theorem ti3_eqk : ti3.eqk = [] := rfl
@[simp] theorem kd_3 : kd tt 3 = some (.int .i64) := rfl
@[simp] theorem tt_4 : tt 4 = some ti4 := rfl
@[simp] theorem ti4_size : ti4.size = 1 := rfl
@[simp] theorem ti4_bytes : ti4.bytes = 1 := rfl
@[simp] theorem ti4_kind : ti4.kind = .bool := rfl
@[simp] theorem ti4_agg : ti4.kind.agg = false := rfl
@[simp] theorem ti4_zero : ti4.zero = [.bool false] := rfl
@[simp] theorem ti4_eqk : ti4.eqk = [] := rfl
@[simp] theorem kd_4 : kd tt 4 = some (.bool) := rfl
@[simp] theorem tt_5 : tt 5 = some ti5 := rfl
@[simp] theorem ti5_size : ti5.size = 1 := rfl
@[simp] theorem ti5_bytes : ti5.bytes = 1 := rfl
@[simp] theorem ti5_kind : ti5.kind = .int .u8 := rfl
@[simp] theorem ti5_agg : ti5.kind.agg = false := rfl
@[simp] theorem ti5_zero : ti5.zero = [.int .u8 0] := rfl
@[simp] theorem ti5_eqk : ti5.eqk = [] := rfl
@[simp] theorem kd_5 : kd tt 5 = some (.int .u8) := rfl
@[simp] theorem tt_9 : tt 9 = some ti9 := rfl
@[simp] theorem ti9_size : ti9.size = 1 := rfl
@[simp] theorem ti9_bytes : ti9.bytes = 16 := rfl
@[simp] theorem ti9_kind : ti9.kind = .str := rfl
@[simp] theorem ti9_agg : ti9.kind.agg = false := rfl
@[simp] theorem ti9_zero : ti9.zero = [.string ⟨#[]⟩] := rfl
@[simp] theorem ti9_eqk : ti9.eqk = [] := rfl
@[simp] theorem kd_9 : kd tt 9 = some (.str) := rfl
@[simp] theorem tt_12 : tt 12 = some ti12 := rfl
@[simp] theorem ti12_size : ti12.size = 1 := rfl
@[simp] theorem ti12_bytes : ti12.bytes = 8 := rfl
@[simp] theorem ti12_kind : ti12.kind = .int .u64 := rfl
@[simp] theorem ti12_agg : ti12.kind.agg = false := rfl
@[simp] theorem ti12_zero : ti12.zero = [.int .u64 0] := rfl
@[simp] theorem ti12_eqk : ti12.eqk = [] := rfl
@[simp] theorem kd_12 : kd tt 12 = some (.int .u64) := rfl
@[simp] theorem tt_13 : tt 13 = some ti13 := rfl
@[simp] theorem ti13_size : ti13.size = 2 := rfl
@[simp] theorem ti13_bytes : ti13.bytes = 24 := rfl
@[simp] theorem ti13_kind : ti13.kind = .struct [(0, 9), (1, 12)] := rfl
@[simp] theorem ti13_agg : ti13.kind.agg = true := rfl
@[simp] theorem ti13_zero : ti13.zero = [.string ⟨#[]⟩, .int .u64 0] := rfl
@[simp] theorem ti13_eqk : ti13.eqk = [] := rfl
@[simp] theorem kd_13 : kd tt 13 = some (.struct [(0, 9), (1, 12)]) := rfl
@[simp] theorem fieldT_13_0 : fieldT tt 13 0 = some (0, ti9) := rfl
@[simp] theorem fieldT_13_1 : fieldT tt 13 1 = some (1, ti12) := rfl
@[simp] theorem tt_22 : tt 22 = some ti22 := rfl
@[simp] theorem ti22_size : ti22.size = 1 := rfl
@[simp] theorem ti22_bytes : ti22.bytes = 24 := rfl
@[simp] theorem ti22_kind : ti22.kind = .slice 190 := rfl
@[simp] theorem ti22_agg : ti22.kind.agg = false := rfl
@[simp] theorem ti22_zero : ti22.zero = [.slice none 0 0] := rfl
@[simp] theorem ti22_eqk : ti22.eqk = [] := rfl
@[simp] theorem kd_22 : kd tt 22 = some (.slice 190) := rfl
@[simp] theorem elemT_22 : elemT tt 22 = some (190, ti190) := rfl
@[simp] theorem tt_23 : tt 23 = some ti23 := rfl
@[simp] theorem ti23_size : ti23.size = 1 := rfl
@[simp] theorem ti23_bytes : ti23.bytes = 24 := rfl
@[simp] theorem ti23_kind : ti23.kind = .slice 194 := rfl
@[simp] theorem ti23_agg : ti23.kind.agg = false := rfl
@[simp] theorem ti23_zero : ti23.zero = [.slice none 0 0] := rfl
@[simp] theorem ti23_eqk : ti23.eqk = [] := rfl
@[simp] theorem kd_23 : kd tt 23 = some (.slice 194) := rfl
@[simp] theorem elemT_23 : elemT tt 23 = some (194, ti194) := rfl
@[simp] theorem tt_24 : tt 24 = some ti24 := rfl
@[simp] theorem ti24_size : ti24.size = 1 := rfl
@[simp] theorem ti24_bytes : ti24.bytes = 24 := rfl
@[simp] theorem ti24_kind : ti24.kind = .slice 200 := rfl
@[simp] theorem ti24_agg : ti24.kind.agg = false := rfl
@[simp] theorem ti24_zero : ti24.zero = [.slice none 0 0] := rfl
@[simp] theorem ti24_eqk : ti24.eqk = [] := rfl
@[simp] theorem kd_24 : kd tt 24 = some (.slice 200) := rfl
@[simp] theorem elemT_24 : elemT tt 24 = some (200, ti200) := rfl
@[simp] theorem tt_25 : tt 25 = some ti25 := rfl
@[simp] theorem ti25_size : ti25.size = 1 := rfl
@[simp] theorem ti25_bytes : ti25.bytes = 24 := rfl
@[simp] theorem ti25_kind : ti25.kind = .slice 9 := rfl
@[simp] theorem ti25_agg : ti25.kind.agg = false := rfl
@[simp] theorem ti25_zero : ti25.zero = [.slice none 0 0] := rfl
@[simp] theorem ti25_eqk : ti25.eqk = [] := rfl
@[simp] theorem kd_25 : kd tt 25 = some (.slice 9) := rfl
@[simp] theorem elemT_25 : elemT tt 25 = some (9, ti9) := rfl
@[simp] theorem tt_27 : tt 27 = some ti27 := rfl
@[simp] theorem ti27_size : ti27.size = 4 := rfl
@[simp] theorem ti27_bytes : ti27.bytes = 96 := rfl
@[simp] theorem ti27_kind : ti27.kind = .struct [(0, 22), (1, 23), (2, 24), (3, 25)] := rfl
@[simp] theorem ti27_agg : ti27.kind.agg = true := rfl
@[simp] theorem ti27_zero : ti27.zero = [.slice none 0 0, .slice none 0 0, .slice none 0 0, .slice none 0 0] := rfl
@[simp] theorem ti27_eqk : ti27.eqk = [] := rfl
@[simp] theorem kd_27 : kd tt 27 = some (.struct [(0, 22), (1, 23), (2, 24), (3, 25)]) := rfl
@[simp] theorem fieldT_27_0 : fieldT tt 27 0 = some (0, ti22) := rfl
@[simp] theorem fieldT_27_1 : fieldT tt 27 1 = some (1, ti23) := rfl
@[simp] theorem fieldT_27_2 : fieldT tt 27 2 = some (2, ti24) := rfl
@[simp] theorem fieldT_27_3 : fieldT tt 27 3 = some (3, ti25) := rfl
@[simp] theorem tt_28 : tt 28 = some ti28 := rfl
@[simp] theorem ti28_size : ti28.size = 1 := rfl
@[simp] theorem ti28_bytes : ti28.bytes = 24 := rfl
@[simp] theorem ti28_kind : ti28.kind = .slice 115 := rfl
@[simp] theorem ti28_agg : ti28.kind.agg = false := rfl
@[simp] theorem ti28_zero : ti28.zero = [.slice none 0 0] := rfl
@[simp] theorem ti28_eqk : ti28.eqk = [] := rfl
@[simp] theorem kd_28 : kd tt 28 = some (.slice 115) := rfl
@[simp] theorem elemT_28 : elemT tt 28 = some (115, ti115) := rfl
@[simp] theorem tt_29 : tt 29 = some ti29 := rfl
@[simp] theorem ti29_size : ti29.size = 1 := rfl
@[simp] theorem ti29_bytes : ti29.bytes = 24 := rfl
@[simp] theorem ti29_kind : ti29.kind = .slice 123 := rfl
@[simp] theorem ti29_agg : ti29.kind.agg = false := rfl
@[simp] theorem ti29_zero : ti29.zero = [.slice none 0 0] := rfl
@[simp] theorem ti29_eqk : ti29.eqk = [] := rfl
@[simp] theorem kd_29 : kd tt 29 = some (.slice 123) := rfl
@[simp] theorem elemT_29 : elemT tt 29 = some (123, ti123) := rfl
@[simp] theorem tt_31 : tt 31 = some ti31 := rfl
@[simp] theorem ti31_size : ti31.size = 7 := rfl
@[simp] theorem ti31_bytes : ti31.bytes = 152 := rfl
@[simp] theorem ti31_kind : ti31.kind = .struct [(0, 27), (4, 28), (5, 29), (6, 3)] := rfl
@[simp] theorem ti31_agg : ti31.kind.agg = true := rfl
@[simp] theorem ti31_zero : ti31.zero = [.slice none 0 0, .slice none 0 0, .slice none 0 0, .slice none 0 0, .slice none 0 0, .slice none 0 0, .int .i64 0] := rfl
@[simp] theorem ti31_eqk : ti31.eqk = [] := rfl
@[simp] theorem kd_31 : kd tt 31 = some (.struct [(0, 27), (4, 28), (5, 29), (6, 3)]) := rfl
@[simp] theorem fieldT_31_0 : fieldT tt 31 0 = some (0, ti27) := rfl
@[simp] theorem fieldT_31_1 : fieldT tt 31 1 = some (4, ti28) := rfl
@[simp] theorem fieldT_31_2 : fieldT tt 31 2 = some (5, ti29) := rfl
@[simp] theorem fieldT_31_3 : fieldT tt 31 3 = some (6, ti3) := rfl
@[simp] theorem tt_34 : tt 34 = some ti34 := rfl
@[simp] theorem ti34_size : ti34.size = 1 := rfl
@[simp] theorem ti34_bytes : ti34.bytes = 24 := rfl
@[simp] theorem ti34_kind : ti34.kind = .slice 133 := rfl
@[simp] theorem ti34_agg : ti34.kind.agg = false := rfl
@[simp] theorem ti34_zero : ti34.zero = [.slice none 0 0] := rfl
@[simp] theorem ti34_eqk : ti34.eqk = [] := rfl
@[simp] theorem kd_34 : kd tt 34 = some (.slice 133) := rfl
@[simp] theorem elemT_34 : elemT tt 34 = some (133, ti133) := rfl
@[simp] theorem tt_35 : tt 35 = some ti35 := rfl
@[simp] theorem ti35_size : ti35.size = 1 := rfl
@[simp] theorem ti35_bytes : ti35.bytes = 24 := rfl
@[simp] theorem ti35_kind : ti35.kind = .slice 68 := rfl
@[simp] theorem ti35_agg : ti35.kind.agg = false := rfl
@[simp] theorem ti35_zero : ti35.zero = [.slice none 0 0] := rfl
@[simp] theorem ti35_eqk : ti35.eqk = [] := rfl
@[simp] theorem kd_35 : kd tt 35 = some (.slice 68) := rfl
@[simp] theorem elemT_35 : elemT tt 35 = some (68, ti68) := rfl
@[simp] theorem tt_36 : tt 36 = some ti36 := rfl
@[simp] theorem ti36_size : ti36.size = 1 := rfl
@[simp] theorem ti36_bytes : ti36.bytes = 24 := rfl
@[simp] theorem ti36_kind : ti36.kind = .slice 130 := rfl
@[simp] theorem ti36_agg : ti36.kind.agg = false := rfl
@[simp] theorem ti36_zero : ti36.zero = [.slice none 0 0] := rfl
@[simp] theorem ti36_eqk : ti36.eqk = [] := rfl
@[simp] theorem kd_36 : kd tt 36 = some (.slice 130) := rfl
@[simp] theorem elemT_36 : elemT tt 36 = some (130, ti130) := rfl
@[simp] theorem tt_38 : tt 38 = some ti38 := rfl
@[simp] theorem ti38_size : ti38.size = 4 := rfl
@[simp] theorem ti38_bytes : ti38.bytes = 96 := rfl
@[simp] theorem ti38_kind : ti38.kind = .struct [(0, 34), (1, 35), (2, 36), (3, 25)] := rfl
@[simp] theorem ti38_agg : ti38.kind.agg = true := rfl
@[simp] theorem ti38_zero : ti38.zero = [.slice none 0 0, .slice none 0 0, .slice none 0 0, .slice none 0 0] := rfl
@[simp] theorem ti38_eqk : ti38.eqk = [] := rfl
@[simp] theorem kd_38 : kd tt 38 = some (.struct [(0, 34), (1, 35), (2, 36), (3, 25)]) := rfl
@[simp] theorem fieldT_38_0 : fieldT tt 38 0 = some (0, ti34) := rfl
@[simp] theorem fieldT_38_1 : fieldT tt 38 1 = some (1, ti35) := rfl
@[simp] theorem fieldT_38_2 : fieldT tt 38 2 = some (2, ti36) := rfl
@[simp] theorem fieldT_38_3 : fieldT tt 38 3 = some (3, ti25) := rfl
@[simp] theorem tt_39 : tt 39 = some ti39 := rfl
@[simp] theorem ti39_size : ti39.size = 1 := rfl
@[simp] theorem ti39_bytes : ti39.bytes = 24 := rfl
@[simp] theorem ti39_kind : ti39.kind = .slice 63 := rfl
@[simp] theorem ti39_agg : ti39.kind.agg = false := rfl
@[simp] theorem ti39_zero : ti39.zero = [.slice none 0 0] := rfl
@[simp] theorem ti39_eqk : ti39.eqk = [] := rfl
@[simp] theorem kd_39 : kd tt 39 = some (.slice 63) := rfl
@[simp] theorem elemT_39 : elemT tt 39 = some (63, ti63) := rfl
@[simp] theorem tt_40 : tt 40 = some ti40 := rfl
@[simp] theorem ti40_size : ti40.size = 1 := rfl
@[simp] theorem ti40_bytes : ti40.bytes = 24 := rfl
@[simp] theorem ti40_kind : ti40.kind = .slice 81 := rfl
@[simp] theorem ti40_agg : ti40.kind.agg = false := rfl
@[simp] theorem ti40_zero : ti40.zero = [.slice none 0 0] := rfl
@[simp] theorem ti40_eqk : ti40.eqk = [] := rfl
@[simp] theorem kd_40 : kd tt 40 = some (.slice 81) := rfl
@[simp] theorem elemT_40 : elemT tt 40 = some (81, ti81) := rfl
@[simp] theorem tt_42 : tt 42 = some ti42 := rfl
@[simp] theorem ti42_size : ti42.size = 7 := rfl
@[simp] theorem ti42_bytes : ti42.bytes = 152 := rfl
@[simp] theorem ti42_kind : ti42.kind = .struct [(0, 38), (4, 39), (5, 40), (6, 3)] := rfl
@[simp] theorem ti42_agg : ti42.kind.agg = true := rfl
@[simp] theorem ti42_zero : ti42.zero = [.slice none 0 0, .slice none 0 0, .slice none 0 0, .slice none 0 0, .slice none 0 0, .slice none 0 0, .int .i64 0] := rfl
@[simp] theorem ti42_eqk : ti42.eqk = [] := rfl
@[simp] theorem kd_42 : kd tt 42 = some (.struct [(0, 38), (4, 39), (5, 40), (6, 3)]) := rfl
@[simp] theorem fieldT_42_0 : fieldT tt 42 0 = some (0, ti38) := rfl
@[simp] theorem fieldT_42_1 : fieldT tt 42 1 = some (4, ti39) := rfl
@[simp] theorem fieldT_42_2 : fieldT tt 42 2 = some (5, ti40) := rfl
@[simp] theorem fieldT_42_3 : fieldT tt 42 3 = some (6, ti3) := rfl
@[simp] theorem tt_58 : tt 58 = some ti58 := rfl
@[simp] theorem ti58_size : ti58.size = 1 := rfl
@[simp] theorem ti58_bytes : ti58.bytes = 24 := rfl
@[simp] theorem ti58_kind : ti58.kind = .slice 142 := rfl
@[simp] theorem ti58_agg : ti58.kind.agg = false := rfl
@[simp] theorem ti58_zero : ti58.zero = [.slice none 0 0] := rfl
@[simp] theorem ti58_eqk : ti58.eqk = [] := rfl
@[simp] theorem kd_58 : kd tt 58 = some (.slice 142) := rfl
@[simp] theorem elemT_58 : elemT tt 58 = some (142, ti142) := rfl
@[simp] theorem tt_59 : tt 59 = some ti59 := rfl
@[simp] theorem ti59_size : ti59.size = 1 := rfl
@[simp] theorem ti59_bytes : ti59.bytes = 24 := rfl
@[simp] theorem ti59_kind : ti59.kind = .slice 144 := rfl
@[simp] theorem ti59_agg : ti59.kind.agg = false := rfl
@[simp] theorem ti59_zero : ti59.zero = [.slice none 0 0] := rfl
@[simp] theorem ti59_eqk : ti59.eqk = [] := rfl
@[simp] theorem kd_59 : kd tt 59 = some (.slice 144) := rfl
@[simp] theorem elemT_59 : elemT tt 59 = some (144, ti144) := rfl
@[simp] theorem tt_61 : tt 61 = some ti61 := rfl
@[simp] theorem ti61_size : ti61.size = 6 := rfl
@[simp] theorem ti61_bytes : ti61.bytes = 136 := rfl
@[simp] theorem ti61_kind : ti61.kind = .struct [(0, 9), (1, 25), (2, 25), (3, 58), (4, 59), (5, 59)] := rfl
@[simp] theorem ti61_agg : ti61.kind.agg = true := rfl
@[simp] theorem ti61_zero : ti61.zero = [.string ⟨#[]⟩, .slice none 0 0, .slice none 0 0, .slice none 0 0, .slice none 0 0, .slice none 0 0] := rfl
@[simp] theorem ti61_eqk : ti61.eqk = [] := rfl
@[simp] theorem kd_61 : kd tt 61 = some (.struct [(0, 9), (1, 25), (2, 25), (3, 58), (4, 59), (5, 59)]) := rfl
@[simp] theorem fieldT_61_0 : fieldT tt 61 0 = some (0, ti9) := rfl
@[simp] theorem fieldT_61_1 : fieldT tt 61 1 = some (1, ti25) := rfl
@[simp] theorem fieldT_61_2 : fieldT tt 61 2 = some (2, ti25) := rfl
@[simp] theorem fieldT_61_3 : fieldT tt 61 3 = some (3, ti58) := rfl
@[simp] theorem fieldT_61_4 : fieldT tt 61 4 = some (4, ti59) := rfl
@[simp] theorem fieldT_61_5 : fieldT tt 61 5 = some (5, ti59) := rfl
@[simp] theorem tt_63 : tt 63 = some ti63 := rfl
@[simp] theorem ti63_size : ti63.size = 8 := rfl
@[simp] theorem ti63_bytes : ti63.bytes = 152 := rfl
@[simp] theorem ti63_kind : ti63.kind = .struct [(0, 61), (6, 3), (7, 3)] := rfl
@[simp] theorem ti63_agg : ti63.kind.agg = true := rfl
@[simp] theorem ti63_zero : ti63.zero = [.string ⟨#[]⟩, .slice none 0 0, .slice none 0 0, .slice none 0 0, .slice none 0 0, .slice none 0 0, .int .i64 0, .int .i64 0] := rfl
@[simp] theorem ti63_eqk : ti63.eqk = [] := rfl
@[simp] theorem kd_63 : kd tt 63 = some (.struct [(0, 61), (6, 3), (7, 3)]) := rfl
@[simp] theorem fieldT_63_0 : fieldT tt 63 0 = some (0, ti61) := rfl
@[simp] theorem fieldT_63_1 : fieldT tt 63 1 = some (6, ti3) := rfl
@[simp] theorem fieldT_63_2 : fieldT tt 63 2 = some (7, ti3) := rfl
@[simp] theorem tt_65 : tt 65 = some ti65 := rfl
@[simp] theorem ti65_size : ti65.size = 1 := rfl
@[simp] theorem ti65_bytes : ti65.bytes = 24 := rfl
@[simp] theorem ti65_kind : ti65.kind = .slice 71 := rfl
@[simp] theorem ti65_agg : ti65.kind.agg = false := rfl
@[simp] theorem ti65_zero : ti65.zero = [.slice none 0 0] := rfl
@[simp] theorem ti65_eqk : ti65.eqk = [] := rfl
@[simp] theorem kd_65 : kd tt 65 = some (.slice 71) := rfl
@[simp] theorem elemT_65 : elemT tt 65 = some (71, ti71) := rfl
@[simp] theorem tt_66 : tt 66 = some ti66 := rfl
@[simp] theorem ti66_size : ti66.size = 1 := rfl
@[simp] theorem ti66_bytes : ti66.bytes = 24 := rfl
@[simp] theorem ti66_kind : ti66.kind = .slice 174 := rfl
@[simp] theorem ti66_agg : ti66.kind.agg = false := rfl
@[simp] theorem ti66_zero : ti66.zero = [.slice none 0 0] := rfl
@[simp] theorem ti66_eqk : ti66.eqk = [] := rfl
@[simp] theorem kd_66 : kd tt 66 = some (.slice 174) := rfl
@[simp] theorem elemT_66 : elemT tt 66 = some (174, ti174) := rfl
@[simp] theorem tt_68 : tt 68 = some ti68 := rfl
@[simp] theorem ti68_size : ti68.size = 6 := rfl
@[simp] theorem ti68_bytes : ti68.bytes = 120 := rfl
@[simp] theorem ti68_kind : ti68.kind = .struct [(0, 9), (1, 3), (2, 25), (3, 65), (4, 66), (5, 58)] := rfl
@[simp] theorem ti68_agg : ti68.kind.agg = true := rfl
@[simp] theorem ti68_zero : ti68.zero = [.string ⟨#[]⟩, .int .i64 0, .slice none 0 0, .slice none 0 0, .slice none 0 0, .slice none 0 0] := rfl
@[simp] theorem ti68_eqk : ti68.eqk = [] := rfl
@[simp] theorem kd_68 : kd tt 68 = some (.struct [(0, 9), (1, 3), (2, 25), (3, 65), (4, 66), (5, 58)]) := rfl
@[simp] theorem fieldT_68_0 : fieldT tt 68 0 = some (0, ti9) := rfl
@[simp] theorem fieldT_68_1 : fieldT tt 68 1 = some (1, ti3) := rfl
@[simp] theorem fieldT_68_2 : fieldT tt 68 2 = some (2, ti25) := rfl
@[simp] theorem fieldT_68_3 : fieldT tt 68 3 = some (3, ti65) := rfl
@[simp] theorem fieldT_68_4 : fieldT tt 68 4 = some (4, ti66) := rfl
@[simp] theorem fieldT_68_5 : fieldT tt 68 5 = some (5, ti58) := rfl
@[simp] theorem tt_71 : tt 71 = some ti71 := rfl
@[simp] theorem ti71_size : ti71.size = 3 := rfl
@[simp] theorem ti71_bytes : ti71.bytes = 32 := rfl
@[simp] theorem ti71_kind : ti71.kind = .struct [(0, 3), (1, 3), (2, 9)] := rfl
@[simp] theorem ti71_agg : ti71.kind.agg = true := rfl
@[simp] theorem ti71_zero : ti71.zero = [.int .i64 0, .int .i64 0, .string ⟨#[]⟩] := rfl
@[simp] theorem ti71_eqk : ti71.eqk = [.i, .i, .s] := rfl
@[simp] theorem kd_71 : kd tt 71 = some (.struct [(0, 3), (1, 3), (2, 9)]) := rfl
@[simp] theorem fieldT_71_0 : fieldT tt 71 0 = some (0, ti3) := rfl
@[simp] theorem fieldT_71_1 : fieldT tt 71 1 = some (1, ti3) := rfl
@[simp] theorem fieldT_71_2 : fieldT tt 71 2 = some (2, ti9) := rfl
@[simp] theorem tt_74 : tt 74 = some ti74 := rfl
@[simp] theorem ti74_size : ti74.size = 1 := rfl
@[simp] theorem ti74_bytes : ti74.bytes = 24 := rfl
@[simp] theorem ti74_kind : ti74.kind = .slice 61 := rfl
@[simp] theorem ti74_agg : ti74.kind.agg = false := rfl
@[simp] theorem ti74_zero : ti74.zero = [.slice none 0 0] := rfl
@[simp] theorem ti74_eqk : ti74.eqk = [] := rfl
@[simp] theorem kd_74 : kd tt 74 = some (.slice 61) := rfl
@[simp] theorem elemT_74 : elemT tt 74 = some (61, ti61) := rfl
@[simp] theorem tt_76 : tt 76 = some ti76 := rfl
@[simp] theorem ti76_size : ti76.size = 1 := rfl
@[simp] theorem ti76_bytes : ti76.bytes = 24 := rfl
@[simp] theorem ti76_kind : ti76.kind = .slice 210 := rfl
@[simp] theorem ti76_agg : ti76.kind.agg = false := rfl
@[simp] theorem ti76_zero : ti76.zero = [.slice none 0 0] := rfl
@[simp] theorem ti76_eqk : ti76.eqk = [] := rfl
@[simp] theorem kd_76 : kd tt 76 = some (.slice 210) := rfl
@[simp] theorem elemT_76 : elemT tt 76 = some (210, ti210) := rfl
@[simp] theorem tt_77 : tt 77 = some ti77 := rfl
@[simp] theorem ti77_size : ti77.size = 1 := rfl
@[simp] theorem ti77_bytes : ti77.bytes = 24 := rfl
@[simp] theorem ti77_kind : ti77.kind = .slice 150 := rfl
@[simp] theorem ti77_agg : ti77.kind.agg = false := rfl
@[simp] theorem ti77_zero : ti77.zero = [.slice none 0 0] := rfl
@[simp] theorem ti77_eqk : ti77.eqk = [] := rfl
@[simp] theorem kd_77 : kd tt 77 = some (.slice 150) := rfl
@[simp] theorem elemT_77 : elemT tt 77 = some (150, ti150) := rfl
@[simp] theorem tt_79 : tt 79 = some ti79 := rfl
@[simp] theorem ti79_size : ti79.size = 9 := rfl
@[simp] theorem ti79_bytes : ti79.bytes = 112 := rfl
@[simp] theorem ti79_kind : ti79.kind = .struct [(0, 3), (1, 3), (2, 3), (3, 76), (4, 71), (7, 77), (8, 3)] := rfl
@[simp] theorem ti79_agg : ti79.kind.agg = true := rfl
@[simp] theorem ti79_zero : ti79.zero = [.int .i64 0, .int .i64 0, .int .i64 0, .slice none 0 0, .int .i64 0, .int .i64 0, .string ⟨#[]⟩, .slice none 0 0, .int .i64 0] := rfl
@[simp] theorem ti79_eqk : ti79.eqk = [] := rfl
@[simp] theorem kd_79 : kd tt 79 = some (.struct [(0, 3), (1, 3), (2, 3), (3, 76), (4, 71), (7, 77), (8, 3)]) := rfl
@[simp] theorem fieldT_79_0 : fieldT tt 79 0 = some (0, ti3) := rfl
@[simp] theorem fieldT_79_1 : fieldT tt 79 1 = some (1, ti3) := rfl
@[simp] theorem fieldT_79_2 : fieldT tt 79 2 = some (2, ti3) := rfl
@[simp] theorem fieldT_79_3 : fieldT tt 79 3 = some (3, ti76) := rfl
@[simp] theorem fieldT_79_4 : fieldT tt 79 4 = some (4, ti71) := rfl
@[simp] theorem fieldT_79_5 : fieldT tt 79 5 = some (7, ti77) := rfl
@[simp] theorem fieldT_79_6 : fieldT tt 79 6 = some (8, ti3) := rfl
@[simp] theorem tt_81 : tt 81 = some ti81 := rfl
@[simp] theorem ti81_size : ti81.size = 10 := rfl
@[simp] theorem ti81_bytes : ti81.bytes = 120 := rfl
@[simp] theorem ti81_kind : ti81.kind = .struct [(0, 3), (1, 79)] := rfl
@[simp] theorem ti81_agg : ti81.kind.agg = true := rfl
@[simp] theorem ti81_zero : ti81.zero = [.int .i64 0, .int .i64 0, .int .i64 0, .int .i64 0, .slice none 0 0, .int .i64 0, .int .i64 0, .string ⟨#[]⟩, .slice none 0 0, .int .i64 0] := rfl
@[simp] theorem ti81_eqk : ti81.eqk = [] := rfl
@[simp] theorem kd_81 : kd tt 81 = some (.struct [(0, 3), (1, 79)]) := rfl
@[simp] theorem fieldT_81_0 : fieldT tt 81 0 = some (0, ti3) := rfl
@[simp] theorem fieldT_81_1 : fieldT tt 81 1 = some (1, ti79) := rfl
@[simp] theorem tt_95 : tt 95 = some ti95 := rfl
@[simp] theorem ti95_size : ti95.size = 1 := rfl
@[simp] theorem ti95_bytes : ti95.bytes = 24 := rfl
@[simp] theorem ti95_kind : ti95.kind = .slice 4 := rfl
@[simp] theorem ti95_agg : ti95.kind.agg = false := rfl
@[simp] theorem ti95_zero : ti95.zero = [.slice none 0 0] := rfl
@[simp] theorem ti95_eqk : ti95.eqk = [] := rfl
@[simp] theorem kd_95 : kd tt 95 = some (.slice 4) := rfl
@[simp] theorem elemT_95 : elemT tt 95 = some (4, ti4) := rfl
@[simp] theorem tt_97 : tt 97 = some ti97 := rfl
@[simp] theorem ti97_size : ti97.size = 3 := rfl
@[simp] theorem ti97_bytes : ti97.bytes = 72 := rfl
@[simp] theorem ti97_kind : ti97.kind = .struct [(0, 95), (1, 95), (2, 95)] := rfl
@[simp] theorem ti97_agg : ti97.kind.agg = true := rfl
@[simp] theorem ti97_zero : ti97.zero = [.slice none 0 0, .slice none 0 0, .slice none 0 0] := rfl
@[simp] theorem ti97_eqk : ti97.eqk = [] := rfl
@[simp] theorem kd_97 : kd tt 97 = some (.struct [(0, 95), (1, 95), (2, 95)]) := rfl
@[simp] theorem fieldT_97_0 : fieldT tt 97 0 = some (0, ti95) := rfl
@[simp] theorem fieldT_97_1 : fieldT tt 97 1 = some (1, ti95) := rfl
@[simp] theorem fieldT_97_2 : fieldT tt 97 2 = some (2, ti95) := rfl
@[simp] theorem tt_110 : tt 110 = some ti110 := rfl
@[simp] theorem ti110_size : ti110.size = 1 := rfl
@[simp] theorem ti110_bytes : ti110.bytes = 24 := rfl
@[simp] theorem ti110_kind : ti110.kind = .slice 278 := rfl
@[simp] theorem ti110_agg : ti110.kind.agg = false := rfl
@[simp] theorem ti110_zero : ti110.zero = [.slice none 0 0] := rfl
@[simp] theorem ti110_eqk : ti110.eqk = [] := rfl
@[simp] theorem kd_110 : kd tt 110 = some (.slice 278) := rfl
@[simp] theorem elemT_110 : elemT tt 110 = some (278, ti278) := rfl
@[simp] theorem tt_111 : tt 111 = some ti111 := rfl
@[simp] theorem ti111_size : ti111.size = 1 := rfl
@[simp] theorem ti111_bytes : ti111.bytes = 24 := rfl
@[simp] theorem ti111_kind : ti111.kind = .slice 282 := rfl
@[simp] theorem ti111_agg : ti111.kind.agg = false := rfl
@[simp] theorem ti111_zero : ti111.zero = [.slice none 0 0] := rfl
@[simp] theorem ti111_eqk : ti111.eqk = [] := rfl
@[simp] theorem kd_111 : kd tt 111 = some (.slice 282) := rfl
@[simp] theorem elemT_111 : elemT tt 111 = some (282, ti282) := rfl
@[simp] theorem tt_113 : tt 113 = some ti113 := rfl
@[simp] theorem ti113_size : ti113.size = 6 := rfl
@[simp] theorem ti113_bytes : ti113.bytes = 136 := rfl
@[simp] theorem ti113_kind : ti113.kind = .struct [(0, 9), (1, 25), (2, 25), (3, 110), (4, 111), (5, 111)] := rfl
@[simp] theorem ti113_agg : ti113.kind.agg = true := rfl
@[simp] theorem ti113_zero : ti113.zero = [.string ⟨#[]⟩, .slice none 0 0, .slice none 0 0, .slice none 0 0, .slice none 0 0, .slice none 0 0] := rfl
@[simp] theorem ti113_eqk : ti113.eqk = [] := rfl
@[simp] theorem kd_113 : kd tt 113 = some (.struct [(0, 9), (1, 25), (2, 25), (3, 110), (4, 111), (5, 111)]) := rfl
@[simp] theorem fieldT_113_0 : fieldT tt 113 0 = some (0, ti9) := rfl
@[simp] theorem fieldT_113_1 : fieldT tt 113 1 = some (1, ti25) := rfl
@[simp] theorem fieldT_113_2 : fieldT tt 113 2 = some (2, ti25) := rfl
@[simp] theorem fieldT_113_3 : fieldT tt 113 3 = some (3, ti110) := rfl
@[simp] theorem fieldT_113_4 : fieldT tt 113 4 = some (4, ti111) := rfl
@[simp] theorem fieldT_113_5 : fieldT tt 113 5 = some (5, ti111) := rfl
@[simp] theorem tt_115 : tt 115 = some ti115 := rfl
@[simp] theorem ti115_size : ti115.size = 8 := rfl
@[simp] theorem ti115_bytes : ti115.bytes = 152 := rfl
@[simp] theorem ti115_kind : ti115.kind = .struct [(0, 113), (6, 3), (7, 3)] := rfl
@[simp] theorem ti115_agg : ti115.kind.agg = true := rfl
@[simp] theorem ti115_zero : ti115.zero = [.string ⟨#[]⟩, .slice none 0 0, .slice none 0 0, .slice none 0 0, .slice none 0 0, .slice none 0 0, .int .i64 0, .int .i64 0] := rfl
@[simp] theorem ti115_eqk : ti115.eqk = [] := rfl
@[simp] theorem kd_115 : kd tt 115 = some (.struct [(0, 113), (6, 3), (7, 3)]) := rfl
@[simp] theorem fieldT_115_0 : fieldT tt 115 0 = some (0, ti113) := rfl
@[simp] theorem fieldT_115_1 : fieldT tt 115 1 = some (6, ti3) := rfl
@[simp] theorem fieldT_115_2 : fieldT tt 115 2 = some (7, ti3) := rfl
@[simp] theorem tt_117 : tt 117 = some ti117 := rfl
@[simp] theorem ti117_size : ti117.size = 1 := rfl
@[simp] theorem ti117_bytes : ti117.bytes = 24 := rfl
@[simp] theorem ti117_kind : ti117.kind = .slice 285 := rfl
@[simp] theorem ti117_agg : ti117.kind.agg = false := rfl
@[simp] theorem ti117_zero : ti117.zero = [.slice none 0 0] := rfl
@[simp] theorem ti117_eqk : ti117.eqk = [] := rfl
@[simp] theorem kd_117 : kd tt 117 = some (.slice 285) := rfl
@[simp] theorem elemT_117 : elemT tt 117 = some (285, ti285) := rfl
@[simp] theorem tt_118 : tt 118 = some ti118 := rfl
@[simp] theorem ti118_size : ti118.size = 3 := rfl
@[simp] theorem ti118_bytes : ti118.bytes = 32 := rfl
@[simp] theorem ti118_kind : ti118.kind = .struct [(0, 3), (1, 3), (2, 9)] := rfl
@[simp] theorem ti118_agg : ti118.kind.agg = true := rfl
@[simp] theorem ti118_zero : ti118.zero = [.int .i64 0, .int .i64 0, .string ⟨#[]⟩] := rfl
@[simp] theorem ti118_eqk : ti118.eqk = [.i, .i, .s] := rfl
@[simp] theorem kd_118 : kd tt 118 = some (.struct [(0, 3), (1, 3), (2, 9)]) := rfl
@[simp] theorem fieldT_118_0 : fieldT tt 118 0 = some (0, ti3) := rfl
@[simp] theorem fieldT_118_1 : fieldT tt 118 1 = some (1, ti3) := rfl
@[simp] theorem fieldT_118_2 : fieldT tt 118 2 = some (2, ti9) := rfl
@[simp] theorem tt_119 : tt 119 = some ti119 := rfl
@[simp] theorem ti119_size : ti119.size = 1 := rfl
@[simp] theorem ti119_bytes : ti119.bytes = 24 := rfl
@[simp] theorem ti119_kind : ti119.kind = .slice 288 := rfl
@[simp] theorem ti119_agg : ti119.kind.agg = false := rfl
@[simp] theorem ti119_zero : ti119.zero = [.slice none 0 0] := rfl
@[simp] theorem ti119_eqk : ti119.eqk = [] := rfl
@[simp] theorem kd_119 : kd tt 119 = some (.slice 288) := rfl
@[simp] theorem elemT_119 : elemT tt 119 = some (288, ti288) := rfl
@[simp] theorem tt_121 : tt 121 = some ti121 := rfl
@[simp] theorem ti121_size : ti121.size = 9 := rfl
@[simp] theorem ti121_bytes : ti121.bytes = 112 := rfl
@[simp] theorem ti121_kind : ti121.kind = .struct [(0, 3), (1, 3), (2, 3), (3, 117), (4, 118), (7, 119), (8, 3)] := rfl
@[simp] theorem ti121_agg : ti121.kind.agg = true := rfl
@[simp] theorem ti121_zero : ti121.zero = [.int .i64 0, .int .i64 0, .int .i64 0, .slice none 0 0, .int .i64 0, .int .i64 0, .string ⟨#[]⟩, .slice none 0 0, .int .i64 0] := rfl
@[simp] theorem ti121_eqk : ti121.eqk = [] := rfl
@[simp] theorem kd_121 : kd tt 121 = some (.struct [(0, 3), (1, 3), (2, 3), (3, 117), (4, 118), (7, 119), (8, 3)]) := rfl
@[simp] theorem fieldT_121_0 : fieldT tt 121 0 = some (0, ti3) := rfl
@[simp] theorem fieldT_121_1 : fieldT tt 121 1 = some (1, ti3) := rfl
@[simp] theorem fieldT_121_2 : fieldT tt 121 2 = some (2, ti3) := rfl
@[simp] theorem fieldT_121_3 : fieldT tt 121 3 = some (3, ti117) := rfl
@[simp] theorem fieldT_121_4 : fieldT tt 121 4 = some (4, ti118) := rfl
@[simp] theorem fieldT_121_5 : fieldT tt 121 5 = some (7, ti119) := rfl
@[simp] theorem fieldT_121_6 : fieldT tt 121 6 = some (8, ti3) := rfl
@[simp] theorem tt_123 : tt 123 = some ti123 := rfl
@[simp] theorem ti123_size : ti123.size = 10 := rfl
@[simp] theorem ti123_bytes : ti123.bytes = 120 := rfl
@[simp] theorem ti123_kind : ti123.kind = .struct [(0, 3), (1, 121)] := rfl
@[simp] theorem ti123_agg : ti123.kind.agg = true := rfl
@[simp] theorem ti123_zero : ti123.zero = [.int .i64 0, .int .i64 0, .int .i64 0, .int .i64 0, .slice none 0 0, .int .i64 0, .int .i64 0, .string ⟨#[]⟩, .slice none 0 0, .int .i64 0] := rfl
@[simp] theorem ti123_eqk : ti123.eqk = [] := rfl
@[simp] theorem kd_123 : kd tt 123 = some (.struct [(0, 3), (1, 121)]) := rfl
@[simp] theorem fieldT_123_0 : fieldT tt 123 0 = some (0, ti3) := rfl
@[simp] theorem fieldT_123_1 : fieldT tt 123 1 = some (1, ti121) := rfl
@[simp] theorem tt_126 : tt 126 = some ti126 := rfl
@[simp] theorem ti126_size : ti126.size = 1 := rfl
@[simp] theorem ti126_bytes : ti126.bytes = 24 := rfl
@[simp] theorem ti126_kind : ti126.kind = .slice 136 := rfl
@[simp] theorem ti126_agg : ti126.kind.agg = false := rfl
@[simp] theorem ti126_zero : ti126.zero = [.slice none 0 0] := rfl
@[simp] theorem ti126_eqk : ti126.eqk = [] := rfl
@[simp] theorem kd_126 : kd tt 126 = some (.slice 136) := rfl
@[simp] theorem elemT_126 : elemT tt 126 = some (136, ti136) := rfl
@[simp] theorem tt_128 : tt 128 = some ti128 := rfl
@[simp] theorem ti128_size : ti128.size = 2 := rfl
@[simp] theorem ti128_bytes : ti128.bytes = 32 := rfl
@[simp] theorem ti128_kind : ti128.kind = .struct [(0, 126), (1, 3)] := rfl
@[simp] theorem ti128_agg : ti128.kind.agg = true := rfl
@[simp] theorem ti128_zero : ti128.zero = [.slice none 0 0, .int .i64 0] := rfl
@[simp] theorem ti128_eqk : ti128.eqk = [] := rfl
@[simp] theorem kd_128 : kd tt 128 = some (.struct [(0, 126), (1, 3)]) := rfl
@[simp] theorem fieldT_128_0 : fieldT tt 128 0 = some (0, ti126) := rfl
@[simp] theorem fieldT_128_1 : fieldT tt 128 1 = some (1, ti3) := rfl
@[simp] theorem tt_130 : tt 130 = some ti130 := rfl
@[simp] theorem ti130_size : ti130.size = 3 := rfl
@[simp] theorem ti130_bytes : ti130.bytes = 40 := rfl
@[simp] theorem ti130_kind : ti130.kind = .struct [(0, 3), (1, 128)] := rfl
@[simp] theorem ti130_agg : ti130.kind.agg = true := rfl
@[simp] theorem ti130_zero : ti130.zero = [.int .i64 0, .slice none 0 0, .int .i64 0] := rfl
@[simp] theorem ti130_eqk : ti130.eqk = [] := rfl
@[simp] theorem kd_130 : kd tt 130 = some (.struct [(0, 3), (1, 128)]) := rfl
@[simp] theorem fieldT_130_0 : fieldT tt 130 0 = some (0, ti3) := rfl
@[simp] theorem fieldT_130_1 : fieldT tt 130 1 = some (1, ti128) := rfl
@[simp] theorem tt_133 : tt 133 = some ti133 := rfl
@[simp] theorem ti133_size : ti133.size = 6 := rfl
@[simp] theorem ti133_bytes : ti133.bytes = 88 := rfl
@[simp] theorem ti133_kind : ti133.kind = .struct [(0, 3), (1, 9), (2, 3), (3, 3), (4, 25), (5, 65)] := rfl
@[simp] theorem ti133_agg : ti133.kind.agg = true := rfl
@[simp] theorem ti133_zero : ti133.zero = [.int .i64 0, .string ⟨#[]⟩, .int .i64 0, .int .i64 0, .slice none 0 0, .slice none 0 0] := rfl
@[simp] theorem ti133_eqk : ti133.eqk = [] := rfl
@[simp] theorem kd_133 : kd tt 133 = some (.struct [(0, 3), (1, 9), (2, 3), (3, 3), (4, 25), (5, 65)]) := rfl
@[simp] theorem fieldT_133_0 : fieldT tt 133 0 = some (0, ti3) := rfl
@[simp] theorem fieldT_133_1 : fieldT tt 133 1 = some (1, ti9) := rfl
@[simp] theorem fieldT_133_2 : fieldT tt 133 2 = some (2, ti3) := rfl
@[simp] theorem fieldT_133_3 : fieldT tt 133 3 = some (3, ti3) := rfl
@[simp] theorem fieldT_133_4 : fieldT tt 133 4 = some (4, ti25) := rfl
@[simp] theorem fieldT_133_5 : fieldT tt 133 5 = some (5, ti65) := rfl
@[simp] theorem tt_134 : tt 134 = some ti134 := rfl
@[simp] theorem ti134_size : ti134.size = 1 := rfl
@[simp] theorem ti134_bytes : ti134.bytes = 24 := rfl
@[simp] theorem ti134_kind : ti134.kind = .slice 3 := rfl
@[simp] theorem ti134_agg : ti134.kind.agg = false := rfl
@[simp] theorem ti134_zero : ti134.zero = [.slice none 0 0] := rfl
@[simp] theorem ti134_eqk : ti134.eqk = [] := rfl
@[simp] theorem kd_134 : kd tt 134 = some (.slice 3) := rfl
@[simp] theorem elemT_134 : elemT tt 134 = some (3, ti3) := rfl
@[simp] theorem tt_136 : tt 136 = some ti136 := rfl
@[simp] theorem ti136_size : ti136.size = 5 := rfl
@[simp] theorem ti136_bytes : ti136.bytes = 80 := rfl
@[simp] theorem ti136_kind : ti136.kind = .struct [(0, 3), (1, 3), (2, 9), (3, 25), (4, 134)] := rfl
@[simp] theorem ti136_agg : ti136.kind.agg = true := rfl
@[simp] theorem ti136_zero : ti136.zero = [.int .i64 0, .int .i64 0, .string ⟨#[]⟩, .slice none 0 0, .slice none 0 0] := rfl
@[simp] theorem ti136_eqk : ti136.eqk = [] := rfl
@[simp] theorem kd_136 : kd tt 136 = some (.struct [(0, 3), (1, 3), (2, 9), (3, 25), (4, 134)]) := rfl
@[simp] theorem fieldT_136_0 : fieldT tt 136 0 = some (0, ti3) := rfl
@[simp] theorem fieldT_136_1 : fieldT tt 136 1 = some (1, ti3) := rfl
@[simp] theorem fieldT_136_2 : fieldT tt 136 2 = some (2, ti9) := rfl
@[simp] theorem fieldT_136_3 : fieldT tt 136 3 = some (3, ti25) := rfl
@[simp] theorem fieldT_136_4 : fieldT tt 136 4 = some (4, ti134) := rfl
@[simp] theorem tt_142 : tt 142 = some ti142 := rfl
@[simp] theorem ti142_size : ti142.size = 2 := rfl
@[simp] theorem ti142_bytes : ti142.bytes = 24 := rfl
@[simp] theorem ti142_kind : ti142.kind = .struct [(0, 9), (1, 3)] := rfl
@[simp] theorem ti142_agg : ti142.kind.agg = true := rfl
@[simp] theorem ti142_zero : ti142.zero = [.string ⟨#[]⟩, .int .i64 0] := rfl
@[simp] theorem ti142_eqk : ti142.eqk = [] := rfl
@[simp] theorem kd_142 : kd tt 142 = some (.struct [(0, 9), (1, 3)]) := rfl
@[simp] theorem fieldT_142_0 : fieldT tt 142 0 = some (0, ti9) := rfl
@[simp] theorem fieldT_142_1 : fieldT tt 142 1 = some (1, ti3) := rfl
@[simp] theorem tt_144 : tt 144 = some ti144 := rfl
@[simp] theorem ti144_size : ti144.size = 3 := rfl
@[simp] theorem ti144_bytes : ti144.bytes = 48 := rfl
@[simp] theorem ti144_kind : ti144.kind = .struct [(0, 9), (1, 128)] := rfl
@[simp] theorem ti144_agg : ti144.kind.agg = true := rfl
@[simp] theorem ti144_zero : ti144.zero = [.string ⟨#[]⟩, .slice none 0 0, .int .i64 0] := rfl
@[simp] theorem ti144_eqk : ti144.eqk = [] := rfl
@[simp] theorem kd_144 : kd tt 144 = some (.struct [(0, 9), (1, 128)]) := rfl
@[simp] theorem fieldT_144_0 : fieldT tt 144 0 = some (0, ti9) := rfl
@[simp] theorem fieldT_144_1 : fieldT tt 144 1 = some (1, ti128) := rfl
@[simp] theorem tt_150 : tt 150 = some ti150 := rfl
@[simp] theorem ti150_size : ti150.size = 4 := rfl
@[simp] theorem ti150_bytes : ti150.bytes = 64 := rfl
@[simp] theorem ti150_kind : ti150.kind = .struct [(0, 3), (1, 3), (2, 65), (3, 76)] := rfl
@[simp] theorem ti150_agg : ti150.kind.agg = true := rfl
@[simp] theorem ti150_zero : ti150.zero = [.int .i64 0, .int .i64 0, .slice none 0 0, .slice none 0 0] := rfl
@[simp] theorem ti150_eqk : ti150.eqk = [] := rfl
@[simp] theorem kd_150 : kd tt 150 = some (.struct [(0, 3), (1, 3), (2, 65), (3, 76)]) := rfl
@[simp] theorem fieldT_150_0 : fieldT tt 150 0 = some (0, ti3) := rfl
@[simp] theorem fieldT_150_1 : fieldT tt 150 1 = some (1, ti3) := rfl
@[simp] theorem fieldT_150_2 : fieldT tt 150 2 = some (2, ti65) := rfl
@[simp] theorem fieldT_150_3 : fieldT tt 150 3 = some (3, ti76) := rfl
@[simp] theorem tt_161 : tt 161 = some ti161 := rfl
@[simp] theorem ti161_size : ti161.size = 1 := rfl
@[simp] theorem ti161_bytes : ti161.bytes = 8 := rfl
@[simp] theorem ti161_kind : ti161.kind = .oth := rfl
@[simp] theorem ti161_agg : ti161.kind.agg = false := rfl
@[simp] theorem ti161_zero : ti161.zero = [.pointer none] := rfl
@[simp] theorem ti161_eqk : ti161.eqk = [] := rfl
@[simp] theorem kd_161 : kd tt 161 = some (.oth) := rfl
@[simp] theorem tt_174 : tt 174 = some ti174 := rfl
@[simp] theorem ti174_size : ti174.size = 3 := rfl
@[simp] theorem ti174_bytes : ti174.bytes = 40 := rfl
@[simp] theorem ti174_kind : ti174.kind = .struct [(0, 9), (1, 3), (2, 9)] := rfl
@[simp] theorem ti174_agg : ti174.kind.agg = true := rfl
@[simp] theorem ti174_zero : ti174.zero = [.string ⟨#[]⟩, .int .i64 0, .string ⟨#[]⟩] := rfl
@[simp] theorem ti174_eqk : ti174.eqk = [] := rfl
@[simp] theorem kd_174 : kd tt 174 = some (.struct [(0, 9), (1, 3), (2, 9)]) := rfl
@[simp] theorem fieldT_174_0 : fieldT tt 174 0 = some (0, ti9) := rfl
@[simp] theorem fieldT_174_1 : fieldT tt 174 1 = some (1, ti3) := rfl
@[simp] theorem fieldT_174_2 : fieldT tt 174 2 = some (2, ti9) := rfl
@[simp] theorem tt_176 : tt 176 = some ti176 := rfl
@[simp] theorem ti176_size : ti176.size = 7 := rfl
@[simp] theorem ti176_bytes : ti176.bytes = 152 := rfl
@[simp] theorem ti176_kind : ti176.kind = .struct [(0, 161), (1, 97), (4, 134), (5, 134), (6, 134)] := rfl
@[simp] theorem ti176_agg : ti176.kind.agg = true := rfl
@[simp] theorem ti176_zero : ti176.zero = [.pointer none, .slice none 0 0, .slice none 0 0, .slice none 0 0, .slice none 0 0, .slice none 0 0, .slice none 0 0] := rfl
@[simp] theorem ti176_eqk : ti176.eqk = [] := rfl
@[simp] theorem kd_176 : kd tt 176 = some (.struct [(0, 161), (1, 97), (4, 134), (5, 134), (6, 134)]) := rfl
@[simp] theorem fieldT_176_0 : fieldT tt 176 0 = some (0, ti161) := rfl
@[simp] theorem fieldT_176_1 : fieldT tt 176 1 = some (1, ti97) := rfl
@[simp] theorem fieldT_176_2 : fieldT tt 176 2 = some (4, ti134) := rfl
@[simp] theorem fieldT_176_3 : fieldT tt 176 3 = some (5, ti134) := rfl
@[simp] theorem fieldT_176_4 : fieldT tt 176 4 = some (6, ti134) := rfl
@[simp] theorem tt_186 : tt 186 = some ti186 := rfl
@[simp] theorem ti186_size : ti186.size = 1 := rfl
@[simp] theorem ti186_bytes : ti186.bytes = 24 := rfl
@[simp] theorem ti186_kind : ti186.kind = .slice 5 := rfl
@[simp] theorem ti186_agg : ti186.kind.agg = false := rfl
@[simp] theorem ti186_zero : ti186.zero = [.slice none 0 0] := rfl
@[simp] theorem ti186_eqk : ti186.eqk = [] := rfl
@[simp] theorem kd_186 : kd tt 186 = some (.slice 5) := rfl
@[simp] theorem elemT_186 : elemT tt 186 = some (5, ti5) := rfl
@[simp] theorem tt_188 : tt 188 = some ti188 := rfl
@[simp] theorem ti188_size : ti188.size = 1 := rfl
@[simp] theorem ti188_bytes : ti188.bytes = 24 := rfl
@[simp] theorem ti188_kind : ti188.kind = .slice 118 := rfl
@[simp] theorem ti188_agg : ti188.kind.agg = false := rfl
@[simp] theorem ti188_zero : ti188.zero = [.slice none 0 0] := rfl
@[simp] theorem ti188_eqk : ti188.eqk = [] := rfl
@[simp] theorem kd_188 : kd tt 188 = some (.slice 118) := rfl
@[simp] theorem elemT_188 : elemT tt 188 = some (118, ti118) := rfl
@[simp] theorem tt_190 : tt 190 = some ti190 := rfl
@[simp] theorem ti190_size : ti190.size = 6 := rfl
@[simp] theorem ti190_bytes : ti190.bytes = 88 := rfl
@[simp] theorem ti190_kind : ti190.kind = .struct [(0, 3), (1, 9), (2, 3), (3, 3), (4, 25), (5, 188)] := rfl
@[simp] theorem ti190_agg : ti190.kind.agg = true := rfl
@[simp] theorem ti190_zero : ti190.zero = [.int .i64 0, .string ⟨#[]⟩, .int .i64 0, .int .i64 0, .slice none 0 0, .slice none 0 0] := rfl
@[simp] theorem ti190_eqk : ti190.eqk = [] := rfl
@[simp] theorem kd_190 : kd tt 190 = some (.struct [(0, 3), (1, 9), (2, 3), (3, 3), (4, 25), (5, 188)]) := rfl
@[simp] theorem fieldT_190_0 : fieldT tt 190 0 = some (0, ti3) := rfl
@[simp] theorem fieldT_190_1 : fieldT tt 190 1 = some (1, ti9) := rfl
@[simp] theorem fieldT_190_2 : fieldT tt 190 2 = some (2, ti3) := rfl
@[simp] theorem fieldT_190_3 : fieldT tt 190 3 = some (3, ti3) := rfl
@[simp] theorem fieldT_190_4 : fieldT tt 190 4 = some (4, ti25) := rfl
@[simp] theorem fieldT_190_5 : fieldT tt 190 5 = some (5, ti188) := rfl
@[simp] theorem tt_192 : tt 192 = some ti192 := rfl
@[simp] theorem ti192_size : ti192.size = 1 := rfl
@[simp] theorem ti192_bytes : ti192.bytes = 24 := rfl
@[simp] theorem ti192_kind : ti192.kind = .slice 276 := rfl
@[simp] theorem ti192_agg : ti192.kind.agg = false := rfl
@[simp] theorem ti192_zero : ti192.zero = [.slice none 0 0] := rfl
@[simp] theorem ti192_eqk : ti192.eqk = [] := rfl
@[simp] theorem kd_192 : kd tt 192 = some (.slice 276) := rfl
@[simp] theorem elemT_192 : elemT tt 192 = some (276, ti276) := rfl
@[simp] theorem tt_194 : tt 194 = some ti194 := rfl
@[simp] theorem ti194_size : ti194.size = 6 := rfl
@[simp] theorem ti194_bytes : ti194.bytes = 120 := rfl
@[simp] theorem ti194_kind : ti194.kind = .struct [(0, 9), (1, 3), (2, 25), (3, 188), (4, 192), (5, 110)] := rfl
@[simp] theorem ti194_agg : ti194.kind.agg = true := rfl
@[simp] theorem ti194_zero : ti194.zero = [.string ⟨#[]⟩, .int .i64 0, .slice none 0 0, .slice none 0 0, .slice none 0 0, .slice none 0 0] := rfl
@[simp] theorem ti194_eqk : ti194.eqk = [] := rfl
@[simp] theorem kd_194 : kd tt 194 = some (.struct [(0, 9), (1, 3), (2, 25), (3, 188), (4, 192), (5, 110)]) := rfl
@[simp] theorem fieldT_194_0 : fieldT tt 194 0 = some (0, ti9) := rfl
@[simp] theorem fieldT_194_1 : fieldT tt 194 1 = some (1, ti3) := rfl
@[simp] theorem fieldT_194_2 : fieldT tt 194 2 = some (2, ti25) := rfl
@[simp] theorem fieldT_194_3 : fieldT tt 194 3 = some (3, ti188) := rfl
@[simp] theorem fieldT_194_4 : fieldT tt 194 4 = some (4, ti192) := rfl
@[simp] theorem fieldT_194_5 : fieldT tt 194 5 = some (5, ti110) := rfl
@[simp] theorem tt_196 : tt 196 = some ti196 := rfl
@[simp] theorem ti196_size : ti196.size = 1 := rfl
@[simp] theorem ti196_bytes : ti196.bytes = 24 := rfl
@[simp] theorem ti196_kind : ti196.kind = .slice 309 := rfl
@[simp] theorem ti196_agg : ti196.kind.agg = false := rfl
@[simp] theorem ti196_zero : ti196.zero = [.slice none 0 0] := rfl
@[simp] theorem ti196_eqk : ti196.eqk = [] := rfl
@[simp] theorem kd_196 : kd tt 196 = some (.slice 309) := rfl
@[simp] theorem elemT_196 : elemT tt 196 = some (309, ti309) := rfl
@[simp] theorem tt_198 : tt 198 = some ti198 := rfl
@[simp] theorem ti198_size : ti198.size = 2 := rfl
@[simp] theorem ti198_bytes : ti198.bytes = 32 := rfl
@[simp] theorem ti198_kind : ti198.kind = .struct [(0, 196), (1, 3)] := rfl
@[simp] theorem ti198_agg : ti198.kind.agg = true := rfl
@[simp] theorem ti198_zero : ti198.zero = [.slice none 0 0, .int .i64 0] := rfl
@[simp] theorem ti198_eqk : ti198.eqk = [] := rfl
@[simp] theorem kd_198 : kd tt 198 = some (.struct [(0, 196), (1, 3)]) := rfl
@[simp] theorem fieldT_198_0 : fieldT tt 198 0 = some (0, ti196) := rfl
@[simp] theorem fieldT_198_1 : fieldT tt 198 1 = some (1, ti3) := rfl
@[simp] theorem tt_200 : tt 200 = some ti200 := rfl
@[simp] theorem ti200_size : ti200.size = 3 := rfl
@[simp] theorem ti200_bytes : ti200.bytes = 40 := rfl
@[simp] theorem ti200_kind : ti200.kind = .struct [(0, 3), (1, 198)] := rfl
@[simp] theorem ti200_agg : ti200.kind.agg = true := rfl
@[simp] theorem ti200_zero : ti200.zero = [.int .i64 0, .slice none 0 0, .int .i64 0] := rfl
@[simp] theorem ti200_eqk : ti200.eqk = [] := rfl
@[simp] theorem kd_200 : kd tt 200 = some (.struct [(0, 3), (1, 198)]) := rfl
@[simp] theorem fieldT_200_0 : fieldT tt 200 0 = some (0, ti3) := rfl
@[simp] theorem fieldT_200_1 : fieldT tt 200 1 = some (1, ti198) := rfl
@[simp] theorem tt_210 : tt 210 = some ti210 := rfl
@[simp] theorem ti210_size : ti210.size = 4 := rfl
@[simp] theorem ti210_bytes : ti210.bytes = 48 := rfl
@[simp] theorem ti210_kind : ti210.kind = .struct [(0, 9), (1, 71)] := rfl
@[simp] theorem ti210_agg : ti210.kind.agg = true := rfl
@[simp] theorem ti210_zero : ti210.zero = [.string ⟨#[]⟩, .int .i64 0, .int .i64 0, .string ⟨#[]⟩] := rfl
@[simp] theorem ti210_eqk : ti210.eqk = [] := rfl
@[simp] theorem kd_210 : kd tt 210 = some (.struct [(0, 9), (1, 71)]) := rfl
@[simp] theorem fieldT_210_0 : fieldT tt 210 0 = some (0, ti9) := rfl
@[simp] theorem fieldT_210_1 : fieldT tt 210 1 = some (1, ti71) := rfl
@[simp] theorem tt_234 : tt 234 = some ti234 := rfl
@[simp] theorem ti234_size : ti234.size = 1 := rfl
@[simp] theorem ti234_bytes : ti234.bytes = 8 := rfl
@[simp] theorem ti234_kind : ti234.kind = .oth := rfl
@[simp] theorem ti234_agg : ti234.kind.agg = false := rfl
@[simp] theorem ti234_zero : ti234.zero = [.pointer none] := rfl
@[simp] theorem ti234_eqk : ti234.eqk = [] := rfl
@[simp] theorem kd_234 : kd tt 234 = some (.oth) := rfl
@[simp] theorem tt_239 : tt 239 = some ti239 := rfl
@[simp] theorem ti239_size : ti239.size = 1 := rfl
@[simp] theorem ti239_bytes : ti239.bytes = 8 := rfl
@[simp] theorem ti239_kind : ti239.kind = .oth := rfl
@[simp] theorem ti239_agg : ti239.kind.agg = false := rfl
@[simp] theorem ti239_zero : ti239.zero = [.pointer none] := rfl
@[simp] theorem ti239_eqk : ti239.eqk = [] := rfl
@[simp] theorem kd_239 : kd tt 239 = some (.oth) := rfl
@[simp] theorem tt_276 : tt 276 = some ti276 := rfl
@[simp] theorem ti276_size : ti276.size = 3 := rfl
@[simp] theorem ti276_bytes : ti276.bytes = 40 := rfl
@[simp] theorem ti276_kind : ti276.kind = .struct [(0, 9), (1, 3), (2, 9)] := rfl
@[simp] theorem ti276_agg : ti276.kind.agg = true := rfl
@[simp] theorem ti276_zero : ti276.zero = [.string ⟨#[]⟩, .int .i64 0, .string ⟨#[]⟩] := rfl
@[simp] theorem ti276_eqk : ti276.eqk = [] := rfl
@[simp] theorem kd_276 : kd tt 276 = some (.struct [(0, 9), (1, 3), (2, 9)]) := rfl
@[simp] theorem fieldT_276_0 : fieldT tt 276 0 = some (0, ti9) := rfl
@[simp] theorem fieldT_276_1 : fieldT tt 276 1 = some (1, ti3) := rfl
@[simp] theorem fieldT_276_2 : fieldT tt 276 2 = some (2, ti9) := rfl
@[simp] theorem tt_278 : tt 278 = some ti278 := rfl
@[simp] theorem ti278_size : ti278.size = 2 := rfl
@[simp] theorem ti278_bytes : ti278.bytes = 24 := rfl
@[simp] theorem ti278_kind : ti278.kind = .struct [(0, 9), (1, 3)] := rfl
@[simp] theorem ti278_agg : ti278.kind.agg = true := rfl
@[simp] theorem ti278_zero : ti278.zero = [.string ⟨#[]⟩, .int .i64 0] := rfl
@[simp] theorem ti278_eqk : ti278.eqk = [] := rfl
@[simp] theorem kd_278 : kd tt 278 = some (.struct [(0, 9), (1, 3)]) := rfl
@[simp] theorem fieldT_278_0 : fieldT tt 278 0 = some (0, ti9) := rfl
@[simp] theorem fieldT_278_1 : fieldT tt 278 1 = some (1, ti3) := rfl
@[simp] theorem tt_282 : tt 282 = some ti282 := rfl
@[simp] theorem ti282_size : ti282.size = 3 := rfl
@[simp] theorem ti282_bytes : ti282.bytes = 48 := rfl
@[simp] theorem ti282_kind : ti282.kind = .struct [(0, 9), (1, 198)] := rfl
@[simp] theorem ti282_agg : ti282.kind.agg = true := rfl
@[simp] theorem ti282_zero : ti282.zero = [.string ⟨#[]⟩, .slice none 0 0, .int .i64 0] := rfl
@[simp] theorem ti282_eqk : ti282.eqk = [] := rfl
@[simp] theorem kd_282 : kd tt 282 = some (.struct [(0, 9), (1, 198)]) := rfl
@[simp] theorem fieldT_282_0 : fieldT tt 282 0 = some (0, ti9) := rfl
@[simp] theorem fieldT_282_1 : fieldT tt 282 1 = some (1, ti198) := rfl
@[simp] theorem tt_285 : tt 285 = some ti285 := rfl
@[simp] theorem ti285_size : ti285.size = 4 := rfl
@[simp] theorem ti285_bytes : ti285.bytes = 48 := rfl
@[simp] theorem ti285_kind : ti285.kind = .struct [(0, 9), (1, 118)] := rfl
@[simp] theorem ti285_agg : ti285.kind.agg = true := rfl
@[simp] theorem ti285_zero : ti285.zero = [.string ⟨#[]⟩, .int .i64 0, .int .i64 0, .string ⟨#[]⟩] := rfl
@[simp] theorem ti285_eqk : ti285.eqk = [] := rfl
@[simp] theorem kd_285 : kd tt 285 = some (.struct [(0, 9), (1, 118)]) := rfl
@[simp] theorem fieldT_285_0 : fieldT tt 285 0 = some (0, ti9) := rfl
@[simp] theorem fieldT_285_1 : fieldT tt 285 1 = some (1, ti118) := rfl
@[simp] theorem tt_288 : tt 288 = some ti288 := rfl
@[simp] theorem ti288_size : ti288.size = 4 := rfl
@[simp] theorem ti288_bytes : ti288.bytes = 64 := rfl
@[simp] theorem ti288_kind : ti288.kind = .struct [(0, 3), (1, 3), (2, 188), (3, 117)] := rfl
@[simp] theorem ti288_agg : ti288.kind.agg = true := rfl
@[simp] theorem ti288_zero : ti288.zero = [.int .i64 0, .int .i64 0, .slice none 0 0, .slice none 0 0] := rfl
@[simp] theorem ti288_eqk : ti288.eqk = [] := rfl
@[simp] theorem kd_288 : kd tt 288 = some (.struct [(0, 3), (1, 3), (2, 188), (3, 117)]) := rfl
@[simp] theorem fieldT_288_0 : fieldT tt 288 0 = some (0, ti3) := rfl
@[simp] theorem fieldT_288_1 : fieldT tt 288 1 = some (1, ti3) := rfl
@[simp] theorem fieldT_288_2 : fieldT tt 288 2 = some (2, ti188) := rfl
@[simp] theorem fieldT_288_3 : fieldT tt 288 3 = some (3, ti117) := rfl
@[simp] theorem tt_299 : tt 299 = some ti299 := rfl
@[simp] theorem ti299_size : ti299.size = 1 := rfl
@[simp] theorem ti299_bytes : ti299.bytes = 16 := rfl
@[simp] theorem ti299_kind : ti299.kind = .ifc := rfl
@[simp] theorem ti299_agg : ti299.kind.agg = false := rfl
@[simp] theorem ti299_zero : ti299.zero = [.nilIface] := rfl
@[simp] theorem ti299_eqk : ti299.eqk = [] := rfl
@[simp] theorem kd_299 : kd tt 299 = some (.ifc) := rfl
@[simp] theorem tt_309 : tt 309 = some ti309 := rfl
@[simp] theorem ti309_size : ti309.size = 5 := rfl
@[simp] theorem ti309_bytes : ti309.bytes = 80 := rfl
@[simp] theorem ti309_kind : ti309.kind = .struct [(0, 3), (1, 3), (2, 9), (3, 25), (4, 134)] := rfl
@[simp] theorem ti309_agg : ti309.kind.agg = true := rfl
@[simp] theorem ti309_zero : ti309.zero = [.int .i64 0, .int .i64 0, .string ⟨#[]⟩, .slice none 0 0, .slice none 0 0] := rfl
@[simp] theorem ti309_eqk : ti309.eqk = [] := rfl
@[simp] theorem kd_309 : kd tt 309 = some (.struct [(0, 3), (1, 3), (2, 9), (3, 25), (4, 134)]) := rfl
@[simp] theorem fieldT_309_0 : fieldT tt 309 0 = some (0, ti3) := rfl
@[simp] theorem fieldT_309_1 : fieldT tt 309 1 = some (1, ti3) := rfl
@[simp] theorem fieldT_309_2 : fieldT tt 309 2 = some (2, ti9) := rfl
@[simp] theorem fieldT_309_3 : fieldT tt 309 3 = some (3, ti25) := rfl
@[simp] theorem fieldT_309_4 : fieldT tt 309 4 = some (4, ti134) := rfl
theorem cof (nt : Nat) {f : Nat} {fn : Func} {c : Go.Code} {ins : List AV} {ob : List (Nat × Root)} {keep : List Nat} {Φ : AV → List (Nat × Root) → Prop} {rs : List ResultVar} [Laid]
    (hf : PP.funcs[f]? = some fn) (h : ∀ G, WPc PP c (entSt nt G ins ob) (endP tt nt rs G ins keep Φ)) (hn : (fn.name == "runtime.NumGoroutine") = false := by kernel_rfl) (hb : fn.body = some c := by exact rfl) (hnt : fn.ntmps = nt := by exact rfl)
    (hrs : fn.results.toList = rs := by exact rfl) (hl : ins.length ≤ nt := by exact Nat.le_of_ble_eq_true rfl) : Con PP f ins ob keep Φ := Con.of tok hf hn hb hnt hrs hl h
end Go.Own
namespace Go.Proofs
open Go.Shelf
def Tryz.lays137_ren : Go.Shelf.Ren := ⟨fun | 137 => 225 | 217 => 238 | 266 => 247 | n => n, fun | 9 => 9 | 5 => 5 | 3 => 3 | n => n, fun | n => n⟩
theorem Tryz.lays137 : Go.Proofs.Lays.n137 Tryz.prog Tryz.lays137_ren := {
  mixed := by kernel_rfl
  f137 := Tryz.func225.trans (congrArg some (by kernel_rfl))
  f217 := Tryz.func238.trans (congrArg some (by kernel_rfl))
  f266 := Tryz.func247.trans (congrArg some (by kernel_rfl))
  t3 := Tryz.underlying3
  a3 := Tryz.isAgg3
  z3 := Tryz.sizeOf3
  v3 := Tryz.zeroValue3
  t5 := Tryz.underlying5
  a5 := Tryz.isAgg5
  z5 := Tryz.sizeOf5
  v5 := Tryz.zeroValue5
  t9 := Tryz.underlying9
  a9 := Tryz.isAgg9
  z9 := Tryz.sizeOf9
  v9 := Tryz.zeroValue9 }
open Go.RowKit in
theorem Tryz.strings_IndexByte (s : ByteArray) (c : Int) (w : World) :
    Calls Tryz.prog 225 #[.string s, .int .u8 c] w fun e w' => e = .returned (.int .i64 (Lib.indexByte s.data.toList c.toNat.toUInt8)) ∧ w' = w := Any.strings_IndexByte Tryz.lays137 s c w
def Tryz.laysM171_ren : Go.Shelf.Ren := ⟨fun | 171 => 242 | 243 => 254 | 246 => 262 | 283 => 266 | 284 => 267 | 285 => 268 | 286 => 269 | 129 => 271 | 317 => 270 | 318 => 272 | 319 => 273 | 320 => 274 | 337 => 275 | 338 => 276 | n => n, fun | 3 => 3 | 9 => 9 | 2 => 2 | 4 => 4 | 171 => 339 | 0 => 0 | 53 => 323 | 37 => 186 | 5 => 5 | 173 => 342 | 212 => 345 | 51 => 331 | 20 => 20 | 213 => 346 | 46 => 322 | 232 => 349 | 233 => 350 | n => n, fun | 17 => 3 | 18 => 4 | 19 => 5 | n => n⟩
theorem Tryz.laysM171 : Go.Proofs.LaysM.n171 Tryz.prog Tryz.laysM171_ren := {
  mixed := by kernel_rfl
  f129 := Tryz.func271.trans (congrArg some (by kernel_rfl))
  f171 := Tryz.func242.trans (congrArg some (by kernel_rfl))
  f243 := Tryz.func254.trans (congrArg some (by kernel_rfl))
  f246 := Tryz.func262.trans (congrArg some (by kernel_rfl))
  f283 := Tryz.func266.trans (congrArg some (by kernel_rfl))
  f284 := Tryz.func267.trans (congrArg some (by kernel_rfl))
  f285 := Tryz.func268.trans (congrArg some (by kernel_rfl))
  f286 := Tryz.func269.trans (congrArg some (by kernel_rfl))
  f317 := Tryz.func270.trans (congrArg some (by kernel_rfl))
  f318 := Tryz.func272.trans (congrArg some (by kernel_rfl))
  f319 := Tryz.func273.trans (congrArg some (by kernel_rfl))
  f320 := Tryz.func274.trans (congrArg some (by kernel_rfl))
  f337 := Tryz.func275.trans (congrArg some (by kernel_rfl))
  f338 := Tryz.func276.trans (congrArg some (by kernel_rfl))
  t0 := Tryz.underlying0
  a0 := Tryz.isAgg0
  z0 := Tryz.sizeOf0
  v0 := Tryz.zeroValue0
  t2 := Tryz.underlying2
  a2 := Tryz.isAgg2
  z2 := Tryz.sizeOf2
  v2 := Tryz.zeroValue2
  t3 := Tryz.underlying3
  a3 := Tryz.isAgg3
  z3 := Tryz.sizeOf3
  v3 := Tryz.zeroValue3
  t4 := Tryz.underlying4
  a4 := Tryz.isAgg4
  z4 := Tryz.sizeOf4
  v4 := Tryz.zeroValue4
  t5 := Tryz.underlying5
  a5 := Tryz.isAgg5
  z5 := Tryz.sizeOf5
  v5 := Tryz.zeroValue5
  t9 := Tryz.underlying9
  a9 := Tryz.isAgg9
  z9 := Tryz.sizeOf9
  v9 := Tryz.zeroValue9
  t20 := Tryz.underlying20
  a20 := Tryz.isAgg20
  z20 := Tryz.sizeOf20
  v20 := Tryz.zeroValue20
  t37 := Tryz.underlying186
  a37 := Tryz.isAgg186
  z37 := Tryz.sizeOf186
  v37 := Tryz.zeroValue186
  t46 := Tryz.underlying322
  a46 := Tryz.isAgg322
  z46 := Tryz.sizeOf322
  v46 := Tryz.zeroValue322
  t51 := Tryz.underlying331
  a51 := Tryz.isAgg331
  z51 := Tryz.sizeOf331
  v51 := Tryz.zeroValue331
  t53 := Tryz.underlying323
  a53 := Tryz.isAgg323
  z53 := Tryz.sizeOf323
  v53 := Tryz.zeroValue323
  t171 := Tryz.underlying339
  a171 := Tryz.isAgg339
  z171 := Tryz.sizeOf339
  v171 := Tryz.zeroValue339
  t173 := Tryz.underlying342
  a173 := Tryz.isAgg342
  z173 := Tryz.sizeOf342
  v173 := Tryz.zeroValue342
  t212 := Tryz.underlying345
  a212 := Tryz.isAgg345
  z212 := Tryz.sizeOf345
  v212 := Tryz.zeroValue345
  t213 := Tryz.underlying346
  a213 := Tryz.isAgg346
  z213 := Tryz.sizeOf346
  t232 := Tryz.underlying349
  a232 := Tryz.isAgg349
  z232 := Tryz.sizeOf349
  v232 := Tryz.zeroValue349
  t233 := Tryz.underlying350
  a233 := Tryz.isAgg350
  z233 := Tryz.sizeOf350
  v233 := Tryz.zeroValue350
  g17 := by kernel_rfl
  g18 := by kernel_rfl
  g19 := by kernel_rfl
  i0 := by kernel_rfl
  i2 := by kernel_rfl
  i3 := by kernel_rfl
  i4 := by kernel_rfl
  i5 := by kernel_rfl
  i9 := by kernel_rfl
  i20 := by kernel_rfl
  i37 := by kernel_rfl
  i46 := by kernel_rfl
  i51 := by kernel_rfl
  i53 := by kernel_rfl
  i171 := by kernel_rfl
  i173 := by kernel_rfl
  i212 := by kernel_rfl
  i232 := by kernel_rfl
  i233 := by kernel_rfl
  m17 := by kernel_rfl
  m18 := by kernel_rfl
  m19 := by kernel_rfl }
open Go.RowKit Go.Sort Go.Lib in
theorem Tryz.strconv_Itoa (n : Int) (h0 : -9223372036854775808 ≤ n) (h1 : n ≤ 9223372036854775807) (w : World) (htab : Lib.TabIs Tryz.prog w "internal/strconv.uint64pow10" .u64 Lib.pow10Tab) :
    Calls Tryz.prog 242 #[.int .i64 n] w fun e w' => e = .returned (.string ⟨(Lib.itoa n).toArray⟩) ∧ ∃ k os, w' = grow (w.drewN k) os := Any.strconv_Itoa Tryz.laysM171 n h0 h1 w htab
def Tryz.laysC172_ren : Go.Shelf.Ren := ⟨fun | 172 => 227 | 244 => 240 | 245 => 241 | 247 => 249 | 279 => 250 | 280 => 251 | 281 => 252 | 282 => 253 | 287 => 259 | 316 => 260 | 171 => 242 | 205 => 261 | 321 => 264 | 322 => 265 | 243 => 254 | 246 => 262 | 283 => 266 | 284 => 267 | 285 => 268 | 286 => 269 | 129 => 271 | 317 => 270 | 318 => 272 | 319 => 273 | 320 => 274 | 337 => 275 | 338 => 276 | n => n, fun | 9 => 9 | 3 => 3 | 75 => 299 | 76 => 300 | 4 => 4 | 5 => 5 | 167 => 315 | 37 => 186 | 0 => 0 | 85 => 316 | 2 => 2 | 168 => 318 | 53 => 323 | 175 => 324 | 46 => 322 | 210 => 328 | 127 => 335 | 145 => 338 | 143 => 336 | 21 => 21 | 171 => 339 | 173 => 342 | 212 => 345 | 51 => 331 | 20 => 20 | 213 => 346 | 232 => 349 | 233 => 350 | 80 => 351 | n => n, fun | 15 => 1 | 16 => 2 | 17 => 3 | 18 => 4 | 19 => 5 | n => n⟩
theorem Tryz.laysC172 : Go.Proofs.LaysC.n172 Tryz.prog Tryz.laysC172_ren := {
  mixed := by kernel_rfl
  f129 := Tryz.func271.trans (congrArg some (by kernel_rfl))
  f171 := Tryz.func242.trans (congrArg some (by kernel_rfl))
  f172 := Tryz.func227.trans (congrArg some (by kernel_rfl))
  f205 := Tryz.func261.trans (congrArg some (by kernel_rfl))
  f243 := Tryz.func254.trans (congrArg some (by kernel_rfl))
  f244 := Tryz.func240.trans (congrArg some (by kernel_rfl))
  f245 := Tryz.func241.trans (congrArg some (by kernel_rfl))
  f246 := Tryz.func262.trans (congrArg some (by kernel_rfl))
  f247 := Tryz.func249.trans (congrArg some (by kernel_rfl))
  f279 := Tryz.func250.trans (congrArg some (by kernel_rfl))
  f280 := Tryz.func251.trans (congrArg some (by kernel_rfl))
  f281 := Tryz.func252.trans (congrArg some (by kernel_rfl))
  f282 := Tryz.func253.trans (congrArg some (by kernel_rfl))
  f283 := Tryz.func266.trans (congrArg some (by kernel_rfl))
  f284 := Tryz.func267.trans (congrArg some (by kernel_rfl))
  f285 := Tryz.func268.trans (congrArg some (by kernel_rfl))
  f286 := Tryz.func269.trans (congrArg some (by kernel_rfl))
  f287 := Tryz.func259.trans (congrArg some (by kernel_rfl))
  f316 := Tryz.func260.trans (congrArg some (by kernel_rfl))
  f317 := Tryz.func270.trans (congrArg some (by kernel_rfl))
  f318 := Tryz.func272.trans (congrArg some (by kernel_rfl))
  f319 := Tryz.func273.trans (congrArg some (by kernel_rfl))
  f320 := Tryz.func274.trans (congrArg some (by kernel_rfl))
  f321 := Tryz.func264.trans (congrArg some (by kernel_rfl))
  f322 := Tryz.func265.trans (congrArg some (by kernel_rfl))
  f337 := Tryz.func275.trans (congrArg some (by kernel_rfl))
  f338 := Tryz.func276.trans (congrArg some (by kernel_rfl))
  t0 := Tryz.underlying0
  a0 := Tryz.isAgg0
  z0 := Tryz.sizeOf0
  v0 := Tryz.zeroValue0
  t2 := Tryz.underlying2
  a2 := Tryz.isAgg2
  z2 := Tryz.sizeOf2
  v2 := Tryz.zeroValue2
  t3 := Tryz.underlying3
  a3 := Tryz.isAgg3
  z3 := Tryz.sizeOf3
  v3 := Tryz.zeroValue3
  t4 := Tryz.underlying4
  a4 := Tryz.isAgg4
  z4 := Tryz.sizeOf4
  v4 := Tryz.zeroValue4
  t5 := Tryz.underlying5
  a5 := Tryz.isAgg5
  z5 := Tryz.sizeOf5
  v5 := Tryz.zeroValue5
  t9 := Tryz.underlying9
  a9 := Tryz.isAgg9
  z9 := Tryz.sizeOf9
  v9 := Tryz.zeroValue9
  t20 := Tryz.underlying20
  a20 := Tryz.isAgg20
  z20 := Tryz.sizeOf20
  v20 := Tryz.zeroValue20
  t21 := Tryz.underlying21
  a21 := Tryz.isAgg21
  z21 := Tryz.sizeOf21
  v21 := Tryz.zeroValue21
  t37 := Tryz.underlying186
  a37 := Tryz.isAgg186
  z37 := Tryz.sizeOf186
  v37 := Tryz.zeroValue186
  t46 := Tryz.underlying322
  a46 := Tryz.isAgg322
  z46 := Tryz.sizeOf322
  v46 := Tryz.zeroValue322
  t51 := Tryz.underlying331
  a51 := Tryz.isAgg331
  z51 := Tryz.sizeOf331
  v51 := Tryz.zeroValue331
  t53 := Tryz.underlying323
  a53 := Tryz.isAgg323
  z53 := Tryz.sizeOf323
  v53 := Tryz.zeroValue323
  t75 := Tryz.underlying299
  a75 := Tryz.isAgg299
  z75 := Tryz.sizeOf299
  v75 := Tryz.zeroValue299
  t76 := Tryz.underlying300
  a76 := Tryz.isAgg300
  z76 := Tryz.sizeOf300
  v76 := Tryz.zeroValue300
  t85 := Tryz.underlying316
  a85 := Tryz.isAgg316
  z85 := Tryz.sizeOf316
  v85 := Tryz.zeroValue316
  t127 := Tryz.underlying335
  a127 := Tryz.isAgg335
  z127 := Tryz.sizeOf335
  v127 := Tryz.zeroValue335
  t143 := Tryz.underlying336
  a143 := Tryz.isAgg336
  z143 := Tryz.sizeOf336
  v143 := Tryz.zeroValue336
  t145 := Tryz.underlying338
  a145 := Tryz.isAgg338
  z145 := Tryz.sizeOf338
  v145 := Tryz.zeroValue338
  t167 := Tryz.underlying315
  a167 := Tryz.isAgg315
  z167 := Tryz.sizeOf315
  v167 := Tryz.zeroValue315
  t168 := Tryz.underlying318
  a168 := Tryz.isAgg318
  z168 := Tryz.sizeOf318
  v168 := Tryz.zeroValue318
  t171 := Tryz.underlying339
  a171 := Tryz.isAgg339
  z171 := Tryz.sizeOf339
  v171 := Tryz.zeroValue339
  t173 := Tryz.underlying342
  a173 := Tryz.isAgg342
  z173 := Tryz.sizeOf342
  v173 := Tryz.zeroValue342
  t175 := Tryz.underlying324
  a175 := Tryz.isAgg324
  z175 := Tryz.sizeOf324
  v175 := Tryz.zeroValue324
  t210 := Tryz.underlying328
  a210 := Tryz.isAgg328
  z210 := Tryz.sizeOf328
  v210 := Tryz.zeroValue328
  t212 := Tryz.underlying345
  a212 := Tryz.isAgg345
  z212 := Tryz.sizeOf345
  v212 := Tryz.zeroValue345
  t213 := Tryz.underlying346
  a213 := Tryz.isAgg346
  z213 := Tryz.sizeOf346
  t232 := Tryz.underlying349
  a232 := Tryz.isAgg349
  z232 := Tryz.sizeOf349
  v232 := Tryz.zeroValue349
  t233 := Tryz.underlying350
  a233 := Tryz.isAgg350
  z233 := Tryz.sizeOf350
  v233 := Tryz.zeroValue350
  g15 := by kernel_rfl
  g16 := by kernel_rfl
  g17 := by kernel_rfl
  g18 := by kernel_rfl
  g19 := by kernel_rfl
  t80 := Tryz.underlying351
  a80 := Tryz.isAgg351
  z80 := Tryz.sizeOf351
  v80 := Tryz.zeroValue351
  i0 := by kernel_rfl
  i2 := by kernel_rfl
  i3 := by kernel_rfl
  i4 := by kernel_rfl
  i5 := by kernel_rfl
  i9 := by kernel_rfl
  i20 := by kernel_rfl
  i21 := by kernel_rfl
  i37 := by kernel_rfl
  i46 := by kernel_rfl
  i51 := by kernel_rfl
  i53 := by kernel_rfl
  i75 := by kernel_rfl
  i76 := by kernel_rfl
  i80 := by kernel_rfl
  i85 := by kernel_rfl
  i127 := by kernel_rfl
  i143 := by kernel_rfl
  i145 := by kernel_rfl
  i167 := by kernel_rfl
  i168 := by kernel_rfl
  i171 := by kernel_rfl
  i173 := by kernel_rfl
  i175 := by kernel_rfl
  i210 := by kernel_rfl
  i212 := by kernel_rfl
  i232 := by kernel_rfl
  i233 := by kernel_rfl
  m15 := by kernel_rfl
  m16 := by kernel_rfl
  m17 := by kernel_rfl
  m18 := by kernel_rfl
  m19 := by kernel_rfl
  c0 := by kernel_rfl
  c2 := by kernel_rfl
  c3 := by kernel_rfl
  c4 := by kernel_rfl
  c5 := by kernel_rfl
  c9 := by kernel_rfl
  c20 := by kernel_rfl
  c21 := by kernel_rfl
  c37 := by kernel_rfl
  c46 := by kernel_rfl
  c51 := by kernel_rfl
  c53 := by kernel_rfl
  c75 := by kernel_rfl
  c76 := by kernel_rfl
  c80 := by kernel_rfl
  c85 := by kernel_rfl
  c127 := by kernel_rfl
  c143 := by kernel_rfl
  c145 := by kernel_rfl
  c167 := by kernel_rfl
  c168 := by kernel_rfl
  c171 := by kernel_rfl
  c173 := by kernel_rfl
  c175 := by kernel_rfl
  c210 := by kernel_rfl
  c212 := by kernel_rfl
  c213 := by kernel_rfl
  c232 := by kernel_rfl
  c233 := by kernel_rfl }
open Go.RowKit in
theorem Tryz.strconv_Atoi_ok (s : ByteArray) (hmax : s.size ≤ 9223372036854775806) (v : Int) (h : Lib.atoiAll s.data.toList = .ok v) (w : World) :
    Calls Tryz.prog 227 #[.string s] w fun e w' => e = .returned (.tuple #[.int .i64 v, .nilIface]) ∧ (w' = w ∨ ∃ t, w' = Lib.bytesWorld w 5 t) := Any.strconv_Atoi_ok Tryz.laysC172 s hmax v h w
open Go.RowKit in
theorem Tryz.strconv_Atoi_syntax (s : ByteArray) (hlim : s.size ≤ 281474976710656) (h : Lib.atoiAll s.data.toList = Lib.atoiAll []) (ev : Value) (w : World) (hv : w.cell? ⟨1, 0, none⟩ = some ev) (hev : ev = .nilIface ∨ ∃ te pe, ev = .iface te pe) :
    Calls Tryz.prog 227 #[.string s] w fun e w' => ∃ N, e = .returned (.tuple #[.int .i64 (0), .iface 318 (.pointer (some ⟨N, 0, none⟩))]) ∧ w.heap.size ≤ N ∧ w'.heap[N]? = some (.cells #[.string ⟨#[65, 116, 111, 105]⟩, .string s, ev] 328 (0, 0)) ∧ Below w.heap.size w w' := Any.strconv_Atoi_syntax Tryz.laysC172 s hlim h ev w hv hev
open Go.RowKit in
theorem Tryz.strconv_Atoi_range (s : ByteArray) (hlim : s.size ≤ 281474976710656) (h : Lib.atoiAll s.data.toList = .range) (ev : Value) (w : World) (hv : w.cell? ⟨2, 0, none⟩ = some ev) (hev : ev = .nilIface ∨ ∃ te pe, ev = .iface te pe) :
    Calls Tryz.prog 227 #[.string s] w fun e w' => ∃ N, e = .returned (.tuple #[.int .i64 (Lib.atoiSat s.data.toList), .iface 318 (.pointer (some ⟨N, 0, none⟩))]) ∧ w.heap.size ≤ N ∧ w'.heap[N]? = some (.cells #[.string ⟨#[65, 116, 111, 105]⟩, .string s, ev] 328 (0, 0)) ∧ Below w.heap.size w w' := Any.strconv_Atoi_range Tryz.laysC172 s hlim h ev w hv hev
def Tryz.lays144_ren : Go.Shelf.Ren := ⟨fun | 144 => 223 | 143 => 237 | 219 => 246 | 217 => 238 | 225 => 256 | 224 => 257 | 267 => 258 | 266 => 247 | 314 => 263 | n => n, fun | 9 => 9 | 4 => 4 | 3 => 3 | 5 => 5 | 46 => 322 | 146 => 332 | 51 => 331 | n => n, fun | 1 => 0 | n => n⟩
theorem Tryz.lays144 : Go.Proofs.Lays.n144 Tryz.prog Tryz.lays144_ren := {
  mixed := by kernel_rfl
  f143 := Tryz.func237.trans (congrArg some (by kernel_rfl))
  f144 := Tryz.func223.trans (congrArg some (by kernel_rfl))
  f217 := Tryz.func238.trans (congrArg some (by kernel_rfl))
  f219 := Tryz.func246.trans (congrArg some (by kernel_rfl))
  f224 := Tryz.func257.trans (congrArg some (by kernel_rfl))
  f225 := Tryz.func256.trans (congrArg some (by kernel_rfl))
  f266 := Tryz.func247.trans (congrArg some (by kernel_rfl))
  f267 := Tryz.func258.trans (congrArg some (by kernel_rfl))
  f314 := Tryz.func263.trans (congrArg some (by kernel_rfl))
  t3 := Tryz.underlying3
  a3 := Tryz.isAgg3
  z3 := Tryz.sizeOf3
  v3 := Tryz.zeroValue3
  t4 := Tryz.underlying4
  a4 := Tryz.isAgg4
  z4 := Tryz.sizeOf4
  v4 := Tryz.zeroValue4
  t5 := Tryz.underlying5
  a5 := Tryz.isAgg5
  z5 := Tryz.sizeOf5
  v5 := Tryz.zeroValue5
  t9 := Tryz.underlying9
  a9 := Tryz.isAgg9
  z9 := Tryz.sizeOf9
  v9 := Tryz.zeroValue9
  t46 := Tryz.underlying322
  a46 := Tryz.isAgg322
  z46 := Tryz.sizeOf322
  v46 := Tryz.zeroValue322
  t51 := Tryz.underlying331
  a51 := Tryz.isAgg331
  z51 := Tryz.sizeOf331
  v51 := Tryz.zeroValue331
  t146 := Tryz.underlying332
  a146 := Tryz.isAgg332
  z146 := Tryz.sizeOf332
  v146 := Tryz.zeroValue332
  g1 := by kernel_rfl }
open Go.RowKit Go.Lib in
theorem Tryz.strings_Contains (s sub : ByteArray) (m : Int) (w : World) (hs : s.size < 4294967281) (hm : w.cell? ⟨0, 0, none⟩ = some (.int .i64 m)) :
    Calls Tryz.prog 223 #[.string s, .string sub] w fun e w' => e = .returned (.bool (Lib.contains s.data.toList sub.data.toList)) ∧ w' = w := Any.strings_Contains Tryz.lays144 s sub m w hs hm
def Tryz.lays101_ren : Go.Shelf.Ren := ⟨fun | 101 => 226 | 208 => 239 | 206 => 248 | n => n, fun | 9 => 9 | 4 => 4 | 3 => 3 | n => n, fun | n => n⟩
theorem Tryz.lays101 : Go.Proofs.Lays.n101 Tryz.prog Tryz.lays101_ren := {
  mixed := by kernel_rfl
  f101 := Tryz.func226.trans (congrArg some (by kernel_rfl))
  f206 := Tryz.func248.trans (congrArg some (by kernel_rfl))
  f208 := Tryz.func239.trans (congrArg some (by kernel_rfl))
  t3 := Tryz.underlying3
  a3 := Tryz.isAgg3
  z3 := Tryz.sizeOf3
  v3 := Tryz.zeroValue3
  t4 := Tryz.underlying4
  a4 := Tryz.isAgg4
  z4 := Tryz.sizeOf4
  v4 := Tryz.zeroValue4
  t9 := Tryz.underlying9
  a9 := Tryz.isAgg9
  z9 := Tryz.sizeOf9
  v9 := Tryz.zeroValue9 }
open Go.RowKit Go.Lib in
theorem Tryz.strings_TrimPrefix (s p : ByteArray) (w : World) :
    Calls Tryz.prog 226 #[.string s, .string p] w fun e w' => e = .returned (.string ⟨(Lib.trimPrefix s.data.toList p.data.toList).toArray⟩) ∧ w' = w := Any.strings_TrimPrefix Tryz.lays101 s p w
end Go.Proofs
set_option maxRecDepth 1000000
set_option maxHeartbeats 4000000
namespace Go.Own
open Go.RowKit
structure Facts (w : World) : Prop where
  maxLen : ∃ m, w.cell? ⟨0, 0, none⟩ = some (.int .i64 m)
  syn : ∃ ev, w.cell? ⟨1, 0, none⟩ = some ev ∧ (ev = .nilIface ∨ ∃ te pe, ev = .iface te pe)
  rng : ∃ ev, w.cell? ⟨2, 0, none⟩ = some ev ∧ (ev = .nilIface ∨ ∃ te pe, ev = .iface te pe)
  pow : Lib.TabIs PP w "internal/strconv.uint64pow10" .u64 Lib.pow10Tab
class Facts.Of [Laid] : Prop where
  facts : ∀ w, Laid.ok w → Facts w
variable [Laid]
theorem args_of {vals : List Value} {β : Blk} {w : World} {args : Array Value} (h1 : args.size = (vals.map AV.sc).length) (h2 : ∀ i v, (vals.map AV.sc)[i]? = some v → VR β w v (args.getD i undef)) : args = vals.toArray := by
  apply Array.ext
  · simpa using h1
  · intro i h3 h4
    have hi : i < vals.length := by simpa using h4
    have := (h2 i (.sc vals[i]) (by simp [hi])).sc_inv
    simp only [Array.getD_eq_getD_getElem?, Array.getElem?_eq_getElem h3, Option.getD_some] at this
    simpa using this
theorem Con.lib {f : Nat} {fn : Func} {vals : List Value} {Φ : AV → List (Nat × Root) → Prop} (hf : PP.funcs[f]? = some fn) (hn : (fn.name == "runtime.NumGoroutine") = false) (hb : fn.body.isNone = false)
    (h : ∀ w, Laid.ok w → Calls PP f vals.toArray w (fun e w' => ∃ v, e = .returned v ∧ Φ (.sc v) [] ∧ Below w.heap.size w w')) : Con PP f (vals.map .sc) [] [] Φ := by
  refine ⟨⟨fn, hf, hn, hb⟩, fun β w args hl h1 h2 h3 h4 h5 => ?_⟩
  have := args_of h1 h2
  subst this
  refine (h w hl.ok).mono fun e w' ⟨v, he, hv, hbl⟩ => ⟨v, .sc v, [], β, he, ?_⟩
  exact { ok := hv, res := .sc v, ob := fun id e k es hl => by simp [lo] at hl, uq := h4, lt := fun b x hb => Nat.lt_of_lt_of_le (h5 b x hb) hbl.size, keep := fun i hi => by simp at hi,
          fr := fun b hb _ => hbl.block b hb, old := fun b x hb _ => by rw [hb]; simp, hs := hbl.size, os := hbl.os, tape := hbl.tape, output := hbl.output,
          to := fun b id p hb _ => ⟨hb, hbl.block b (h5 b _ hb)⟩, back := fun b id p hb _ => hb }
theorem c_strings_IndexByte (s : ByteArray) (c : Int) : Con PP 225 [.sc (.string s), .sc (.int .u8 c)] [] [] (fun r o => r = .sc (.int .i64 (Lib.indexByte s.data.toList c.toNat.toUInt8))) :=
  Con.lib (vals := [.string s, .int .u8 c]) Go.Proofs.Tryz.func225 (by kernel_rfl) (by kernel_rfl) fun w _ => (Go.Proofs.Tryz.strings_IndexByte s c w).mono fun e w' ⟨h1, h2⟩ => ⟨_, h1, rfl, h2 ▸ Below.refl _ _⟩
theorem c_strings_TrimPrefix (s p : ByteArray) : Con PP 226 [.sc (.string s), .sc (.string p)] [] [] (fun r o => r = .sc (.string ⟨(Lib.trimPrefix s.data.toList p.data.toList).toArray⟩)) :=
  Con.lib (vals := [.string s, .string p]) Go.Proofs.Tryz.func226 (by kernel_rfl) (by kernel_rfl) fun w _ => (Go.Proofs.Tryz.strings_TrimPrefix s p w).mono fun e w' ⟨h1, h2⟩ => ⟨_, h1, rfl, h2 ▸ Below.refl _ _⟩
theorem c_strings_Contains [F : Facts.Of] (s p : ByteArray) (hs : s.size < 4294967281) : Con PP 223 [.sc (.string s), .sc (.string p)] [] [] (fun r o => r = .sc (.bool (Lib.contains s.data.toList p.data.toList))) :=
  Con.lib (vals := [.string s, .string p]) Go.Proofs.Tryz.func223 (by kernel_rfl) (by kernel_rfl) fun w hw => by
    obtain ⟨m, hm⟩ := (F.facts w hw).maxLen
    exact (Go.Proofs.Tryz.strings_Contains s p m w hs hm).mono fun e w' ⟨h1, h2⟩ => ⟨_, h1, rfl, h2 ▸ Below.refl _ _⟩
theorem c_strconv_Itoa [F : Facts.Of] (n : Int) (h0 : -9223372036854775808 ≤ n) (h1 : n ≤ 9223372036854775807) : Con PP 242 [.sc (.int .i64 n)] [] [] (fun r o => r = .sc (.string ⟨(Lib.itoa n).toArray⟩)) :=
  Con.lib (vals := [.int .i64 n]) Go.Proofs.Tryz.func242 (by kernel_rfl) (by kernel_rfl) fun w hw => by
    refine (Go.Proofs.Tryz.strconv_Itoa n h0 h1 w (F.facts w hw).pow).mono fun e w' ⟨h1, k, os, h2⟩ => ⟨_, h1, rfl, ?_⟩
    subst h2
    exact Go.Lib.below_grow _ _ (Nat.le_refl _) _ _
end Go.Own
set_option maxRecDepth 1000000
set_option maxHeartbeats 4000000
namespace Go.Own
attribute [local irreducible] WPc WPL WPS HAny endP
variable [Laid]
structure V where
  k : Int
  n : Int
  s : ByteArray
  deriving DecidableEq
abbrev zs : ByteArray := ⟨#[]⟩
def V.av (v : V) : AV := .agg [.sc (.int .i64 v.k), .sc (.int .i64 v.n), .sc (.string v.s)]
def V.cs (v : V) : List C := [.sc (.int .i64 v.k), .sc (.int .i64 v.n), .sc (.string v.s)]
theorem eqA_iis {a1 a2 b1 b2 : Int} {a3 b3 : ByteArray} {t : Nat} (h : t = 71 ∨ t = 118) : eqA tt t [.sc (.int .i64 a1), .sc (.int .i64 a2), .sc (.string a3)] [.sc (.int .i64 b1), .sc (.int .i64 b2), .sc (.string b3)] = some (decide (a1 = b1 ∧ a2 = b2 ∧ a3 = b3)) := by
  rcases h with rfl | rfl <;> simp only [eqA, tt_71, tt_118, ti71_eqk, ti118_eqk, scs, Option.map_some, Option.bind_some, List.isEmpty_cons, Bool.false_eq_true, if_false, eqV, toList_inj, beq_dec] <;> simp [Bool.decide_and]
def V.eqb (a b : V) : Bool := decide (a = b)
@[simp] theorem bin_eql29 {a1 a2 b1 b2 : Int} {a3 b3 : ByteArray} : binA tt .eql 71 (.agg [.sc (.int .i64 a1), .sc (.int .i64 a2), .sc (.string a3)]) (.agg [.sc (.int .i64 b1), .sc (.int .i64 b2), .sc (.string b3)]) = some (.sc (.bool (V.eqb ⟨a1, a2, a3⟩ ⟨b1, b2, b3⟩))) := by
  simp only [binA, eqA_iis (.inl rfl), Option.map_some, V.eqb, V.mk.injEq]
@[simp] theorem bin_neq29 {a1 a2 b1 b2 : Int} {a3 b3 : ByteArray} : binA tt .neq 71 (.agg [.sc (.int .i64 a1), .sc (.int .i64 a2), .sc (.string a3)]) (.agg [.sc (.int .i64 b1), .sc (.int .i64 b2), .sc (.string b3)]) = some (.sc (.bool (!V.eqb ⟨a1, a2, a3⟩ ⟨b1, b2, b3⟩))) := by
  simp only [binA, eqA_iis (.inl rfl), Option.map_some, V.eqb, V.mk.injEq]
theorem all_at {α : Type} {p : α → Bool} {vs : List α} {i : Nat} {v : α} (hv : vs[i]? = some v) (h : p v = false) : vs.all p = false := by
  rw [List.all_eq_false]; exact ⟨v, List.mem_of_getElem? hv, by simp [h]⟩
theorem all_next {α : Type} {p : α → Bool} {vs : List α} {i : Nat} {v : α} (hv : vs[i]? = some v) (h : p v = true) (h0 : (vs.take i).all p = true) : (vs.take (i + 1)).all p = true := by
  rw [List.take_add_one, hv]; simp [h0, h]
theorem any_at {α : Type} {p : α → Bool} {vs : List α} {i : Nat} {v : α} (hv : vs[i]? = some v) (h : p v = true) : vs.any p = true := by
  rw [List.any_eq_true]; exact ⟨v, List.mem_of_getElem? hv, h⟩
theorem any_next {α : Type} {p : α → Bool} {vs : List α} {i : Nat} {v : α} (hv : vs[i]? = some v) (h : p v = false) (h0 : (vs.take i).any p = false) : (vs.take (i + 1)).any p = false := by
  rw [List.take_add_one, hv]; simp only [Option.toList_some, List.any_append, h0, List.any_cons, h, List.any_nil, Bool.or_false]
def inRange (n lo hi : Int) : Bool := decide (lo ≤ n) && decide (n ≤ hi)
theorem c_impl_inRange (n lo hi : Int) : Con PP 35 [.sc (.int .i64 n), .sc (.int .i64 lo), .sc (.int .i64 hi)] [] [] (fun r o => r = .sc (.bool (inRange n lo hi))) := by
  refine cof 15 Go.Proofs.Tryz.func35 fun G => ?_
  simp only [entSt, tmOf, List.append_nil, List.cons_append, List.nil_append]
  refine go (L := _ ∧ _ ∧ True) wb0 wb0 wb0 wb0 wb0 ⟨fun _ _ => ?_, fun _ _ => ?_, wb0⟩
  all_goals (simp_all [inRange]; try omega)
theorem c_spec_l1In (n lo hi : Int) : Con PP 26 [.sc (.int .i64 n), .sc (.int .i64 lo), .sc (.int .i64 hi)] [] [] (fun r o => r = .sc (.bool (inRange n lo hi))) := by
  refine cof 15 Go.Proofs.Tryz.func26 fun G => ?_
  simp only [entSt, tmOf, List.append_nil, List.cons_append, List.nil_append]
  refine go (L := _ ∧ _ ∧ True) wb0 wb0 wb0 wb0 wb0 ⟨fun _ _ => ?_, fun _ _ => ?_, wb0⟩
  all_goals (simp_all [inRange]; try omega)
def cellKind (k : Int) : Int := if k = 5 then 1 else if k = 6 then 2 else if k = 7 then 3 else 0
theorem c_impl_cellKind (k : Int) : Con PP 154 [.sc (.int .i64 k)] [] [] (fun r o => r = .sc (.int .i64 (cellKind k))) := by
  refine cof 10 Go.Proofs.Tryz.func154 fun G => ?_
  simp only [entSt, tmOf, List.append_nil, List.cons_append, List.nil_append]
  refine go (L := _ ∧ _ ∧ _ ∧ _ ∧ True) wb0 wb0 wb0 wb0 wb0 ⟨fun _ hq => ?_, fun _ hq hq => ?_, fun _ hq hq hq => ?_, fun _ hq hq hq => ?_, wb0⟩
  all_goals simp_all [cellKind]
def isBelow (n : Int) (v : V) : Bool := !(decide (cellKind v.k ≠ 0) && decide (n ≤ v.n))
theorem c_impl_areBelow (vs : List V) (n : Int) : Con PP 140 [.fz (vs.map V.cs), .sc (.int .i64 n)] [] [] (fun r o => r = .sc (.bool (vs.all (isBelow n)))) := by
  refine cof 24 Go.Proofs.Tryz.func140 fun G => ?_
  simp only [entSt, tmOf, List.append_nil, List.cons_append, List.nil_append]
  refine WPc.len 0 (by simp; rfl) fun hlen => ?_
  simp at hlen
  refine go (L := _ ∧ True) wb0 wb0 wb0 wb0 wb0 ⟨fun _ => ?_, wb0⟩
  refine WPc.loopK (σ := Nat) (fun i => i ≤ vs.length ∧ (vs.take i).all (isBelow n) = true) (fun i => vs.length - i) (fun i => [(9, .sc (.int .i64 i))])  [1, 7, 8] 0 (by simp) (by simp) (by simp) ?_
  rintro i ⟨hi, hall⟩ s hs
  simp at hs
  subst hs
  by_cases hlt : i < vs.length
  · have hv := List.getElem?_eq_getElem hlt
    refine go (L := _ ∧ _ ∧ _ ∧ True) (wa2 @V.cs.eq_1 @hlt) (wb1 (fun v0 (_ : True) => c_impl_cellKind v0)) wb0 wb0 wb0 ⟨fun _ _ hq => ?_, fun _ _ hq => ?_, fun _ _ => ?_, wb0⟩
    · rw [all_at hv (by simp_all [isBelow])]
    all_goals
      refine ⟨i + 1, ⟨⟨by omega, all_next hv (by simp_all [isBelow]) hall⟩, by first | omega | (simp only; omega) | assumption⟩, rfl, rfl, ?_, ?_⟩ <;> simp (disch := omega) [wrap64]
  · refine go (L := _ ∧ True) (wa1 @hlt) wb0 wb0 wb0 wb0 ⟨fun _ => ?_, wb0⟩
    rw [← hall, List.take_of_length_le (by omega)]
end Go.Own
namespace Go.Own
open Go.Lib
theorem contains_nil (sub : List UInt8) : contains [] sub = sub.isEmpty := by
  unfold contains index
  cases sub <;> simp
theorem contains_cons (b : UInt8) (l sub : List UInt8) : contains (b :: l) sub = (sub.isPrefixOf (b :: l) || contains l sub) := by
  unfold contains
  have := index_ge l sub
  rw [index]
  split
  · rename_i h; simp [h]
  · rename_i h
    simp only [h, Bool.false_or]
    split
    · rename_i h2
      have h2 : index l sub = -1 := by simpa using h2
      rw [h2]
    · rename_i h2
      have h2 : index l sub ≠ -1 := by simpa using h2
      by_cases h3 : 0 ≤ index l sub
      · rw [decide_eq_true h3, decide_eq_true (by omega)]
      · omega
theorem contains_skip (sub : List UInt8) : ∀ (w rest : List UInt8), 32 ∉ w → contains (w ++ rest) (32 :: sub) = contains rest (32 :: sub)
  | [], rest, _ => rfl
  | c :: w, rest, h => by
    simp only [List.mem_cons, not_or] at h
    rw [List.cons_append, contains_cons, contains_skip sub w rest h.2]
    have : (32 :: sub).isPrefixOf (c :: (w ++ rest)) = false := by
      simp only [List.isPrefixOf, Bool.and_eq_false_iff, beq_eq_false_iff_ne]
      exact .inl h.1
    rw [this, Bool.false_or]
theorem pre_eq : ∀ (s w rest : List UInt8), 32 ∉ s → 32 ∉ w → (s ++ [32]).isPrefixOf (w ++ 32 :: rest) = decide (s = w)
  | [], [], rest, _, _ => by simp
  | [], c :: w, rest, _, hw => by
    simp only [List.mem_cons, not_or] at hw
    simp [List.isPrefixOf, hw.1]
  | c :: s, [], rest, hs, _ => by
    simp only [List.mem_cons, not_or] at hs
    simp [List.isPrefixOf, Ne.symm hs.1]
  | c :: s, d :: w, rest, hs, hw => by
    simp only [List.mem_cons, not_or] at hs hw
    have ih := pre_eq s w rest hs.2 hw.2
    simp only [List.cons_append, List.isPrefixOf, ih]
    by_cases h : c = d <;> simp [h]
def rowOf (ws : List (List UInt8)) : List UInt8 := ws.flatMap (fun w => 32 :: w) ++ [32]
theorem row_head : ∀ ws : List (List UInt8), ∃ r, rowOf ws = 32 :: r
  | [] => ⟨[], rfl⟩
  | w :: ws => ⟨w ++ rowOf ws, by simp [rowOf]⟩
theorem contains_row (s : List UInt8) (hs : 32 ∉ s) (h0 : s ≠ []) : ∀ ws : List (List UInt8), (∀ w, w ∈ ws → 32 ∉ w) → contains (rowOf ws) (32 :: (s ++ [32])) = decide (s ∈ ws)
  | [], _ => by
    have : rowOf [] = [32] := rfl
    rw [this, contains_cons, contains_nil]
    cases s with
    | nil => exact absurd rfl h0
    | cons c s => simp [List.isPrefixOf]
  | w :: ws, h => by
    have hw := h w (by simp)
    have ih := contains_row s hs h0 ws (fun w hw => h w (by simp [hw]))
    have e : rowOf (w :: ws) = 32 :: (w ++ rowOf ws) := by simp [rowOf]
    rw [e, contains_cons, contains_skip _ _ _ hw, ih]
    obtain ⟨r, hr⟩ := row_head ws
    have : (32 :: (s ++ [32])).isPrefixOf (32 :: (w ++ rowOf ws)) = decide (s = w) := by
      rw [hr, List.isPrefixOf, pre_eq s w r hs hw]; simp
    rw [this]
    by_cases h1 : s = w <;> simp [h1]
theorem contains_one : ∀ (l : List UInt8) (c : UInt8), contains l [c] = decide (c ∈ l)
  | [], c => by rw [contains_nil]; simp
  | b :: l, c => by
    rw [contains_cons, contains_one l c]
    by_cases h : c = b
    · subst h; simp [List.isPrefixOf]
    · simp [List.isPrefixOf, h]
def oneOf (s list : ByteArray) : Bool :=
  decide (s ≠ ⟨#[]⟩) && !Lib.contains s.data.toList [32] && Lib.contains (⟨#[32]⟩ ++ list ++ ⟨#[32]⟩ : ByteArray).data.toList (⟨#[32]⟩ ++ s ++ ⟨#[32]⟩ : ByteArray).data.toList
theorem ba_ext {a b : ByteArray} (h : a.data.toList = b.data.toList) : a = b := by
  cases a; cases b; simp only [ByteArray.mk.injEq]; exact Array.toList_inj.1 h
def isW (ws : List ByteArray) (s : ByteArray) : Bool := ws.any fun w => decide (s = w)
theorem isW_iff {ws : List ByteArray} {s : ByteArray} : isW ws s = true ↔ s ∈ ws := by simp [isW]
theorem isW_not {ws : List ByteArray} {s : ByteArray} (h : s ∉ ws) : isW ws s = false := by
  rw [← Bool.not_eq_true, isW_iff]; exact h
theorem oneOf_eq (s list : ByteArray) (ws : List ByteArray) (h1 : 32 :: list.data.toList ++ [32] = rowOf (ws.map (·.data.toList))) (h2 : ∀ w, w ∈ ws → 32 ∉ w.data.toList) (h3 : (⟨#[]⟩ : ByteArray) ∉ ws) : oneOf s list = isW ws s := by
  have e1 : (⟨#[32]⟩ ++ list ++ ⟨#[32]⟩ : ByteArray).data.toList = 32 :: list.data.toList ++ [32] := by simp
  have e2 : (⟨#[32]⟩ ++ s ++ ⟨#[32]⟩ : ByteArray).data.toList = 32 :: (s.data.toList ++ [32]) := by simp
  unfold oneOf
  rw [e1, e2, h1, contains_one]
  by_cases g0 : s = ⟨#[]⟩
  · subst g0; rw [isW_not h3]; simp
  · by_cases g1 : 32 ∈ s.data.toList
    · have : s ∉ ws := fun hm => h2 s hm g1
      rw [isW_not this]; simp [g1]
    · rw [contains_row _ g1 (fun h => g0 (ba_ext (by simpa using h))) _ (fun w hw => by obtain ⟨x, hx, rfl⟩ := List.mem_map.1 hw; exact h2 x hx)]
      have hmem : s.data.toList ∈ ws.map (·.data.toList) ↔ s ∈ ws := by
        constructor
        · intro h; obtain ⟨x, hx, he⟩ := List.mem_map.1 h; exact ba_ext he ▸ hx
        · intro h; exact List.mem_map.2 ⟨s, h, rfl⟩
      by_cases h : s ∈ ws
      · rw [isW_iff.2 h]; simp only [decide_eq_true (hmem.2 h)]; simp [g0, g1]
      · rw [isW_not h]; simp only [decide_eq_false (fun x => h (hmem.1 x))]; simp
end Go.Own
set_option maxRecDepth 1000000
set_option maxHeartbeats 4000000
namespace Go.Own
attribute [local irreducible] WPc WPL WPS HAny endP
variable [Laid]
open Go.Lib
def w2 : List ByteArray := [⟨#[43]⟩, ⟨#[45]⟩, ⟨#[42]⟩, ⟨#[60]⟩, ⟨#[61]⟩, ⟨#[101, 113, 63]⟩, ⟨#[99, 111, 110, 115]⟩]
@[simp] theorem oneOf_w2 (s : ByteArray) : oneOf s ⟨#[43, 32, 45, 32, 42, 32, 60, 32, 61, 32, 101, 113, 63, 32, 99, 111, 110, 115]⟩ = isW w2 s := oneOf_eq _ _ _ (by decide +kernel) (by decide +kernel) (by simp [w2])
def w1 : List ByteArray := [⟨#[99, 97, 114]⟩, ⟨#[99, 100, 114]⟩, ⟨#[110, 117, 108, 108, 63]⟩, ⟨#[112, 97, 105, 114, 63]⟩, ⟨#[110, 111, 116]⟩, ⟨#[112, 114, 105, 110, 116]⟩, ⟨#[101, 114, 114, 111, 114]⟩, ⟨#[102, 105, 101, 108, 100]⟩, ⟨#[105, 115]⟩]
@[simp] theorem oneOf_w1 (s : ByteArray) : oneOf s ⟨#[99, 97, 114, 32, 99, 100, 114, 32, 110, 117, 108, 108, 63, 32, 112, 97, 105, 114, 63, 32, 110, 111, 116, 32, 112, 114, 105, 110, 116, 32, 101, 114, 114, 111, 114, 32, 102, 105, 101, 108, 100, 32, 105, 115]⟩ = isW w1 s := oneOf_eq _ _ _ (by decide +kernel) (by decide +kernel) (by simp [w1])
def wTyped : List ByteArray := [⟨#[112, 114, 105, 110, 116]⟩, ⟨#[101, 114, 114, 111, 114]⟩, ⟨#[102, 105, 101, 108, 100]⟩, ⟨#[105, 115]⟩]
@[simp] theorem oneOf_wTyped (s : ByteArray) : oneOf s ⟨#[112, 114, 105, 110, 116, 32, 101, 114, 114, 111, 114, 32, 102, 105, 101, 108, 100, 32, 105, 115]⟩ = isW wTyped s := oneOf_eq _ _ _ (by decide +kernel) (by decide +kernel) (by simp [wTyped])
def wWord : List ByteArray := [⟨#[113, 117, 111, 116, 101]⟩, ⟨#[105, 102]⟩, ⟨#[108, 97, 109, 98, 100, 97]⟩, ⟨#[98, 101, 103, 105, 110]⟩, ⟨#[115, 101, 116, 33]⟩, ⟨#[108, 101, 116]⟩, ⟨#[108, 101, 116, 42]⟩, ⟨#[99, 111, 110, 100]⟩, ⟨#[101, 108, 115, 101]⟩, ⟨#[97, 110, 100]⟩, ⟨#[111, 114]⟩, ⟨#[119, 104, 101, 110]⟩, ⟨#[100, 101, 102, 105, 110, 101]⟩]
@[simp] theorem oneOf_wWord (s : ByteArray) : oneOf s ⟨#[113, 117, 111, 116, 101, 32, 105, 102, 32, 108, 97, 109, 98, 100, 97, 32, 98, 101, 103, 105, 110, 32, 115, 101, 116, 33, 32, 108, 101, 116, 32, 108, 101, 116, 42, 32, 99, 111, 110, 100, 32, 101, 108, 115, 101, 32, 97, 110, 100, 32, 111, 114, 32, 119, 104, 101, 110, 32, 100, 101, 102, 105, 110, 101]⟩ = isW wWord s := oneOf_eq _ _ _ (by decide +kernel) (by decide +kernel) (by simp [wWord])
def arity (s : ByteArray) : Int := if isW w2 s = true then 2 else if isW w1 s = true then 1 else if s = ⟨#[109, 97, 107, 101]⟩ then 0 else -1
theorem c_impl_isOneOf [F : Facts.Of] (s list : ByteArray) (h1 : s.size < 4294967000) (h2 : list.size < 4294967000) : Con PP 193 [.sc (.string s), .sc (.string list)] [] [] (fun r o => r = .sc (.bool (oneOf s list))) := by
  have e1 : (⟨#[32]⟩ : ByteArray).size = 1 := rfl
  refine cof 21 Go.Proofs.Tryz.func193 fun G => ?_
  simp only [entSt, tmOf, List.append_nil, List.cons_append, List.nil_append]
  have s1 : SAdd ⟨#[32]⟩ list := by unfold SAdd; rw [e1]; omega
  have s2 : SAdd (⟨#[32]⟩ ++ list) ⟨#[32]⟩ := by unfold SAdd; simp only [ByteArray.size_append, e1]; omega
  have s3 : SAdd ⟨#[32]⟩ s := by unfold SAdd; rw [e1]; omega
  have s4 : SAdd (⟨#[32]⟩ ++ s) ⟨#[32]⟩ := by unfold SAdd; simp only [ByteArray.size_append, e1]; omega
  repeat' (first
    | apply WPc.sq
    | (refine WPc.ret (endP.val (.inr rfl) rfl rfl (by simp; rfl) ?_))
    | refine WPL.nil ?_
    | (apply WPL.cL (c_strings_Contains _ _ ?g1); (case q => (repeat' (first | refine And.intro ?_ ?_ | intro _ | (with_reducible exact cleanOut_nil) | (refine Eqv.mk ?_; first | rfl | (simp -implicitDefEqProofs [s1, s2, s3, s4]; done)) | (simp -implicitDefEqProofs [s1, s2, s3, s4]; done) | (simp -implicitDefEqProofs [s1, s2, s3, s4]; rfl) | (simp; done) | (simp; rfl) | rfl))); (case g1 => (first | omega | (simp only [ByteArray.size_append, e1]; omega))))
    | (refine WPL.call0f ?_ ?_ ?_; (focus (simp; done)); (focus (simp; done)))
    | ((first | refine WPc.rq tok rfl fun K hK => ?_ | refine WPL.rn tok _ (by simp [ahead, isFn]; rfl) fun K hK => ?_); simp -implicitDefEqProofs +contextual [-Int.not_le, -Int.not_lt, -Nat.not_le, -Nat.not_lt, -List.all_eq_true, -List.all_eq_false, -List.any_eq_true, -List.any_eq_false, s1, s2, s3, s4]; (repeat1' (first | apply hK | apply And.intro | intro _)) <;> clear hK K <;> (try dsimp only [List.drop]))
    | (refine WPc.region ?_; simp only [List.toList_toArray]))
  all_goals simp_all [oneOf]
theorem c_impl_Arity [F : Facts.Of] (s : ByteArray) (h1 : s.size < 4294967000) : Con PP 194 [.sc (.string s)] [] [] (fun r o => r = .sc (.int .i64 (arity s))) := by
  refine cof 12 Go.Proofs.Tryz.func194 fun G => ?_
  simp only [entSt, tmOf, List.append_nil, List.cons_append, List.nil_append]
  refine go (L := _ ∧ _ ∧ _ ∧ _ ∧ True) wb0 (wb1 (fun v0 v1 (h : _ ∧ _) => c_impl_isOneOf v0 v1 h.1 h.2)) wb0 wb0 wb0 ⟨fun _ hq => ?_, fun _ hq hq => ?_, fun _ hq hq hq => ?_, fun _ hq hq hq => ?_, wb0⟩
  all_goals simp_all [arity]
theorem c_spec_Arity (s : ByteArray) : Con PP 128 [.sc (.string s)] [] [] (fun r o => r = .sc (.int .i64 (arity s))) := by
  refine cof 24 Go.Proofs.Tryz.func128 fun G => ?_
  simp only [entSt, tmOf, List.append_nil, List.cons_append, List.nil_append]
  repeat' (first
    | apply WPc.sq
    | apply WPc.block
    | (refine WPc.ret (endP.val (.inr rfl) rfl rfl (by simp; rfl) ?_))
    | apply WPc.skip
    | (refine WPc.rq tok rfl fun K hK => ?_; simp -implicitDefEqProofs +contextual [-Int.not_le, -Int.not_lt, -Nat.not_le, -Nat.not_lt, -List.all_eq_true, -List.all_eq_false, -List.any_eq_true, -List.any_eq_false]; (repeat1' (first | apply hK | apply And.intro | intro _)) <;> clear hK K <;> (try dsimp only [List.drop]))
    | (refine WPc.condT ?_ ?_; (focus (simp; done)))
    | (refine WPc.cond (by simp [-Bool.not_eq_eq_eq_not]; rfl) (fun hq => ?_) (fun hq => ?_) <;> simp only [hq] <;> (try (exfalso; (simp only [decide_eq_true_eq, decide_eq_false_iff_not] at hq); omega))))
  all_goals simp_all [arity, isW, w1, w2]
def plainP (s : ByteArray) : Bool := decide (0 < arity s) && !isW wTyped s
def sC (s : ByteArray) : List C := [.sc (.string s)]
theorem c_spec_l3In (ws : List ByteArray) (s : ByteArray) : Con PP 124 [.fz (ws.map sC), .sc (.string s)] [] [] (fun r o => r = .sc (.bool (isW ws s))) := by
  refine cof 18 Go.Proofs.Tryz.func124 fun G => ?_
  simp only [entSt, tmOf, List.append_nil, List.cons_append, List.nil_append]
  refine WPc.len 0 (by simp; rfl) fun hlen => ?_
  simp at hlen
  refine go (L := _ ∧ True) wb0 wb0 wb0 wb0 wb0 ⟨fun _ => ?_, wb0⟩
  refine WPc.loopK (σ := Nat) (fun i => i ≤ ws.length ∧ (ws.take i).any (fun w => decide (s = w)) = false) (fun i => ws.length - i) (fun i => [(5, .sc (.int .i64 i))])  [0, 1] 0 (by simp) (by simp) (by simp) ?_
  rintro i ⟨hi, hall⟩ s hs
  simp at hs
  subst hs
  by_cases hlt : i < ws.length
  · have hv := List.getElem?_eq_getElem hlt
    refine go (L := _ ∧ _ ∧ True) (wa2 @hlt @sC.eq_1) wb0 wb0 wb0 wb0 ⟨fun _ hq => ?_, fun _ hq => ?_, wb0⟩
    · rw [isW, any_at hv (by simp_all)]
    all_goals
      refine ⟨i + 1, ⟨⟨by omega, any_next hv (by simp at hq ⊢; exact fun e => hq e.symm) hall⟩, by first | omega | (simp only; omega) | assumption⟩, rfl, rfl, ?_, ?_⟩ <;> simp (disch := omega) [wrap64]
  · refine go (L := _ ∧ True) (wa1 @hlt) wb0 wb0 wb0 wb0 ⟨fun _ => ?_, wb0⟩
    rw [List.take_of_length_le (by omega)] at hall
    rw [isW, hall]
theorem c_spec_l3In_word (s : ByteArray) : Con PP 124 [.fz [[.sc (.string ⟨#[113, 117, 111, 116, 101]⟩)], [.sc (.string ⟨#[105, 102]⟩)], [.sc (.string ⟨#[108, 97, 109, 98, 100, 97]⟩)], [.sc (.string ⟨#[98, 101, 103, 105, 110]⟩)], [.sc (.string ⟨#[115, 101, 116, 33]⟩)], [.sc (.string ⟨#[108, 101, 116]⟩)], [.sc (.string ⟨#[108, 101, 116, 42]⟩)], [.sc (.string ⟨#[99, 111, 110, 100]⟩)], [.sc (.string ⟨#[101, 108, 115, 101]⟩)], [.sc (.string ⟨#[97, 110, 100]⟩)], [.sc (.string ⟨#[111, 114]⟩)], [.sc (.string ⟨#[119, 104, 101, 110]⟩)], [.sc (.string ⟨#[100, 101, 102, 105, 110, 101]⟩)]], .sc (.string s)] [] [] (fun r o => r = .sc (.bool (isW wWord s))) := c_spec_l3In wWord s
theorem c_spec_l3Word (s : ByteArray) : Con PP 127 [.sc (.string s)] [] [] (fun r o => r = .sc (.bool (isW wWord s))) := by
  refine cof 6 Go.Proofs.Tryz.func127 fun G => ?_
  simp only [entSt, tmOf, List.append_nil, List.cons_append, List.nil_append]
  refine go (L := _ ∧ True) (wa1 @sC.eq_1) (wb1 (fun v0 (_ : True) => c_spec_l3In_word v0)) wb0 wb0 wb0 ⟨fun _ => ?_, wb0⟩
  all_goals rfl
end Go.Own
set_option maxRecDepth 1000000
set_option maxHeartbeats 4000000
namespace Go.Own
attribute [local irreducible] WPc WPL WPS HAny endP
variable [Laid]
open Go.Lib
@[simp] theorem bt_nonneg (s : ByteArray) (i : Int) : 0 ≤ bt s i := by unfold bt; split <;> omega
@[simp] theorem bt_le (s : ByteArray) (i : Int) : bt s i ≤ 255 := by
  unfold bt; split
  · have := (s[i.toNat]'(by assumption)).toNat_lt; omega
  · omega
def dec (n : Int) : ByteArray := ⟨(itoa n).toArray⟩
theorem c_impl_Dec [F : Facts.Of] (n : Int) (h0 : -9223372036854775808 ≤ n) (h1 : n ≤ 9223372036854775807) : Con PP 228 [.sc (.int .i64 n)] [] [] (fun r o => r = .sc (.string (dec n))) := by
  refine cof 5 Go.Proofs.Tryz.func228 fun G => ?_
  simp only [entSt, tmOf, List.append_nil, List.cons_append, List.nil_append]
  refine go (L := _ ∧ True) wb0 (wb1 (fun v0 (h : _ ∧ _) => c_strconv_Itoa v0 h.1 h.2)) wb0 wb0 wb0 ⟨fun _ => ?_, wb0⟩
  all_goals rfl
def isDigit (c : Int) : Bool := decide (48 ≤ c) && decide (c ≤ 57)
def isSym (c : Int) : Bool := decide (97 ≤ c) && decide (c ≤ 122) || isDigit c || [33, 63, 42, 47, 60, 61, 62, 43, 45, 95].contains c
theorem sym_impl : ∀ n : Fin 256, ((decide (97 ≤ (n.val : Int)) && decide ((n.val : Int) ≤ 122)) || (decide (48 ≤ (n.val : Int)) && decide ((n.val : Int) ≤ 57)) || decide (0 ≤ Lib.indexByte [33, 63, 42, 47, 60, 61, 62, 43, 45, 95] (n.val : Int).toNat.toUInt8)) = isSym n.val := by decide +kernel
theorem c_impl_isSymByte (c : Int) (h0 : 0 ≤ c) (h1 : c ≤ 255) : Con PP 197 [.sc (.int .u8 c)] [] [] (fun r o => r = .sc (.bool (isSym c))) := by
  have key := sym_impl ⟨c.toNat, by omega⟩
  simp only [show ((c.toNat : Nat) : Int) = c by omega] at key
  rw [← key]
  refine cof 22 Go.Proofs.Tryz.func197 fun G => ?_
  simp only [entSt, tmOf, List.append_nil, List.cons_append, List.nil_append]
  refine go (L := _ ∧ _ ∧ _ ∧ _ ∧ _ ∧ _ ∧ _ ∧ True) wb0 (wb1 (fun v0 v1 (_ : True) => c_strings_IndexByte v0 v1)) wb0 wb0 wb0 ⟨fun _ _ _ _ _ => ?_, fun _ _ _ _ _ => ?_, fun _ _ _ _ => ?_, fun _ _ _ => ?_, fun _ _ _ _ => ?_, fun _ _ _ _ => ?_, fun _ _ _ => ?_, wb0⟩
  all_goals (simp_all; try omega)
theorem c_spec_l2Digit (c : Int) : Con PP 182 [.sc (.int .u8 c)] [] [] (fun r o => r = .sc (.bool (isDigit c))) := by
  refine cof 9 Go.Proofs.Tryz.func182 fun G => ?_
  simp only [entSt, tmOf, List.append_nil, List.cons_append, List.nil_append]
  refine go (L := _ ∧ _ ∧ True) wb0 wb0 wb0 wb0 wb0 ⟨fun _ _ => ?_, fun _ _ => ?_, wb0⟩
  all_goals (simp_all [isDigit]; try omega)
def inSet (b : Int) (s : ByteArray) : Bool := (List.range s.size).any fun i => decide (bt s i = b)
theorem c_spec_l2In (b : Int) (s : ByteArray) (hs : s.size ≤ 9223372036854775807) : Con PP 215 [.sc (.int .u8 b), .sc (.string s)] [] [] (fun r o => r = .sc (.bool (inSet b s))) := by
  refine cof 17 Go.Proofs.Tryz.func215 fun G => ?_
  simp only [entSt, tmOf, List.append_nil, List.cons_append, List.nil_append]
  refine go (L := _ ∧ True) wb0 wb0 wb0 wb0 wb0 ⟨fun _ => ?_, wb0⟩
  refine WPc.loopK (σ := Nat) (fun i => i ≤ s.size ∧ ((List.range s.size).take i).any (fun i => decide (bt s i = b)) = false) (fun i => s.size - i) (fun i => [(5, .sc (.int .i64 i))])  [0, 1] 0 (by simp) (by simp) (by simp) ?_
  rintro i ⟨hi, hall⟩ s hs
  simp at hs
  subst hs
  by_cases hlt : i < s.size
  · have hv : (List.range s.size)[i]? = some i := List.getElem?_range hlt
    refine go (L := _ ∧ _ ∧ True) (wa1 @hlt) wb0 wb0 wb0 wb0 ⟨fun _ hq => ?_, fun _ hq => ?_, wb0⟩
    · rw [inSet, any_at hv (by simp_all)]
    all_goals
      refine ⟨i + 1, ⟨⟨by omega, any_next hv (by simp_all) hall⟩, by first | omega | (simp only; omega) | assumption⟩, rfl, rfl, ?_, ?_⟩ <;> simp (disch := omega) [wrap64]
  · refine go (L := _ ∧ True) (wa1 @hlt) wb0 wb0 wb0 wb0 ⟨fun _ => ?_, wb0⟩
    rw [List.take_of_length_le (by simp; omega)] at hall
    rw [inSet, hall]
theorem sym_spec : ∀ n : Fin 256, ((decide (97 ≤ (n.val : Int)) && decide ((n.val : Int) ≤ 122)) || isDigit n.val || inSet n.val ⟨#[33, 63, 42, 47, 60, 61, 62, 43, 45, 95]⟩) = isSym n.val := by decide +kernel
theorem c_spec_l2Sign (c : Int) (h0 : 0 ≤ c) (h1 : c ≤ 255) : Con PP 183 [.sc (.int .u8 c)] [] [] (fun r o => r = .sc (.bool (isSym c))) := by
  have key := sym_spec ⟨c.toNat, by omega⟩
  simp only [show ((c.toNat : Nat) : Int) = c by omega] at key
  rw [← key]
  refine cof 17 Go.Proofs.Tryz.func183 fun G => ?_
  simp only [entSt, tmOf, List.append_nil, List.cons_append, List.nil_append]
  refine go (L := _ ∧ _ ∧ _ ∧ _ ∧ _ ∧ True) wb0 (wb2 (fun v0 (_ : True) => c_spec_l2Digit v0) (fun v0 v1 (h : _) => c_spec_l2In v0 v1 h)) wb0 wb0 wb0 ⟨fun _ _ _ _ => ?_, fun _ _ _ _ => ?_, fun _ _ _ => ?_, fun _ _ _ => ?_, fun _ _ _ => ?_, wb0⟩
  all_goals (simp_all; try omega)
end Go.Own
namespace Go.Own
open Go.Lib
def isDigB (c : UInt8) : Bool := decide (48 ≤ c.toNat) && decide (c.toNat ≤ 57)
def foldD (acc : Nat) (l : List UInt8) : Nat := l.foldl (fun n c => if isDigB c then n * 10 + (c.toNat - 48) else n) acc
def cntD (l : List UInt8) : Nat := l.countP isDigB
def decVal (l : List UInt8) : Int := if l.head? = some 45 then -(foldD 0 l : Int) else foldD 0 l
def readDec (l : List UInt8) : Option Int := if itoa (decVal l) = l ∧ -999999999 ≤ decVal l ∧ decVal l ≤ 999999999 then some (decVal l) else none
theorem foldD_append (acc : Nat) (a b : List UInt8) : foldD acc (a ++ b) = foldD (foldD acc a) b := by simp [foldD]
theorem dig_toNat {d : Nat} (h : d < 10) : (UInt8.ofNat (48 + d)).toNat = 48 + d := by simp [UInt8.toNat_ofNat']; omega
theorem dig_isDig {d : Nat} (h : d < 10) : isDigB (UInt8.ofNat (48 + d)) = true := by
  unfold isDigB; rw [dig_toNat h]; simp; omega
theorem dec_all : ∀ (u : Nat) (c : UInt8), c ∈ decDigits u → isDigB c = true := by
  intro u
  induction u using Nat.strongRecOn with
  | _ u ih =>
    intro c hc
    rw [decDigits] at hc
    split at hc
    · rename_i h
      simp only [List.mem_cons, List.not_mem_nil, or_false] at hc
      subst hc; exact dig_isDig h
    · rcases List.mem_append.1 hc with hc | hc
      · exact ih _ (by omega) c hc
      · simp only [List.mem_cons, List.not_mem_nil, or_false] at hc
        subst hc; exact dig_isDig (Nat.mod_lt _ (by omega))
theorem foldD_dec : ∀ u, foldD 0 (decDigits u) = u := by
  intro u
  induction u using Nat.strongRecOn with
  | _ u ih =>
    rw [decDigits]
    split
    · rename_i h
      simp only [foldD, List.foldl_cons, List.foldl_nil, dig_isDig h, if_true, dig_toNat h]; omega
    · rename_i h
      rw [foldD_append, ih _ (by omega)]
      have h2 : u % 10 < 10 := Nat.mod_lt _ (by omega)
      simp only [foldD, List.foldl_cons, List.foldl_nil, dig_isDig h2, if_true, dig_toNat h2]; omega
theorem cnt_all {l : List UInt8} (h : ∀ c, c ∈ l → isDigB c = true) : cntD l = l.length := List.countP_eq_length.2 h
theorem cnt_dec (u : Nat) : cntD (decDigits u) = nDigits u := by rw [cnt_all (dec_all u), decDigits_length]
theorem nDigits_le : ∀ (k u : Nat), 1 ≤ k → u < 10 ^ k → nDigits u ≤ k
  | 0, u, h, _ => by omega
  | 1, u, _, h => by rw [nDigits_small (by simpa using h)]; exact Nat.le_refl _
  | k + 2, u, _, h => by
    by_cases hu : u < 10
    · rw [nDigits_small hu]; omega
    · rw [nDigits_big hu]
      have := nDigits_le (k + 1) (u / 10) (by omega) (by rw [Nat.pow_succ] at h; omega)
      omega
theorem nDigits_9 (u : Nat) : nDigits u ≤ 9 ↔ u ≤ 999999999 := by
  constructor
  · intro h
    have h1 := lt_pow_nDigits u
    have h2 : 10 ^ nDigits u ≤ 10 ^ 9 := Nat.pow_le_pow_right (by omega) h
    omega
  · intro h; exact nDigits_le 9 u (by omega) (by omega)
theorem decDigits_ne (u : Nat) : decDigits u ≠ [] := fun h => by
  have h1 := decDigits_length u
  rw [h] at h1
  have h2 := nDigits_pos u
  simp at h1; omega
theorem minus_not : isDigB 45 = false := by decide
theorem head_dec (u : Nat) : (decDigits u).head? ≠ some 45 := fun h => by
  have hm : (45 : UInt8) ∈ decDigits u := List.mem_of_head? h
  have := dec_all u _ hm
  rw [minus_not] at this
  exact absurd this (by simp)
theorem decVal_itoa (n : Int) : decVal (itoa n) = n := by
  unfold itoa decVal
  split
  · simp only [List.head?_cons, if_true]
    have : foldD 0 (45 :: decDigits n.natAbs) = foldD 0 (decDigits n.natAbs) := by simp [foldD, minus_not]
    rw [this, foldD_dec]; omega
  · rw [if_neg (head_dec _), foldD_dec]; omega
theorem readDec_itoa {n : Int} (h0 : -999999999 ≤ n) (h1 : n ≤ 999999999) : readDec (itoa n) = some n := by
  unfold readDec; rw [decVal_itoa, if_pos ⟨rfl, h0, h1⟩]
theorem readDec_some {l : List UInt8} {n : Int} : readDec l = some n ↔ itoa n = l ∧ -999999999 ≤ n ∧ n ≤ 999999999 := by
  constructor
  · intro h
    unfold readDec at h
    split at h
    · injection h with h; subst h; assumption
    · simp at h
  · rintro ⟨rfl, h0, h1⟩; exact readDec_itoa h0 h1
theorem cnt_itoa (n : Int) : cntD (itoa n) = nDigits n.natAbs := by
  unfold itoa
  split
  · simp only [cntD, List.countP_cons, minus_not]
    exact cnt_dec _
  · rw [cnt_dec]; congr 1; omega
theorem len_itoa (n : Int) : (itoa n).length = nDigits n.natAbs + if n < 0 then 1 else 0 := by
  unfold itoa
  split
  · simp [decDigits_length]
  · rw [decDigits_length, Nat.add_zero]; congr 1; omega
theorem foldD_mono (l : List UInt8) : ∀ acc, (∀ c, c ∈ l → isDigB c = true) → acc ≤ foldD acc l := by
  induction l with
  | nil => intro acc _; exact Nat.le_refl _
  | cons c l ih =>
    intro acc h
    have hc := h c (by simp)
    have := ih (acc * 10 + (c.toNat - 48)) (fun c hc => h c (by simp [hc]))
    have e : foldD acc (c :: l) = foldD (acc * 10 + (c.toNat - 48)) l := by simp [foldD, hc]
    rw [e]; omega
theorem parse_fold : ∀ (l : List UInt8) (acc : Nat), (∀ c, c ∈ l → isDigB c = true) → foldD acc l < 18446744073709551616 → parseUint10 acc l = .ok (foldD acc l)
  | [], acc, _, _ => rfl
  | c :: l, acc, h, hlt => by
    have hc := h c (by simp)
    have hl : ∀ c, c ∈ l → isDigB c = true := fun c hc => h c (by simp [hc])
    have e : foldD acc (c :: l) = foldD (acc * 10 + (c.toNat - 48)) l := by simp [foldD, hc]
    rw [e] at hlt ⊢
    have hm := foldD_mono l (acc * 10 + (c.toNat - 48)) hl
    simp only [isDigB, Bool.and_eq_true, decide_eq_true_eq] at hc
    rw [parseUint10, if_pos hc, if_neg (by omega), if_neg (by omega)]
    exact parse_fold l _ hl hlt
theorem atoi_itoa {n : Int} (h0 : -999999999 ≤ n) (h1 : n ≤ 999999999) : atoiAll (itoa n) = .ok n := by
  unfold itoa
  split
  · rename_i hn
    unfold atoiAll
    simp only [show (45 : UInt8).toNat = 45 from rfl, or_true, if_true, true_and, not_true, false_and, if_false]
    have hp := parse_fold (decDigits n.natAbs) 0 (dec_all _) (by rw [foldD_dec]; omega)
    unfold parseMag
    rw [if_neg (decDigits_ne _), hp, foldD_dec]
    simp only
    rw [if_neg (by omega)]
    congr 1; omega
  · rename_i hn
    have hp := parse_fold (decDigits n.toNat) 0 (dec_all _) (by rw [foldD_dec]; omega)
    have hall := dec_all n.toNat
    have hne := decDigits_ne n.toNat
    rw [foldD_dec] at hp
    generalize decDigits n.toNat = l at hp hall hne
    cases l with
    | nil => exact absurd rfl hne
    | cons c r =>
      have hc := hall c (by simp)
      simp only [isDigB, Bool.and_eq_true, decide_eq_true_eq] at hc
      unfold atoiAll
      simp only
      rw [if_neg (by omega)]
      unfold parseMag
      rw [if_neg (by simp), hp]
      simp only
      rw [if_neg (by omega), if_neg (by omega), if_neg (by omega)]
      congr 1; omega
end Go.Own
namespace Go.Own
open Go.Lib
theorem trim_itoa (n : Int) : (trimPrefix (itoa n) [45]).length = nDigits n.natAbs := by
  unfold trimPrefix itoa
  split
  · simp [hasPrefix, decDigits_length, List.isPrefixOf]
  · have hh := head_dec n.toNat
    have hn : n.toNat = n.natAbs := by omega
    rw [hn] at hh ⊢
    cases hd : decDigits n.natAbs with
    | nil => exact absurd hd (decDigits_ne _)
    | cons c r =>
      rw [hd] at hh
      simp only [List.head?_cons, ne_eq, Option.some.injEq] at hh
      have : hasPrefix (c :: r) [45] = false := by
        simp [hasPrefix, List.isPrefixOf]; exact fun h => hh h.symm
      rw [this]
      simp only [Bool.false_eq_true, if_false]
      rw [← hd, decDigits_length]
theorem readDec_none_len {l : List UInt8} (h : ¬ (1 ≤ (trimPrefix l [45]).length ∧ (trimPrefix l [45]).length ≤ 9)) : readDec l = none := by
  cases hr : readDec l with
  | none => rfl
  | some n =>
    obtain ⟨rfl, h0, h1⟩ := readDec_some.1 hr
    rw [trim_itoa] at h
    exact absurd ⟨nDigits_pos _, (nDigits_9 _).2 (by omega)⟩ h
theorem readDec_ok {l : List UInt8} {v : Int} (h : (trimPrefix l [45]).length ≤ 9) (hv : itoa v = l) : readDec l = some v := by
  subst hv
  rw [trim_itoa] at h
  have := (nDigits_9 _).1 h
  exact readDec_itoa (by omega) (by omega)
theorem readDec_off {l : List UInt8} {v : Int} (h : atoiAll l = .ok v) (hv : itoa v ≠ l) : readDec l = none := by
  cases hr : readDec l with
  | none => rfl
  | some n =>
    obtain ⟨rfl, h0, h1⟩ := readDec_some.1 hr
    rw [atoi_itoa h0 h1] at h
    injection h with h
    subst h
    exact absurd rfl hv
theorem readDec_bad {l : List UInt8} (h : ∀ v, atoiAll l ≠ .ok v) : readDec l = none := by
  cases hr : readDec l with
  | none => rfl
  | some n =>
    obtain ⟨rfl, h0, h1⟩ := readDec_some.1 hr
    exact absurd (atoi_itoa h0 h1) (h n)
def ddig (m : Int) : List UInt8 := if m = 0 then [] else decDigits m.natAbs
theorem ddig_step {m : Int} (h : m ≠ 0) : ddig m = ddig (m.tdiv 10) ++ [UInt8.ofNat (48 + m.natAbs % 10)] := by
  have h1 : (m.tdiv 10).natAbs = m.natAbs / 10 := by rw [Int.natAbs_tdiv]; rfl
  unfold ddig
  rw [if_neg h, decDigits]
  split
  · rename_i hlt
    rw [if_pos (by omega)]
    simp [Nat.mod_eq_of_lt hlt]
  · rw [if_neg (by omega), h1]
theorem tmod_abs (m : Int) : (m.tmod 10).natAbs = m.natAbs % 10 := by rw [Int.natAbs_tmod]; rfl
theorem foldD_lt : ∀ (l : List UInt8), foldD 0 l < 10 ^ l.length := by
  intro l
  induction h : l.length generalizing l with
  | zero => have := List.eq_nil_of_length_eq_zero h; subst this; simp [foldD]
  | succ n ih =>
    have hne : l ≠ [] := fun e => by subst e; simp at h
    rw [← List.dropLast_concat_getLast hne, foldD_append]
    have := ih l.dropLast (by simp [h])
    simp only [foldD, List.foldl_cons, List.foldl_nil] at this ⊢
    rw [Nat.pow_succ]
    split
    · rename_i hd
      simp only [isDigB, Bool.and_eq_true, decide_eq_true_eq] at hd
      omega
    · omega
theorem foldD_snoc {l : List UInt8} {i : Nat} {c : UInt8} (h : l[i]? = some c) : foldD 0 (l.take (i + 1)) = if isDigB c then foldD 0 (l.take i) * 10 + (c.toNat - 48) else foldD 0 (l.take i) := by
  rw [List.take_add_one, h, Option.toList_some, foldD_append]; simp [foldD]
theorem cntD_snoc {l : List UInt8} {i : Nat} {c : UInt8} (h : l[i]? = some c) : cntD (l.take (i + 1)) = if isDigB c then cntD (l.take i) + 1 else cntD (l.take i) := by
  rw [List.take_add_one, h, Option.toList_some, cntD, List.countP_append]; simp [cntD, List.countP_cons]; split <;> simp
theorem readDec_spec {l : List UInt8} (hl : l.length ≤ 10) (hk : cntD l ≤ 9) (h : itoa (decVal l) = l) : readDec l = some (decVal l) := by
  have h1 := cnt_itoa (decVal l)
  rw [h] at h1
  have := (nDigits_9 (decVal l).natAbs).1 (by omega)
  exact readDec_some.2 ⟨h, by omega, by omega⟩
theorem readDec_spec_no {l : List UInt8} (h : ¬ (l.length ≤ 10 ∧ cntD l ≤ 9 ∧ itoa (decVal l) = l)) : readDec l = none := by
  cases hr : readDec l with
  | none => rfl
  | some n =>
    obtain ⟨rfl, h0, h1⟩ := readDec_some.1 hr
    have h2 := (nDigits_9 n.natAbs).2 (by omega)
    refine absurd ⟨?_, ?_, ?_⟩ h
    · rw [len_itoa]; split <;> omega
    · rw [cnt_itoa]; exact h2
    · rw [decVal_itoa]
end Go.Own
set_option maxRecDepth 1000000
set_option maxHeartbeats 4000000
namespace Go.Own
attribute [local irreducible] WPc WPL WPS HAny endP
variable [Laid]
open Go.Lib Go.RowKit
theorem Con.lib2 {f : Nat} {fn : Func} {vals : List Value} {Φ : AV → List (Nat × Root) → Prop} (hf : PP.funcs[f]? = some fn) (hn : (fn.name == "runtime.NumGoroutine") = false) (hb : fn.body.isNone = false)
    (h : ∀ w, Laid.ok w → Calls PP f vals.toArray w (fun e w' => ∃ u v, e = .returned (.tuple #[u, v]) ∧ Φ (.tup [.sc u, .sc v]) [] ∧ Below w.heap.size w w')) : Con PP f (vals.map .sc) [] [] Φ := by
  refine ⟨⟨fn, hf, hn, hb⟩, fun β w args hl h1 h2 h3 h4 h5 => ?_⟩
  have := args_of h1 h2
  subst this
  refine (h w hl.ok).mono fun e w' ⟨u, v, he, hv, hbl⟩ => ⟨.tuple #[u, v], .tup [.sc u, .sc v], [], β, he, ?_⟩
  exact { ok := hv, res := .tup _ _ (fun n => #[u, v].getD n undef) rfl (fun n x hx => by
            match n, hx with
            | 0, hx => rfl
            | 1, hx => rfl
            | n + 2, hx => simp at hx) (fun n x hx => by
            match n, hx with
            | 0, hx => simp at hx; subst hx; exact .sc _
            | 1, hx => simp at hx; subst hx; exact .sc _
            | n + 2, hx => simp at hx),
          ob := fun id e k es hl => by simp [lo] at hl, uq := h4, lt := fun b x hb => Nat.lt_of_lt_of_le (h5 b x hb) hbl.size, keep := fun i hi => by simp at hi,
          fr := fun b hb _ => hbl.block b hb, old := fun b x hb _ => by rw [hb]; simp, hs := hbl.size, os := hbl.os, tape := hbl.tape, output := hbl.output,
          to := fun b id p hb _ => ⟨hb, hbl.block b (h5 b _ hb)⟩, back := fun b id p hb _ => hb }
theorem k_Atoi_ok (s : ByteArray) (hmax : s.size ≤ 9223372036854775806) (v : Int) (h : atoiAll s.data.toList = .ok v) : Con PP 227 [.sc (.string s)] [] [] (fun r o => r = .tup [.sc (.int .i64 v), .sc .nilIface]) :=
  Con.lib2 (vals := [.string s]) Go.Proofs.Tryz.func227 (by kernel_rfl) (by kernel_rfl) fun w _ => (Go.Proofs.Tryz.strconv_Atoi_ok s hmax v h w).mono fun e w' ⟨h1, h2⟩ => ⟨_, _, h1, rfl, by
    rcases h2 with rfl | ⟨t, rfl⟩
    · exact Below.refl _ _
    · exact bytesWorld_below _ _ _⟩
theorem k_Atoi_bad [F : Facts.Of] (s : ByteArray) (hmax : s.size ≤ 281474976710656) (h : ∀ v, atoiAll s.data.toList ≠ .ok v) : Con PP 227 [.sc (.string s)] [] [] (fun r o => ∃ y : Int × Nat × Value, True ∧ r = .tup [.sc (.int .i64 y.1), .sc (.iface y.2.1 y.2.2)] ∧ o = []) :=
  Con.lib2 (vals := [.string s]) Go.Proofs.Tryz.func227 (by kernel_rfl) (by kernel_rfl) fun w hw => by
    rcases ha : atoiAll s.data.toList with v | _ | _
    · exact absurd ha (h v)
    · obtain ⟨ev, h1, h2⟩ := (F.facts w hw).syn
      exact (Go.Proofs.Tryz.strconv_Atoi_syntax s hmax (ha.trans rfl) ev w h1 h2).mono fun e w' ⟨N, g1, g2, g3, g4⟩ => ⟨_, _, g1, ⟨(_, _, _), trivial, rfl, rfl⟩, g4⟩
    · obtain ⟨ev, h1, h2⟩ := (F.facts w hw).rng
      exact (Go.Proofs.Tryz.strconv_Atoi_range s hmax ha ev w h1 h2).mono fun e w' ⟨N, g1, g2, g3, g4⟩ => ⟨_, _, g1, ⟨(_, _, _), trivial, rfl, rfl⟩, g4⟩
def rd (s : ByteArray) : Option Int := readDec s.data.toList
theorem dec_ne {v : Int} {s : ByteArray} : dec v = s ↔ itoa v = s.data.toList := by
  constructor
  · rintro rfl; simp [dec]
  · intro h; unfold dec; exact ba_ext (by simp [h])
theorem c_impl_ReadDec [F : Facts.Of] (s : ByteArray) (h1 : s.size ≤ 281474976710656) : Con PP 198 [.sc (.string s)] [] [] (fun r o => r = .tup [.sc (.int .i64 ((rd s).getD 0)), .sc (.bool (rd s).isSome)]) := by
  by_cases hlen : 1 ≤ (trimPrefix s.data.toList [45]).length ∧ (trimPrefix s.data.toList [45]).length ≤ 9
  · have hin : inRange ((trimPrefix s.data.toList [45]).length : Nat) 1 9 = true := by simp [inRange]; omega
    by_cases hok : ∃ v, atoiAll s.data.toList = .ok v
    · obtain ⟨v, hv⟩ := hok
      obtain ⟨b1, b2⟩ := atoiAll_bounds hv
      have hr : rd s = if dec v = s then some v else none := by
        split
        · rename_i h; exact readDec_ok hlen.2 (dec_ne.1 h)
        · rename_i h; exact readDec_off hv (fun e => h (dec_ne.2 e))
      rw [hr]
      have kA := k_Atoi_ok s (by omega) v hv
      refine cof 27 Go.Proofs.Tryz.func198 fun G => ?_
      simp only [entSt, tmOf, List.append_nil, List.cons_append, List.nil_append]
      repeat' (first
        | apply WPc.sq
        | (refine WPc.ret (endP.val (.inr rfl) rfl rfl (by simp; rfl) ?_))
        | apply WPc.skip
        | refine WPL.nil ?_
        | (apply WPL.cL (c_strings_TrimPrefix _ _); (case q => (repeat' (first | refine And.intro ?_ ?_ | intro _ | (with_reducible exact cleanOut_nil) | (refine Eqv.mk ?_; first | rfl | (simp -implicitDefEqProofs [hin, ByteArray.size]; done)) | (simp -implicitDefEqProofs [hin, ByteArray.size]; done) | (simp -implicitDefEqProofs [hin, ByteArray.size]; rfl) | (simp; done) | (simp; rfl) | rfl))))
        | (apply WPL.cL (c_impl_inRange _ _ _); (case q => (repeat' (first | refine And.intro ?_ ?_ | intro _ | (with_reducible exact cleanOut_nil) | (refine Eqv.mk ?_; first | rfl | (simp -implicitDefEqProofs [hin, ByteArray.size]; done)) | (simp -implicitDefEqProofs [hin, ByteArray.size]; done) | (simp -implicitDefEqProofs [hin, ByteArray.size]; rfl) | (simp; done) | (simp; rfl) | rfl))))
        | (apply WPL.cL kA; (case q => (repeat' (first | refine And.intro ?_ ?_ | intro _ | (with_reducible exact cleanOut_nil) | (refine Eqv.mk ?_; first | rfl | (simp -implicitDefEqProofs [hin, ByteArray.size]; done)) | (simp -implicitDefEqProofs [hin, ByteArray.size]; done) | (simp -implicitDefEqProofs [hin, ByteArray.size]; rfl) | (simp; done) | (simp; rfl) | rfl))))
        | (apply WPL.cL (c_impl_Dec _ ?g1 ?g2); (case q => (repeat' (first | refine And.intro ?_ ?_ | intro _ | (with_reducible exact cleanOut_nil) | (refine Eqv.mk ?_; first | rfl | (simp -implicitDefEqProofs [hin, ByteArray.size]; done)) | (simp -implicitDefEqProofs [hin, ByteArray.size]; done) | (simp -implicitDefEqProofs [hin, ByteArray.size]; rfl) | (simp; done) | (simp; rfl) | rfl))); (case g1 => (first | assumption | omega | decide | (simp; done) | (simp_all; done) | (intros; omega))); (case g2 => (first | assumption | omega | decide | (simp; done) | (simp_all; done) | (intros; omega))))
        | ((first | refine WPc.rq tok rfl fun K hK => ?_ | refine WPL.rn tok _ (by simp [ahead, isFn]; rfl) fun K hK => ?_); simp -implicitDefEqProofs +contextual [-Int.not_le, -Int.not_lt, -Nat.not_le, -Nat.not_lt, -List.all_eq_true, -List.all_eq_false, -List.any_eq_true, -List.any_eq_false, hin, ByteArray.size]; (repeat1' (first | apply hK | apply And.intro | intro _)) <;> clear hK K <;> (try dsimp only [List.drop]))
        | (refine WPc.region ?_; simp only [List.toList_toArray])
        | (refine WPc.condF ?_ ?_; (focus (simp; done)))
        | (refine WPc.cond (by simp [-Bool.not_eq_eq_eq_not]; rfl) (fun hq => ?_) (fun hq => ?_) <;> simp only [hq] <;> (try (exfalso; (simp only [decide_eq_true_eq, decide_eq_false_iff_not] at hq); omega))))
      all_goals simp_all
    · have hr : rd s = none := readDec_bad fun v h => hok ⟨v, h⟩
      rw [hr]
      have kA := k_Atoi_bad s h1 fun v h => hok ⟨v, h⟩
      refine cof 27 Go.Proofs.Tryz.func198 fun G => ?_
      simp only [entSt, tmOf, List.append_nil, List.cons_append, List.nil_append]
      repeat' (first
        | apply WPc.sq
        | (refine WPc.ret (endP.val (.inr rfl) rfl rfl (by simp; rfl) ?_))
        | apply WPc.skip
        | refine WPL.nil ?_
        | (apply WPL.cL (c_strings_TrimPrefix _ _); (case q => (repeat' (first | refine And.intro ?_ ?_ | intro _ | (with_reducible exact cleanOut_nil) | (refine Eqv.mk ?_; first | rfl | (simp -implicitDefEqProofs [hin, ByteArray.size]; done)) | (simp -implicitDefEqProofs [hin, ByteArray.size]; done) | (simp -implicitDefEqProofs [hin, ByteArray.size]; rfl) | (simp; done) | (simp; rfl) | rfl))))
        | (apply WPL.cL (c_impl_inRange _ _ _); (case q => (repeat' (first | refine And.intro ?_ ?_ | intro _ | (with_reducible exact cleanOut_nil) | (refine Eqv.mk ?_; first | rfl | (simp -implicitDefEqProofs [hin, ByteArray.size]; done)) | (simp -implicitDefEqProofs [hin, ByteArray.size]; done) | (simp -implicitDefEqProofs [hin, ByteArray.size]; rfl) | (simp; done) | (simp; rfl) | rfl))))
        | (apply WPL.cR kA; (case q => (repeat' (first | refine And.intro ?_ ?_ | intro _ | (with_reducible exact cleanOut_nil) | (refine Eqv.mk ?_; first | rfl | (simp -implicitDefEqProofs [hin, ByteArray.size]; done)) | (simp -implicitDefEqProofs [hin, ByteArray.size]; done) | (simp -implicitDefEqProofs [hin, ByteArray.size]; rfl) | (simp; done) | (simp; rfl) | rfl))); (intro y hy s hs; simp at hs; subst hs))
        | (refine WPL.call0f ?_ ?_ ?_; (focus (simp; done)); (focus (simp; done)))
        | ((first | refine WPc.rq tok rfl fun K hK => ?_ | refine WPL.rn tok _ (by simp [ahead, isFn]; rfl) fun K hK => ?_); simp -implicitDefEqProofs +contextual [-Int.not_le, -Int.not_lt, -Nat.not_le, -Nat.not_lt, -List.all_eq_true, -List.all_eq_false, -List.any_eq_true, -List.any_eq_false, hin, ByteArray.size]; (repeat1' (first | apply hK | apply And.intro | intro _)) <;> clear hK K <;> (try dsimp only [List.drop]))
        | (refine WPc.region ?_; simp only [List.toList_toArray])
        | (refine WPc.condT ?_ ?_; (focus (simp; done)))
        | (refine WPc.condF ?_ ?_; (focus (simp; done))))
      all_goals simp_all
  · have hr : rd s = none := readDec_none_len hlen
    have hin : inRange ((trimPrefix s.data.toList [45]).length : Nat) 1 9 = false := by simp [inRange]; omega
    rw [hr]
    refine cof 27 Go.Proofs.Tryz.func198 fun G => ?_
    simp only [entSt, tmOf, List.append_nil, List.cons_append, List.nil_append]
    repeat' (first
      | apply WPc.sq
      | (refine WPc.ret (endP.val (.inr rfl) rfl rfl (by simp; rfl) ?_))
      | refine WPL.nil ?_
      | (apply WPL.cL (c_strings_TrimPrefix _ _); (case q => (repeat' (first | refine And.intro ?_ ?_ | intro _ | (with_reducible exact cleanOut_nil) | (refine Eqv.mk ?_; first | rfl | (simp -implicitDefEqProofs [hin, ByteArray.size]; done)) | (simp -implicitDefEqProofs [hin, ByteArray.size]; done) | (simp -implicitDefEqProofs [hin, ByteArray.size]; rfl) | (simp; done) | (simp; rfl) | rfl))))
      | (apply WPL.cL (c_impl_inRange _ _ _); (case q => (repeat' (first | refine And.intro ?_ ?_ | intro _ | (with_reducible exact cleanOut_nil) | (refine Eqv.mk ?_; first | rfl | (simp -implicitDefEqProofs [hin, ByteArray.size]; done)) | (simp -implicitDefEqProofs [hin, ByteArray.size]; done) | (simp -implicitDefEqProofs [hin, ByteArray.size]; rfl) | (simp; done) | (simp; rfl) | rfl))))
      | ((first | refine WPc.rq tok rfl fun K hK => ?_ | refine WPL.rn tok _ (by simp [ahead, isFn]; rfl) fun K hK => ?_); simp -implicitDefEqProofs +contextual [-Int.not_le, -Int.not_lt, -Nat.not_le, -Nat.not_lt, -List.all_eq_true, -List.all_eq_false, -List.any_eq_true, -List.any_eq_false, hin, ByteArray.size]; (repeat1' (first | apply hK | apply And.intro | intro _)) <;> clear hK K <;> (try dsimp only [List.drop]))
      | (refine WPc.region ?_; simp only [List.toList_toArray])
      | (refine WPc.condT ?_ ?_; (focus (simp; done))))
    all_goals rfl
end Go.Own
set_option maxRecDepth 1000000
set_option maxHeartbeats 4000000
namespace Go.Own
attribute [local irreducible] WPc WPL WPS HAny endP
variable [Laid]
open Go.Lib Go.RowKit
structure DecI (n m : Int) (out : ByteArray) : Prop where
  eq : decDigits n.natAbs = ddig m ++ out.data.toList
  pos : 0 ≤ n → 0 ≤ m
  neg : n < 0 → m ≤ 0
  le : m.natAbs ≤ n.natAbs
  sz : out.size ≤ 20
def nextD (m : Int) (out : ByteArray) : ByteArray := ⟨#[UInt8.ofNat (48 + m.natAbs % 10)]⟩ ++ out
theorem DecI.next {n m : Int} {out : ByteArray} (h : DecI n m out) (hb : n.natAbs < 18446744073709551616) (hm : m ≠ 0) : DecI n (m.tdiv 10) (nextD m out) := by
  have hd : (m.tdiv 10).natAbs = m.natAbs / 10 := by rw [Int.natAbs_tdiv]; rfl
  have he : decDigits n.natAbs = ddig (m.tdiv 10) ++ (nextD m out).data.toList := by
    rw [h.eq, ddig_step hm, nextD, ByteArray.data_append, Array.toList_append, List.append_assoc]
  refine ⟨he, fun h0 => ?_, fun h0 => ?_, by have := h.le; omega, ?_⟩
  · have := h.pos h0; exact Int.tdiv_nonneg this (by omega)
  · have := h.neg h0
    have : m.tdiv 10 = -((-m).tdiv 10) := by rw [Int.neg_tdiv, Int.neg_neg]
    have h2 : 0 ≤ (-m).tdiv 10 := Int.tdiv_nonneg (by omega) (by omega)
    omega
  · have := congrArg List.length he
    rw [decDigits_length, List.length_append] at this
    have h20 := nDigits_le20 n.natAbs hb
    have : (nextD m out).size = (nextD m out).data.toList.length := Array.length_toList.symm
    omega
theorem digit_byte (m : Int) : (strOfNums [IntKind.u8.wrap (IntKind.i64.wrap (48 + if m.tmod 10 < 0 then IntKind.i64.wrap (-(m.tmod 10)) else m.tmod 10))]) = ⟨#[UInt8.ofNat (48 + m.natAbs % 10)]⟩ := by
  have h := tmod_abs m
  have h2 : m.natAbs % 10 < 10 := Nat.mod_lt _ (by omega)
  have e : (if m.tmod 10 < 0 then IntKind.i64.wrap (-(m.tmod 10)) else m.tmod 10) = ((m.natAbs % 10 : Nat) : Int) := by
    split
    · rw [wrap64 (by omega) (by omega)]; omega
    · omega
  rw [e, wrap64 (by omega) (by omega), IntKind.wrap_u8]
  simp only [strOfNums, List.map_cons, List.map_nil]
  rw [show ((48 + ((m.natAbs % 10 : Nat) : Int)) % 256).toNat = 48 + m.natAbs % 10 by omega]
theorem c_spec_Dec (n : Int) (h0 : -9223372036854775808 ≤ n) (h1 : n ≤ 9223372036854775807) : Con PP 216 [.sc (.int .i64 n)] [] [] (fun r o => r = .sc (.string (dec n))) := by
  by_cases hz : n = 0
  · subst hz
    refine cof 31 Go.Proofs.Tryz.func216 fun G => ?_
    simp only [entSt, tmOf, List.append_nil, List.cons_append, List.nil_append]
    refine go (L := _ ∧ True) wb0 wb0 wb0 wb0 wb0 ⟨fun _ => ?_, wb0⟩
    all_goals (try rfl)
    all_goals (rw [show dec 0 = ⟨#[48]⟩ from by simp [dec, itoa, decDigits]])
  have hdiv : ∀ m out, DecI n m out → IntKind.i64.wrap (m.tdiv 10) = m.tdiv 10 := fun m out hI => by
    have := hI.le
    have h2 : (m.tdiv 10).natAbs = m.natAbs / 10 := by rw [Int.natAbs_tdiv]; rfl
    rcases Int.le_total 0 n with h | h
    · have := hI.pos h
      have := Int.tdiv_nonneg this (show (0 : Int) ≤ 10 by omega)
      exact wrap64 (by omega) (by omega)
    · exact wrap64 (by omega) (by omega)
  refine cof 31 Go.Proofs.Tryz.func216 fun G => ?_
  simp only [entSt, tmOf, List.append_nil, List.cons_append, List.nil_append]
  refine go (L := _ ∧ True) (wa1 @hz) wb0 wb0 wb0 wb0 ⟨fun _ => ?_, wb0⟩
  refine WPc.loopK (σ := Int × ByteArray) (fun x => DecI n x.1 x.2) (fun x => x.1.natAbs) (fun x => [(0, .sc (.int .i64 x.1)), (3, .sc (.string x.2))])  [4] (n, ⟨#[]⟩) (by simp) (by simp) (⟨by simp [ddig, hz], by simp, by simp; omega, by simp, by simp [ByteArray.size]⟩) ?_
  rintro ⟨m, out⟩ hI s hs
  simp at hs
  subst hs
  have hs := hI.sz
  dsimp only at hs hI
  by_cases hm : m = 0
  · subst hm
    have s1 : SAdd ⟨#[45]⟩ out := by unfold SAdd; have : (⟨#[45]⟩ : ByteArray).size = 1 := rfl; omega
    have he := hI.eq
    simp only [ddig, if_true, List.nil_append] at he
    have hd : dec n = if n < 0 then ⟨#[45]⟩ ++ out else out := by
      unfold dec itoa
      split
      · rw [he]; exact ba_ext (by simp)
      · rw [show n.toNat = n.natAbs by omega, he]
    rw [hd]
    refine go (L := _ ∧ _ ∧ True) (wa1 @s1) wb0 wb0 wb0 wb0 ⟨fun _ hq => ?_, fun _ hq => ?_, wb0⟩
    · rw [if_pos (by simpa using hq)]
    · rw [if_neg (by simpa using hq)]
  · have s1 : ∀ c : Int, SAdd (strOfNums [c]) out := fun c => by unfold SAdd; rw [strOfNums_size]; simp; omega
    have hb := digit_byte m
    have hn := hI.next (by omega) hm
    have hmm : (m.tdiv 10).natAbs < m.natAbs := by rw [Int.natAbs_tdiv]; show m.natAbs / 10 < _; omega
    refine go (L := _ ∧ _ ∧ True) (wa2 @hm @s1) wb0 wb0 wb0 wb0 ⟨fun _ hq => ?_, fun _ hq => ?_, wb0⟩
    all_goals (first | (have g : m.tmod 10 < 0 := by simpa using hq
                        rw [if_pos g] at hb) | (have g : ¬ m.tmod 10 < 0 := by simpa using hq
                                                rw [if_neg g] at hb))
    all_goals
      refine ⟨(m.tdiv 10, nextD m out), ⟨hn, by first | omega | (simp only; omega) | assumption⟩, rfl, rfl, ?_, ?_⟩ <;> simp (disch := omega) [wrap64, nextD, hb, hdiv _ _ hI]
theorem bt_get {s : ByteArray} {i : Nat} (h : i < s.size) : ∃ c, s.data.toList[i]? = some c ∧ bt s i = (c.toNat : Int) := by
  refine ⟨s[i], ?_, ?_⟩
  · have : i < s.data.toList.length := by simpa using h
    rw [List.getElem?_eq_getElem this]; rfl
  · unfold bt
    simp only [Int.toNat_natCast]
    rw [dif_pos h]
theorem isDigB_bt {c : UInt8} : isDigB c = (decide (48 ≤ (c.toNat : Int)) && decide ((c.toNat : Int) ≤ 57)) := by
  unfold isDigB
  congr 1 <;> exact decide_eq_decide.2 (by omega)
theorem len_list (s : ByteArray) : s.data.toList.length = s.size := Array.length_toList
theorem c_spec_ReadDec (s : ByteArray) (h1 : s.size ≤ 9223372036854775807) : Con PP 184 [.sc (.string s)] [] [] (fun r o => r = .tup [.sc (.int .i64 ((rd s).getD 0)), .sc (.bool (rd s).isSome)]) := by
  refine cof 61 Go.Proofs.Tryz.func184 fun G => ?_
  simp only [entSt, tmOf, List.append_nil, List.cons_append, List.nil_append]
  refine go (L := _ ∧ True) wb0 wb0 wb0 wb0 wb0 ⟨fun _ => ?_, wb0⟩
  refine WPc.loopK (σ := Nat) (fun i => i ≤ s.size ∧ i ≤ 11) (fun i => 11 - i) (fun i => [(4, .sc (.int .i64 (foldD 0 (s.data.toList.take i) : Nat))), (5, .sc (.int .i64 (cntD (s.data.toList.take i) : Nat))), (6, .sc (.int .i64 i))])  [0] 0 (by simp [foldD, cntD]) (by simp [foldD, cntD]) (by simp) ?_
  rintro i ⟨hi, hi2⟩ s hs
  simp at hs
  subst hs
  have hf := foldD_lt (s.data.toList.take i)
  have hc : cntD (s.data.toList.take i) ≤ (s.data.toList.take i).length := List.countP_le_length
  have hl : (s.data.toList.take i).length ≤ i := List.length_take_le _ _
  have hp : 10 ^ (s.data.toList.take i).length ≤ 10 ^ i := Nat.pow_le_pow_right (by omega) hl
  have hp2 : 10 ^ i ≤ 10 ^ 11 := Nat.pow_le_pow_right (by omega) hi2
  by_cases hlt : i < s.size ∧ i < 11
  · obtain ⟨hlt, hlt2⟩ := hlt
    obtain ⟨c, hg, hb⟩ := bt_get hlt
    have hcn := c.toNat_lt
    have e1 := foldD_snoc hg
    have e2 := cntD_snoc hg
    have hd : isDigB c = (decide (48 ≤ (c.toNat : Int)) && decide ((c.toNat : Int) ≤ 57)) := isDigB_bt
    have hp3 : 10 ^ i ≤ 10 ^ 10 := Nat.pow_le_pow_right (by omega) (by omega)
    have hw : 48 ≤ (c.toNat : Int) → IntKind.i64.wrap (IntKind.i64.wrap ((foldD 0 (s.data.toList.take i) : Nat) * 10) + IntKind.i64.wrap (IntKind.u8.wrap (c.toNat - 48))) = ((foldD 0 (s.data.toList.take i) * 10 + (c.toNat - 48) : Nat) : Int) := fun h => by
      rw [IntKind.wrap_u8, Int.emod_eq_of_lt (by omega) (by omega), wrap64 (x := _ * 10) (by omega) (by omega), wrap64 (x := _ - 48) (by omega) (by omega), wrap64 (by omega) (by omega)]
      omega
    have hw2 : IntKind.i64.wrap ((cntD (s.data.toList.take i) : Nat) + 1) = ((cntD (s.data.toList.take i) + 1 : Nat) : Int) := wrap64 (by omega) (by omega)
    have hw3 : IntKind.i64.wrap ((i : Int) + 1) = ((i + 1 : Nat) : Int) := wrap64 (by omega) (by omega)
    by_cases h48 : 48 ≤ (c.toNat : Int)
    · by_cases h57 : (c.toNat : Int) ≤ 57
      · have hdt : isDigB c = true := by rw [hd]; simp [h48, h57]
        rw [if_pos hdt] at e1 e2
        repeat' (first
          | apply WPc.sq
          | apply WPc.block
          | apply WPc.skip
          | (refine WPc.rq tok rfl fun K hK => ?_; simp -implicitDefEqProofs +contextual [-Int.not_le, -Int.not_lt, -Nat.not_le, -Nat.not_lt, -List.all_eq_true, -List.all_eq_false, -List.any_eq_true, -List.any_eq_false, hlt, hb, h48, h57, show (i : Int) < 11 by omega]; (repeat1' (first | apply hK | apply And.intro | intro _)) <;> clear hK K <;> (try dsimp only [List.drop]))
          | (refine WPc.condT ?_ ?_; (focus (simp; done))))
        refine ⟨i + 1, ⟨⟨by omega, by omega⟩, by omega⟩, rfl, rfl, ?_, ?_⟩
        · simp only [FitT, List.cons_append, List.nil_append, lk_cons, pick_cons, pick_nil, hw h48, hw2, hw3, e1, e2]
          simp
        · simp
      · have hdt : isDigB c = false := by rw [hd]; simp [h57]
        rw [hdt] at e1 e2
        simp only [Bool.false_eq_true, if_false] at e1 e2
        repeat' (first
          | apply WPc.sq
          | apply WPc.block
          | apply WPc.skip
          | (refine WPc.rq tok rfl fun K hK => ?_; simp -implicitDefEqProofs +contextual [-Int.not_le, -Int.not_lt, -Nat.not_le, -Nat.not_lt, -List.all_eq_true, -List.all_eq_false, -List.any_eq_true, -List.any_eq_false, hlt, hb, h48, h57, show (i : Int) < 11 by omega]; (repeat1' (first | apply hK | apply And.intro | intro _)) <;> clear hK K <;> (try dsimp only [List.drop]))
          | (refine WPc.condT ?_ ?_; (focus (simp; done)))
          | (refine WPc.condF ?_ ?_; (focus (simp; done))))
        refine ⟨i + 1, ⟨⟨by omega, by omega⟩, by omega⟩, rfl, rfl, ?_, ?_⟩
        · simp only [FitT, List.cons_append, List.nil_append, lk_cons, pick_cons, pick_nil, hw3, e1, e2]
          simp
        · simp
    · have hdt : isDigB c = false := by rw [hd]; simp [h48]
      rw [hdt] at e1 e2
      simp only [Bool.false_eq_true, if_false] at e1 e2
      repeat' (first
        | apply WPc.sq
        | apply WPc.block
        | apply WPc.skip
        | (refine WPc.rq tok rfl fun K hK => ?_; simp -implicitDefEqProofs +contextual [-Int.not_le, -Int.not_lt, -Nat.not_le, -Nat.not_lt, -List.all_eq_true, -List.all_eq_false, -List.any_eq_true, -List.any_eq_false, hlt, hb, h48, show (i : Int) < 11 by omega]; (repeat1' (first | apply hK | apply And.intro | intro _)) <;> clear hK K <;> (try dsimp only [List.drop]))
        | (refine WPc.condT ?_ ?_; (focus (simp; done)))
        | (refine WPc.condF ?_ ?_; (focus (simp; done))))
      refine ⟨i + 1, ⟨⟨by omega, by omega⟩, by omega⟩, rfl, rfl, ?_, ?_⟩
      · simp only [FitT, List.cons_append, List.nil_append, lk_cons, pick_cons, pick_nil, hw3, e1, e2]
        simp
      · simp
  · have hneg : IntKind.i64.wrap (-((foldD 0 (s.data.toList.take i) : Nat) : Int)) = -((foldD 0 (s.data.toList.take i) : Nat) : Int) := wrap64 (by omega) (by omega)
    have hh : s.data.toList.head? = some 45 ↔ 0 < s.size ∧ bt s 0 = 45 := by
      constructor
      · intro h
        have h0 : 0 < s.size := by
          rw [← len_list]; cases hs : s.data.toList with
          | nil => rw [hs] at h; simp at h
          | cons => simp
        obtain ⟨c, hg, hb⟩ := bt_get h0
        rw [List.head?_eq_getElem?, hg] at h
        injection h with h
        subst h
        exact ⟨h0, hb⟩
      · rintro ⟨h0, hb0⟩
        obtain ⟨c, hg, hb⟩ := bt_get h0
        rw [List.head?_eq_getElem?, hg]
        simp only [Int.natCast_zero] at hb
        rw [hb0] at hb
        congr 1
        apply UInt8.toNat_inj.1
        show c.toNat = 45
        omega
    have hall : s.size ≤ 10 → s.data.toList.take i = s.data.toList := fun h => List.take_of_length_le (by rw [len_list]; omega)
    have hdv : decVal s.data.toList = if s.data.toList.head? = some 45 then -(foldD 0 s.data.toList : Int) else foldD 0 s.data.toList := rfl
    have key : ∀ v : Int, (s.size ≤ 10 → v = decVal s.data.toList) → rd s = if cntD (s.data.toList.take i) ≤ 9 ∧ s.size ≤ 10 ∧ dec v = s then some v else none := fun v hv => by
      split
      · rename_i h
        obtain ⟨g1, g2, g3⟩ := h
        rw [hall g2] at g1
        rw [hv g2] at g3 ⊢
        exact readDec_spec (by rw [len_list]; omega) g1 (dec_ne.1 g3)
      · rename_i h
        refine readDec_spec_no fun ⟨g1, g2, g3⟩ => h ?_
        rw [len_list] at g1
        exact ⟨by rw [hall g1]; exact g2, g1, by rw [hv g1]; exact dec_ne.2 g3⟩
    have hnot : ¬ ((i : Int) < s.size ∧ (i : Int) < 11) := by omega
    by_cases hmin : 0 < s.size ∧ bt s 0 = 45
    · have hk := key (-((foldD 0 (s.data.toList.take i) : Nat) : Int)) (fun h => by rw [hall h, hdv, if_pos (hh.2 hmin)])
      rw [hk]
      refine go (L := _ ∧ _ ∧ _ ∧ _ ∧ _ ∧ _ ∧ _ ∧ _ ∧ True) (wa3 @hmin.1 @hmin.2 @hneg) (wb1 (fun v0 (h : _ ∧ _) => c_spec_Dec v0 h.1 h.2)) wb0 wb0 wb0 ⟨fun _ _ _ _ hq hq => ?_, fun _ _ _ _ hq hq => ?_, fun _ _ _ _ hq => ?_, fun _ _ _ hq => ?_, fun _ _ _ _ hq => ?_, fun _ _ _ _ hq => ?_, fun _ _ _ _ => ?_, fun _ _ _ => ?_, wb0⟩
      all_goals (first | (rw [if_pos ⟨by omega, by omega, by simp_all⟩]; rfl) | (rw [if_neg (by intro ⟨g1, g2, g3⟩; first | omega | simp_all)]; rfl))
    · have hk := key ((foldD 0 (s.data.toList.take i) : Nat) : Int) (fun h => by rw [hall h, hdv, if_neg (fun e => hmin (hh.1 e))])
      rw [hk]
      by_cases h0 : 0 < s.size
      · have hb0 : ¬ bt s 0 = 45 := fun e => hmin ⟨h0, e⟩
        refine go (L := _ ∧ _ ∧ _ ∧ _ ∧ _ ∧ _ ∧ _ ∧ _ ∧ True) (wa2 @h0 @hb0) (wb1 (fun v0 (h : _ ∧ _) => c_spec_Dec v0 h.1 h.2)) wb0 wb0 wb0 ⟨fun _ _ _ _ hq hq => ?_, fun _ _ _ _ hq hq => ?_, fun _ _ _ _ hq => ?_, fun _ _ _ hq => ?_, fun _ _ _ _ hq => ?_, fun _ _ _ _ hq => ?_, fun _ _ _ _ => ?_, fun _ _ _ => ?_, wb0⟩
        all_goals (first | (rw [if_pos ⟨by omega, by omega, by simp_all⟩]; rfl) | (rw [if_neg (by intro ⟨g1, g2, g3⟩; first | omega | simp_all)]; rfl))
      · refine go (L := _ ∧ _ ∧ _ ∧ _ ∧ True) (wa1 @h0) (wb1 (fun v0 (h : _ ∧ _) => c_spec_Dec v0 h.1 h.2)) wb0 wb0 wb0 ⟨fun _ _ _ _ hq => ?_, fun _ _ _ _ hq => ?_, fun _ _ _ _ => ?_, fun _ _ _ => ?_, wb0⟩
        all_goals (first | (rw [if_pos ⟨by omega, by omega, by simp_all⟩]; rfl) | (rw [if_neg (by intro ⟨g1, g2, g3⟩; first | omega | simp_all)]; rfl))
def allB (p : Int → Bool) (s : ByteArray) : Bool := (List.range s.size).all fun i => p (bt s i)
def sym (s : ByteArray) : Bool := allB isSym s && inRange s.size 1 16 && !isDigit (bt s 0) && !(rd s).isSome
theorem c_impl_symOk [F : Facts.Of] (s : ByteArray) (h1 : s.size ≤ 281474976710656) : Con PP 153 [.sc (.string s)] [] [] (fun r o => r = .sc (.bool (sym s))) := by
  refine cof 38 Go.Proofs.Tryz.func153 fun G => ?_
  simp only [entSt, tmOf, List.append_nil, List.cons_append, List.nil_append]
  refine go (L := _ ∧ True) wb0 wb0 wb0 wb0 wb0 ⟨fun _ => ?_, wb0⟩
  refine WPc.loopK (σ := Nat) (fun i => i ≤ s.size ∧ ((List.range s.size).take i).all (fun i => isSym (bt s i)) = true) (fun i => s.size - i) (fun i => [(3, .sc (.int .i64 i))])  [0] 0 (by simp) (by simp) (by simp) ?_
  rintro i ⟨hi, hall⟩ s hs
  simp at hs
  subst hs
  by_cases hlt : i < s.size
  · have hv : (List.range s.size)[i]? = some i := List.getElem?_range hlt
    refine go (L := _ ∧ _ ∧ True) (wa1 @hlt) (wb1 (fun v0 (h : _ ∧ _) => c_impl_isSymByte v0 h.1 h.2)) wb0 wb0 wb0 ⟨fun _ hq => ?_, fun _ hq => ?_, wb0⟩
    · have : allB isSym s = false := all_at hv (by simp_all)
      simp [sym, this]
    all_goals
      refine ⟨i + 1, ⟨⟨by omega, all_next hv (by simp_all) hall⟩, by first | omega | (simp only; omega) | assumption⟩, rfl, rfl, ?_, ?_⟩ <;> simp (disch := omega) [wrap64]
  · rw [List.take_of_length_le (by simp; omega)] at hall
    have ha : allB isSym s = true := hall
    by_cases hr : inRange s.size 1 16 = true
    · have h0 : 0 < s.size := by simp [inRange] at hr; omega
      refine go (L := _ ∧ _ ∧ _ ∧ True) (wa3 @hlt @hr @h0) (wb2 (fun v0 v1 v2 (_ : True) => c_impl_inRange v0 v1 v2) (fun v0 (h : _) => c_impl_ReadDec v0 h)) wb0 wb0 wb0 ⟨fun _ _ hq => ?_, fun _ _ hq => ?_, fun _ _ => ?_, wb0⟩
      all_goals (simp_all [sym, isDigit])
    · refine go (L := _ ∧ True) (wa2 @hlt @hr) (wb1 (fun v0 v1 v2 (_ : True) => c_impl_inRange v0 v1 v2)) wb0 wb0 wb0 ⟨fun _ => ?_, wb0⟩
      all_goals (simp_all [sym])
theorem c_spec_l2Sym (s : ByteArray) (h1 : s.size ≤ 9223372036854775807) : Con PP 126 [.sc (.string s)] [] [] (fun r o => r = .sc (.bool (sym s))) := by
  by_cases hr : inRange s.size 1 16 = true
  · have h0 : 0 < s.size := by simp [inRange] at hr; omega
    refine cof 33 Go.Proofs.Tryz.func126 fun G => ?_
    simp only [entSt, tmOf, List.append_nil, List.cons_append, List.nil_append]
    refine go (L := _ ∧ _ ∧ True) (wa2 @hr @h0) (wb2 (fun v0 v1 v2 (_ : True) => c_spec_l1In v0 v1 v2) (fun v0 (_ : True) => c_spec_l2Digit v0)) wb0 wb0 wb0 ⟨fun _ hq => ?_, fun _ hq => ?_, wb0⟩
    · simp_all [sym]
    refine WPc.loopK (σ := Nat) (fun i => i ≤ s.size ∧ ((List.range s.size).take i).all (fun i => isSym (bt s i)) = true) (fun i => s.size - i) (fun i => [(3, .sc (.int .i64 i))])  [0] 0 (by simp) (by simp) (by simp) ?_
    rintro i ⟨hi, hall⟩ s hs
    simp at hs
    subst hs
    by_cases hlt : i < s.size
    · have hv : (List.range s.size)[i]? = some i := List.getElem?_range hlt
      refine go (L := _ ∧ _ ∧ True) (wa1 @hlt) (wb1 (fun v0 (h : _ ∧ _) => c_spec_l2Sign v0 h.1 h.2)) wb0 wb0 wb0 ⟨fun _ hq => ?_, fun _ hq => ?_, wb0⟩
      · have : allB isSym s = false := all_at hv (by simp_all)
        simp [sym, this]
      all_goals
        refine ⟨i + 1, ⟨⟨by omega, all_next hv (by simp_all) hall⟩, by first | omega | (simp only; omega) | assumption⟩, rfl, rfl, ?_, ?_⟩ <;> simp (disch := omega) [wrap64]
    · rw [List.take_of_length_le (by simp; omega)] at hall
      have ha : allB isSym s = true := hall
      refine go (L := _ ∧ True) (wa1 @hlt) (wb1 (fun v0 (h : _) => c_spec_ReadDec v0 h)) wb0 wb0 wb0 ⟨fun _ => ?_, wb0⟩
      all_goals (simp_all [sym])
  · refine cof 33 Go.Proofs.Tryz.func126 fun G => ?_
    simp only [entSt, tmOf, List.append_nil, List.cons_append, List.nil_append]
    refine go (L := _ ∧ True) (wa1 @hr) (wb1 (fun v0 v1 v2 (_ : True) => c_spec_l1In v0 v1 v2)) wb0 wb0 wb0 ⟨fun _ => ?_, wb0⟩
    all_goals simp_all [sym]
def isName (s : ByteArray) : Bool := decide (s = ⟨#[37, 116]⟩) || sym s && !isW wWord s && decide (arity s < 0)
theorem c_impl_IsName [F : Facts.Of] (s : ByteArray) (h1 : s.size < 4294967000) : Con PP 141 [.sc (.string s)] [] [] (fun r o => r = .sc (.bool (isName s))) := by
  refine cof 17 Go.Proofs.Tryz.func141 fun G => ?_
  simp only [entSt, tmOf, List.append_nil, List.cons_append, List.nil_append]
  refine go (L := _ ∧ _ ∧ _ ∧ _ ∧ True) wb0 (wb3 (fun v0 (h : _) => c_impl_symOk v0 h) (fun v0 v1 (h : _ ∧ _) => c_impl_isOneOf v0 v1 h.1 h.2) (fun v0 (h : _) => c_impl_Arity v0 h)) wb0 wb0 wb0 ⟨fun _ hq => ?_, fun _ _ _ hq => ?_, fun _ _ _ hq => ?_, fun _ _ hq => ?_, wb0⟩
  all_goals (simp_all [isName]; try (intros; omega))
theorem c_spec_IsName (s : ByteArray) (h1 : s.size < 4294967000) : Con PP 65 [.sc (.string s)] [] [] (fun r o => r = .sc (.bool (isName s))) := by
  refine cof 19 Go.Proofs.Tryz.func65 fun G => ?_
  simp only [entSt, tmOf, List.append_nil, List.cons_append, List.nil_append]
  refine go (L := _ ∧ _ ∧ _ ∧ _ ∧ True) wb0 (wb3 (fun v0 (h : _) => c_spec_l2Sym v0 h) (fun v0 (_ : True) => c_spec_l3Word v0) (fun v0 (_ : True) => c_spec_Arity v0)) wb0 wb0 wb0 ⟨fun _ _ _ _ => ?_, fun _ _ _ _ => ?_, fun _ _ _ => ?_, fun _ _ => ?_, wb0⟩
  all_goals (simp_all [isName]; try (intros; omega))
end Go.Own
set_option maxRecDepth 1000000
set_option maxHeartbeats 4000000
namespace Go.Own
attribute [local irreducible] WPc WPL WPS HAny endP
variable [Laid]
open Go.Lib Go.RowKit
structure Cl where
  k : Int
  s : ByteArray
  a : Int
  b : Int
  names : List ByteArray
  vals : List V
  deriving DecidableEq
def Cl.cs (c : Cl) : List C := [.sc (.int .i64 c.k), .sc (.string c.s), .sc (.int .i64 c.a), .sc (.int .i64 c.b), .fz (c.names.map sC), .fz (c.vals.map V.cs)]
def Cl.av (c : Cl) : AV := .agg [.sc (.int .i64 c.k), .sc (.string c.s), .sc (.int .i64 c.a), .sc (.int .i64 c.b), .fz (c.names.map sC), .fz (c.vals.map V.cs)]
@[simp] theorem V.len (c : V) : c.cs.length = 3 := rfl
@[simp] theorem V.frz (c : V) : c.cs.map Own.frz = c.cs := rfl
@[simp] theorem V.pln (c : V) : c.cs.all plainC = true := rfl
@[simp] theorem V.lenA (l : List V) : lenAll 3 (l.map V.cs) = true := lenAll_map V.len l
@[simp] theorem V.frzA (l : List V) : frzAll (l.map V.cs) = l.map V.cs := frzAll_map V.frz l
@[simp] theorem V.plnA (l : List V) : plainAll (l.map V.cs) = true := plainAll_map V.pln l
@[simp] theorem sC.len (c : ByteArray) : (sC c).length = 1 := rfl
@[simp] theorem sC.frz (c : ByteArray) : (sC c).map Own.frz = sC c := rfl
@[simp] theorem sC.pln (c : ByteArray) : (sC c).all plainC = true := rfl
@[simp] theorem sC.lenA (l : List ByteArray) : lenAll 1 (l.map sC) = true := lenAll_map sC.len l
@[simp] theorem sC.frzA (l : List ByteArray) : frzAll (l.map sC) = l.map sC := frzAll_map sC.frz l
@[simp] theorem sC.plnA (l : List ByteArray) : plainAll (l.map sC) = true := plainAll_map sC.pln l
@[simp] theorem Cl.len (c : Cl) : c.cs.length = 6 := rfl
@[simp] theorem Cl.frz (c : Cl) : c.cs.map Own.frz = c.cs := rfl
@[simp] theorem Cl.pln (c : Cl) : c.cs.all plainC = true := rfl
@[simp] theorem Cl.lenA (l : List Cl) : lenAll 6 (l.map Cl.cs) = true := lenAll_map Cl.len l
@[simp] theorem Cl.frzA (l : List Cl) : frzAll (l.map Cl.cs) = l.map Cl.cs := frzAll_map Cl.frz l
@[simp] theorem Cl.plnA (l : List Cl) : plainAll (l.map Cl.cs) = true := plainAll_map Cl.pln l
def V.sm (v : V) : Prop := v.s.size < 4294967000
structure Cl.sm (c : Cl) : Prop where
  s : c.s.size < 4294967000
  names : ∀ x, x ∈ c.names → x.size < 4294967000
  vals : ∀ v, v ∈ c.vals → v.sm
def cellAt (h : List Cl) (n kind : Int) : Bool := decide (0 ≤ n) && (match h[n.toNat]? with
  | some c => decide (c.k = kind)
  | none => false)
def valueOk (h : List Cl) (v : V) : Bool :=
  if v.k = 4 then decide (v.n = 0) && sym v.s
  else decide (v.s = zs) && (if v.k = 1 then inRange v.n (-1000000) 1000000 else if v.k = 2 then inRange v.n 0 1 else if v.k = 3 then decide (v.n = 0)
    else decide (cellKind v.k ≠ 0) && cellAt h v.n (cellKind v.k))
theorem c_spec_l6Points (v : V) : Con PP 180 [v.av] [] [] (fun r o => r = .sc (.bool (inRange v.k 5 7))) := by
  refine cof 6 Go.Proofs.Tryz.func180 fun G => ?_
  simp only [entSt, tmOf, List.append_nil, List.cons_append, List.nil_append, V.av]
  refine go (L := _ ∧ True) wb0 (wb1 (fun v0 v1 v2 (_ : True) => c_spec_l1In v0 v1 v2)) wb0 wb0 wb0 ⟨fun _ => ?_, wb0⟩
  all_goals rfl
theorem c_spec_l6Cell (h : List Cl) (n kind : Int) : Con PP 132 [.fz (h.map Cl.cs), .sc (.int .i64 n), .sc (.int .i64 kind)] [] [] (fun r o => r = .sc (.bool (cellAt h n kind))) := by
  by_cases h0 : 0 ≤ n
  · by_cases hlt : n.toNat < h.length
    · have g1 : n < (h.length : Int) := by omega
      refine cof 24 Go.Proofs.Tryz.func132 fun G => ?_
      simp only [entSt, tmOf, List.append_nil, List.cons_append, List.nil_append]
      refine go (L := _ ∧ True) (wa4 @h0 @g1 @Cl.cs.eq_1 @hlt) wb0 wb0 wb0 wb0 ⟨fun _ => ?_, wb0⟩
      all_goals simp_all [cellAt]
    · have g1 : ¬ n < (h.length : Int) := by omega
      have g2 : h[n.toNat]? = none := by simp; omega
      refine cof 24 Go.Proofs.Tryz.func132 fun G => ?_
      simp only [entSt, tmOf, List.append_nil, List.cons_append, List.nil_append]
      refine go (L := _ ∧ True) (wa2 @h0 @g1) wb0 wb0 wb0 wb0 ⟨fun _ => ?_, wb0⟩
      all_goals simp_all [cellAt]
  · have g : cellAt h n kind = false := by simp [cellAt, h0]
    rw [g]
    refine cof 24 Go.Proofs.Tryz.func132 fun G => ?_
    simp only [entSt, tmOf, List.append_nil, List.cons_append, List.nil_append]
    refine go (L := _ ∧ True) (wa1 @h0) wb0 wb0 wb0 wb0 ⟨fun _ => ?_, wb0⟩
    all_goals rfl
theorem c_spec_ValueOk (h : List Cl) (v : V) (hs : v.sm) : Con PP 77 [.fz (h.map Cl.cs), v.av] [] [] (fun r o => r = .sc (.bool (valueOk h v))) := by
  unfold V.sm at hs
  refine cof 58 Go.Proofs.Tryz.func77 fun G => ?_
  simp only [entSt, tmOf, List.append_nil, List.cons_append, List.nil_append, V.av]
  refine go (L := _ ∧ _ ∧ _ ∧ _ ∧ _ ∧ _ ∧ _ ∧ _ ∧ _ ∧ _ ∧ True) wb0 (wb3 (fun v0 v1 v2 (_ : True) => c_spec_l1In v0 v1 v2) (fun v0 (h : _) => c_spec_l2Sym v0 h) (fun v0 v1 v2 (_ : True) => c_spec_l6Cell v0 v1 v2)) wb0 wb0 wb0 ⟨fun _ _ hq => ?_, fun _ _ hq hq => ?_, fun _ _ hq hq hq => ?_, fun _ _ hq hq hq hq => ?_, fun _ _ hq hq hq hq hq hq => ?_, fun _ _ hq hq hq hq hq hq hq => ?_, fun _ _ hq hq hq hq hq hq hq hq => ?_, fun _ _ hq hq hq hq hq hq hq hq => ?_, fun _ _ _ => ?_, fun _ _ _ => ?_, wb0⟩
  all_goals simp_all [valueOk, cellKind]
theorem c_impl_ValueOk [F : Facts.Of] (h : List Cl) (v : V) (hs : v.sm) : Con PP 93 [.fz (h.map Cl.cs), v.av] [] [] (fun r o => r = .sc (.bool (valueOk h v))) := by
  unfold V.sm at hs
  refine Con.lenOf 0 Go.Proofs.Tryz.func93 (by kernel_rfl) (by kernel_rfl) rfl fun hlen => ?_
  simp at hlen
  have hw : IntKind.i64.wrap ((h.length : Int) - 1) = h.length - 1 := wrap64 (by omega) (by omega)
  by_cases hin : inRange v.n 0 (h.length - 1) = true
  · have h0 : 0 ≤ v.n ∧ v.n.toNat < h.length := by simp [inRange] at hin; omega
    obtain ⟨h0, h1⟩ := h0
    refine cof 74 Go.Proofs.Tryz.func93 fun G => ?_
    simp only [entSt, tmOf, List.append_nil, List.cons_append, List.nil_append, V.av]
    repeat' (first
      | apply WPc.sq
      | apply WPc.block
      | (refine WPc.ret (endP.val (.inr rfl) rfl rfl (by simp; rfl) ?_))
      | apply WPc.skip
      | refine WPL.nil ?_
      | (apply WPL.cL (c_impl_inRange _ _ _); (case q => (repeat' (first | refine And.intro ?_ ?_ | intro _ | (with_reducible exact cleanOut_nil) | (refine Eqv.mk ?_; first | rfl | (simp -implicitDefEqProofs [hw, hin, h0, h1, Cl.cs]; done)) | (simp -implicitDefEqProofs [hw, hin, h0, h1, Cl.cs]; done) | (simp -implicitDefEqProofs [hw, hin, h0, h1, Cl.cs]; rfl) | (simp; done) | (simp; rfl) | rfl))))
      | (apply WPL.cL (c_impl_symOk _ ?g1); (case q => (repeat' (first | refine And.intro ?_ ?_ | intro _ | (with_reducible exact cleanOut_nil) | (refine Eqv.mk ?_; first | rfl | (simp -implicitDefEqProofs [hw, hin, h0, h1, Cl.cs]; done)) | (simp -implicitDefEqProofs [hw, hin, h0, h1, Cl.cs]; done) | (simp -implicitDefEqProofs [hw, hin, h0, h1, Cl.cs]; rfl) | (simp; done) | (simp; rfl) | rfl))); (case g1 => (first | assumption | omega)))
      | (apply WPS.cL (hc := (c_impl_inRange _ _ _)); (case ho => exact rfl); (case q => (repeat' (first | refine And.intro ?_ ?_ | intro _ | (with_reducible exact cleanOut_nil) | (refine Eqv.mk ?_; first | rfl | (simp -implicitDefEqProofs [hw, hin, h0, h1, Cl.cs]; done)) | (simp -implicitDefEqProofs [hw, hin, h0, h1, Cl.cs]; done) | (simp -implicitDefEqProofs [hw, hin, h0, h1, Cl.cs]; rfl) | (simp; done) | (simp; rfl) | rfl))))
      | (apply WPS.cL (hc := (c_impl_cellKind _)); (case ho => exact rfl); (case q => (repeat' (first | refine And.intro ?_ ?_ | intro _ | (with_reducible exact cleanOut_nil) | (refine Eqv.mk ?_; first | rfl | (simp -implicitDefEqProofs [hw, hin, h0, h1, Cl.cs]; done)) | (simp -implicitDefEqProofs [hw, hin, h0, h1, Cl.cs]; done) | (simp -implicitDefEqProofs [hw, hin, h0, h1, Cl.cs]; rfl) | (simp; done) | (simp; rfl) | rfl))))
      | (apply WPS.callf (ho := rfl); (case hg => (simp; done)); (case hd => (simp; done)))
      | (refine WPL.call0f ?_ ?_ ?_; (focus (simp; done)); (focus (simp; done)))
      | ((first | refine WPc.rq tok rfl fun K hK => ?_ | refine WPL.rn tok _ (by simp [ahead, isFn]; rfl) fun K hK => ?_ | refine WPS.rn tok _ (by simp [aheadS]; rfl) fun K hK => ?_); simp -implicitDefEqProofs +contextual [-Int.not_le, -Int.not_lt, -Nat.not_le, -Nat.not_lt, -List.all_eq_true, -List.all_eq_false, -List.any_eq_true, -List.any_eq_false, hw, hin, h0, h1, Cl.cs]; (repeat1' (first | apply hK | apply And.intro | intro _)) <;> clear hK K <;> (try dsimp only [List.drop]))
      | (refine WPc.sched (id := 13) tok [] [(0, []), (1, []), (2, []), (3, []), (4, []), (5, []), (6, []), (7, []), (8, []), (9, []), (10, []), (11, []), (12, []), (13, []), (14, []), (15, []), (16, []), (17, []), (18, []), (19, []), (20, []), (21, []), (22, []), (23, [])] (by kernel_rfl) ?_)
      | (refine WPS.nil ?_)
      | (refine WPc.region ?_; simp only [List.toList_toArray])
      | (refine WPc.condT ?_ ?_; (focus (simp; done)))
      | (refine WPc.cond (by simp [-Bool.not_eq_eq_eq_not]; rfl) (fun hq => ?_) (fun hq => ?_) <;> simp only [hq] <;> (try (exfalso; (simp only [decide_eq_true_eq, decide_eq_false_iff_not] at hq); omega))))
    all_goals simp_all [valueOk, cellKind, cellAt]
  · have h0 : cellAt h v.n (cellKind v.k) = false := by
      unfold cellAt
      by_cases g : 0 ≤ v.n
      · have : h[v.n.toNat]? = none := by simp [inRange] at hin; simp; omega
        rw [this]; simp
      · simp [g]
    refine cof 74 Go.Proofs.Tryz.func93 fun G => ?_
    simp only [entSt, tmOf, List.append_nil, List.cons_append, List.nil_append, V.av]
    repeat' (first
      | apply WPc.sq
      | apply WPc.block
      | (refine WPc.ret (endP.val (.inr rfl) rfl rfl (by simp; rfl) ?_))
      | apply WPc.skip
      | refine WPL.nil ?_
      | (apply WPL.cL (c_impl_inRange _ _ _); (case q => (repeat' (first | refine And.intro ?_ ?_ | intro _ | (with_reducible exact cleanOut_nil) | (refine Eqv.mk ?_; first | rfl | (simp -implicitDefEqProofs [hw, hin]; done)) | (simp -implicitDefEqProofs [hw, hin]; done) | (simp -implicitDefEqProofs [hw, hin]; rfl) | (simp; done) | (simp; rfl) | rfl))))
      | (apply WPL.cL (c_impl_symOk _ ?g1); (case q => (repeat' (first | refine And.intro ?_ ?_ | intro _ | (with_reducible exact cleanOut_nil) | (refine Eqv.mk ?_; first | rfl | (simp -implicitDefEqProofs [hw, hin]; done)) | (simp -implicitDefEqProofs [hw, hin]; done) | (simp -implicitDefEqProofs [hw, hin]; rfl) | (simp; done) | (simp; rfl) | rfl))); (case g1 => (first | assumption | omega)))
      | (apply WPS.cL (hc := (c_impl_inRange _ _ _)); (case ho => exact rfl); (case q => (repeat' (first | refine And.intro ?_ ?_ | intro _ | (with_reducible exact cleanOut_nil) | (refine Eqv.mk ?_; first | rfl | (simp -implicitDefEqProofs [hw, hin]; done)) | (simp -implicitDefEqProofs [hw, hin]; done) | (simp -implicitDefEqProofs [hw, hin]; rfl) | (simp; done) | (simp; rfl) | rfl))))
      | (apply WPS.callf (ho := rfl); (case hg => (simp; done)); (case hd => (simp; done)))
      | (refine WPL.call0f ?_ ?_ ?_; (focus (simp; done)); (focus (simp; done)))
      | ((first | refine WPc.rq tok rfl fun K hK => ?_ | refine WPL.rn tok _ (by simp [ahead, isFn]; rfl) fun K hK => ?_ | refine WPS.rn tok _ (by simp [aheadS]; rfl) fun K hK => ?_); simp -implicitDefEqProofs +contextual [-Int.not_le, -Int.not_lt, -Nat.not_le, -Nat.not_lt, -List.all_eq_true, -List.all_eq_false, -List.any_eq_true, -List.any_eq_false, hw, hin]; (repeat1' (first | apply hK | apply And.intro | intro _)) <;> clear hK K <;> (try dsimp only [List.drop]))
      | (refine WPc.sched (id := 13) tok [] [(0, []), (1, []), (2, []), (3, []), (4, []), (5, []), (6, []), (7, []), (8, []), (9, []), (10, []), (11, []), (12, []), (13, []), (14, []), (15, []), (16, []), (17, []), (18, []), (19, []), (20, []), (21, []), (22, []), (23, [])] (by kernel_rfl) ?_)
      | (refine WPS.nil ?_)
      | (refine WPc.region ?_; simp only [List.toList_toArray])
      | (refine WPc.condT ?_ ?_; (focus (simp; done)))
      | (refine WPc.cond (by simp [-Bool.not_eq_eq_eq_not]; rfl) (fun hq => ?_) (fun hq => ?_) <;> simp only [hq] <;> (try (exfalso; (simp only [decide_eq_true_eq, decide_eq_false_iff_not] at hq); omega))))
    all_goals simp_all [valueOk, cellKind]
end Go.Own
set_option maxRecDepth 1000000
set_option maxHeartbeats 4000000
namespace Go.Own
attribute [local irreducible] WPc WPL WPS HAny endP
variable [Laid]
open Go.Lib Go.RowKit
theorem c_slices_Clone_string (h : List ByteArray) (hb : h.length * 16 ≤ 140737488355328) : Con PP 51 [.fz (h.map sC)] [] [] (fun r o => r = .sl 5 1 [] 0 h.length ∧ o = [(5, 9, 1, h.map sC)]) := by
  refine cof 8 Go.Proofs.Tryz.func51 fun G => ?_
  simp only [entSt, tmOf, List.append_nil, List.cons_append, List.nil_append]
  refine WPc.len 0 (by simp; rfl) fun hlen => ?_
  simp at hlen
  apply WPc.sq
  refine WPc.rk tok fun K hK => ?_; simp -implicitDefEqProofs; refine hK _ ?_; clear hK
  apply WPc.sq
  apply WPc.sq
  refine WPc.region ?_; simp only [List.toList_toArray]
  refine WPL.rk tok 1 fun K hK => ?_; simp -implicitDefEqProofs; refine hK _ ?_; clear hK
  refine WPL.stp rfl (Stp.nilEq (e := 9) tok rfl rfl (by simp; rfl) (by simp)) ?_
  rintro _ ⟨b, hnil, rfl⟩
  refine WPL.nil ?_
  refine WPc.cond (b := b) (by simp) (fun h1 => ?_) (fun h1 => ?_)
  · have hh : h = [] := by
      cases h with
      | nil => rfl
      | cons c cs => have := hnil (by simp); rw [this] at h1; cases h1
    subst hh
    apply WPc.sq
    refine WPc.rk tok fun K hK => ?_; simp -implicitDefEqProofs; refine hK _ ?_; clear hK
    refine WPc.adopt 2 5 9 1 (by simp [putSt]) (by simp [putSt]) (by decide) (by simp) ?_
    refine WPc.ret (by unfold endP; exact ⟨.inr rfl, rfl, rfl, _, _, [(5, 9, 1, [])], by simp [adoptSt, putSt, putT]; rfl, by simp, ⟨⟨[], by simp [adoptSt, putSt, putT], .inl rfl⟩, trivial⟩, ⟨rfl, rfl⟩, by simp⟩)
  · apply WPc.skip
    refine WPc.sq (WPc.rk tok fun K hK => ?_)
    have hb2 : (h.length : Int) ≤ 9223372036854775807 := by omega
    simp -implicitDefEqProofs [sC.len, hb, hlen, hb2]
    refine hK _ ?_; clear hK
    refine WPc.ret (by unfold endP; exact ⟨.inr rfl, rfl, rfl, .sl 5 1 [] 0 h.length, .sl 5 1 [] 0 h.length, [(5, 9, 1, h.map sC)], by simp, by simp, ⟨⟨h.map sC, by simp, .inl rfl⟩, trivial⟩, ⟨rfl, rfl⟩, by simp⟩)
def Cl.ow (c : Cl) : List C := [.sc (.int .i64 c.k), .sc (.string c.s), .sc (.int .i64 c.a), .sc (.int .i64 c.b), .sl 9 1 (c.names.map sC), .sl 71 3 (c.vals.map V.cs)]
def heapR (h : List Cl) : Root := (133, 6, h.map Cl.ow)
structure Cl.rm (c : Cl) : Prop where
  names : c.names.length ≤ 1000000000
  vals : c.vals.length ≤ 1000000000
def mixed (h : List Cl) (i : Nat) : List (List C) := (h.take i).map Cl.ow ++ (h.drop i).map Cl.cs
end Go.Own
set_option maxRecDepth 1000000
set_option maxHeartbeats 4000000
namespace Go.Own
attribute [local irreducible] WPc WPL WPS HAny endP
variable [Laid]
open Go.Lib Go.RowKit
def noV : V := ⟨0, 0, zs⟩
end Go.Own
set_option maxRecDepth 1000000
set_option maxHeartbeats 4000000
namespace Go.Own
attribute [local irreducible] WPc WPL WPS HAny endP
variable [Laid]
open Go.Lib Go.RowKit
end Go.Own
set_option maxRecDepth 1000000
set_option maxHeartbeats 4000000
namespace Go.Own
attribute [local irreducible] WPc WPL WPS HAny endP
variable [Laid]
open Go.Lib Go.RowKit
theorem dz_sC (l : List ByteArray) : dzLL (l.map sC) = l.map sC := by
  rw [dzLL_map, List.map_map]; rfl
theorem dz_V (l : List V) : dzLL (l.map V.cs) = l.map V.cs := by
  rw [dzLL_map, List.map_map]; rfl
@[simp] theorem dz_ow (h : List Cl) : dzLL (h.map Cl.ow) = h.map Cl.cs := by
  rw [dzLL_map, List.map_map]
  refine List.map_congr_left fun c _ => ?_
  simp [Cl.ow, Cl.cs, dzL, deepFz, dz_sC, dz_V]
@[simp] theorem dz_ow1 (h : List Cl) : dzLL (List.take h.length (h.map Cl.ow)) = h.map Cl.cs := by
  rw [List.take_of_length_le (by simp), dz_ow]
end Go.Own
set_option maxRecDepth 1000000
set_option maxHeartbeats 4000000
namespace Go.Own
attribute [local irreducible] WPc WPL WPS HAny endP
variable [Laid]
open Go.Lib Go.RowKit
theorem c_impl_valuesOk [F : Facts.Of] (h : List Cl) (vs : List V) (hs : ∀ v, v ∈ vs → v.sm) : Con PP 139 [.fz (h.map Cl.cs), .fz (vs.map V.cs)] [] [] (fun r o => r = .sc (.bool (vs.all (valueOk h)))) := by
  refine Con.lenOf 1 Go.Proofs.Tryz.func139 (by kernel_rfl) (by kernel_rfl) rfl fun hlen => ?_
  simp at hlen
  refine cof 18 Go.Proofs.Tryz.func139 fun G => ?_
  simp only [entSt, tmOf, List.append_nil, List.cons_append, List.nil_append]
  refine go (L := _ ∧ True) wb0 wb0 wb0 wb0 wb0 ⟨fun _ => ?_, wb0⟩
  refine WPc.loopK (σ := Nat) (fun i => i ≤ vs.length ∧ (vs.take i).all (valueOk h) = true) (fun i => vs.length - i) (fun i => [(9, .sc (.int .i64 i))])  [0, 7, 8] 0 (by simp) (by simp) (by simp) ?_
  rintro i ⟨hi, hall⟩ s hs
  simp at hs
  subst hs
  by_cases hlt : i < vs.length
  · have hv := List.getElem?_eq_getElem hlt
    have hs1 := hs _ (List.getElem_mem hlt)
    refine go (L := _ ∧ _ ∧ True) (wa2 @V.cs.eq_1 @hlt) (wb1 (fun v0 v1 v2 v3 (h : _) => c_impl_ValueOk v0 ⟨v1, v2, v3⟩ h)) wb0 wb0 wb0 ⟨fun _ hq => ?_, fun _ hq => ?_, wb0⟩
    · rw [all_at hv (by simp_all)]
    all_goals
      refine ⟨i + 1, ⟨⟨by omega, all_next hv (by simp_all) hall⟩, by first | omega | (simp only; omega) | assumption⟩, rfl, rfl, ?_, ?_⟩ <;> simp (disch := omega) [wrap64]
  · refine go (L := _ ∧ True) (wa1 @hlt) wb0 wb0 wb0 wb0 ⟨fun _ => ?_, wb0⟩
    rw [← hall, List.take_of_length_le (by omega)]
theorem c_impl_allNames [F : Facts.Of] (vs : List ByteArray) (hs : ∀ v, v ∈ vs → v.size < 4294967000) : Con PP 149 [.fz (vs.map sC)] [] [] (fun r o => r = .sc (.bool (vs.all isName))) := by
  refine Con.lenOf 0 Go.Proofs.Tryz.func149 (by kernel_rfl) (by kernel_rfl) rfl fun hlen => ?_
  simp at hlen
  refine cof 15 Go.Proofs.Tryz.func149 fun G => ?_
  simp only [entSt, tmOf, List.append_nil, List.cons_append, List.nil_append]
  refine go (L := _ ∧ True) wb0 wb0 wb0 wb0 wb0 ⟨fun _ => ?_, wb0⟩
  refine WPc.loopK (σ := Nat) (fun i => i ≤ vs.length ∧ (vs.take i).all isName = true) (fun i => vs.length - i) (fun i => [(7, .sc (.int .i64 i))])  [5, 6] 0 (by simp) (by simp) (by simp) ?_
  rintro i ⟨hi, hall⟩ s hs
  simp at hs
  subst hs
  by_cases hlt : i < vs.length
  · have hv := List.getElem?_eq_getElem hlt
    have hs1 := hs _ (List.getElem_mem hlt)
    refine go (L := _ ∧ _ ∧ True) (wa2 @sC.eq_1 @hlt) (wb1 (fun v0 (h : _) => c_impl_IsName v0 h)) wb0 wb0 wb0 ⟨fun _ hq => ?_, fun _ hq => ?_, wb0⟩
    · rw [all_at hv (by simp_all)]
    all_goals
      refine ⟨i + 1, ⟨⟨by omega, all_next hv (by simp_all) hall⟩, by first | omega | (simp only; omega) | assumption⟩, rfl, rfl, ?_, ?_⟩ <;> simp (disch := omega) [wrap64]
  · refine go (L := _ ∧ True) (wa1 @hlt) wb0 wb0 wb0 wb0 ⟨fun _ => ?_, wb0⟩
    rw [← hall, List.take_of_length_le (by omega)]
def cellOk (c : Cl) : Bool :=
  if c.k = 1 then decide (c.s = zs) && decide (c.a = 0) && decide (c.b = 0) && decide (c.names = []) && decide (c.vals.length = 2)
  else if c.k = 2 then decide (c.s = zs) && decide (0 ≤ c.a) && decide (0 ≤ c.b) && c.names.all isName && decide (c.vals.length = c.names.length)
  else if c.k = 3 then decide (c.s ≠ zs) && inRange c.a 0 1000 && decide (c.b = 0) && decide (c.names = []) && decide (c.vals.length ≤ 8)
  else false
theorem c_impl_cellOk [F : Facts.Of] (c : Cl) (hs : c.sm) : Con PP 138 [c.av] [] [] (fun r o => r = .sc (.bool (cellOk c))) := by
  have h1 := hs.names
  cases hn : c.names.all isName
  all_goals
    refine cof 88 Go.Proofs.Tryz.func138 fun G => ?_
    simp only [entSt, tmOf, List.append_nil, List.cons_append, List.nil_append, Cl.av]
  · repeat' (first
      | apply WPc.sq
      | apply WPc.block
      | (refine WPc.ret (endP.val (.inr rfl) rfl rfl (by simp; rfl) ?_))
      | apply WPc.skip
      | refine WPL.nil ?_
      | (apply WPL.cL (c_impl_allNames _ ?g1); (case q => (repeat' (first | refine And.intro ?_ ?_ | intro _ | (with_reducible exact cleanOut_nil) | (refine Eqv.mk ?_; first | rfl | (simp -implicitDefEqProofs [hn]; done)) | (simp -implicitDefEqProofs [hn]; done) | (simp -implicitDefEqProofs [hn]; rfl) | (simp; done) | (simp; rfl) | rfl))); (case g1 => (first | assumption | (exact h1))))
      | (apply WPL.cL (c_impl_inRange _ _ _); (case q => (repeat' (first | refine And.intro ?_ ?_ | intro _ | (with_reducible exact cleanOut_nil) | (refine Eqv.mk ?_; first | rfl | (simp -implicitDefEqProofs [hn]; done)) | (simp -implicitDefEqProofs [hn]; done) | (simp -implicitDefEqProofs [hn]; rfl) | (simp; done) | (simp; rfl) | rfl))))
      | (refine WPL.call0f ?_ ?_ ?_; (focus (simp; done)); (focus (simp; done)))
      | ((first | refine WPc.rq tok rfl fun K hK => ?_ | refine WPL.rn tok _ (by simp [ahead, isFn]; rfl) fun K hK => ?_); simp -implicitDefEqProofs +contextual [-Int.not_le, -Int.not_lt, -Nat.not_le, -Nat.not_lt, -List.all_eq_true, -List.all_eq_false, -List.any_eq_true, -List.any_eq_false, hn]; (repeat1' (first | apply hK | apply And.intro | intro _)) <;> clear hK K <;> (try dsimp only [List.drop]))
      | (refine WPc.region ?_; simp only [List.toList_toArray])
      | (refine WPc.cond (by simp [-Bool.not_eq_eq_eq_not]; rfl) (fun hq => ?_) (fun hq => ?_) <;> simp only [hq] <;> (try (exfalso; (simp only [decide_eq_true_eq, decide_eq_false_iff_not] at hq); omega))))
    all_goals (simp_all [cellOk, -List.all_eq_true, -List.all_eq_false]; try (intros; omega))
  · repeat' (first
      | apply WPc.sq
      | apply WPc.block
      | (refine WPc.ret (endP.val (.inr rfl) rfl rfl (by simp; rfl) ?_))
      | apply WPc.skip
      | refine WPL.nil ?_
      | (apply WPL.cL (c_impl_allNames _ ?g1); (case q => (repeat' (first | refine And.intro ?_ ?_ | intro _ | (with_reducible exact cleanOut_nil) | (refine Eqv.mk ?_; first | rfl | (simp -implicitDefEqProofs [hn]; done)) | (simp -implicitDefEqProofs [hn]; done) | (simp -implicitDefEqProofs [hn]; rfl) | (simp; done) | (simp; rfl) | rfl))); (case g1 => (first | assumption | (exact h1))))
      | (apply WPL.cL (c_impl_inRange _ _ _); (case q => (repeat' (first | refine And.intro ?_ ?_ | intro _ | (with_reducible exact cleanOut_nil) | (refine Eqv.mk ?_; first | rfl | (simp -implicitDefEqProofs [hn]; done)) | (simp -implicitDefEqProofs [hn]; done) | (simp -implicitDefEqProofs [hn]; rfl) | (simp; done) | (simp; rfl) | rfl))))
      | (refine WPL.call0f ?_ ?_ ?_; (focus (simp; done)); (focus (simp; done)))
      | ((first | refine WPc.rq tok rfl fun K hK => ?_ | refine WPL.rn tok _ (by simp [ahead, isFn]; rfl) fun K hK => ?_); simp -implicitDefEqProofs +contextual [-Int.not_le, -Int.not_lt, -Nat.not_le, -Nat.not_lt, -List.all_eq_true, -List.all_eq_false, -List.any_eq_true, -List.any_eq_false, hn]; (repeat1' (first | apply hK | apply And.intro | intro _)) <;> clear hK K <;> (try dsimp only [List.drop]))
      | (refine WPc.region ?_; simp only [List.toList_toArray])
      | (refine WPc.cond (by simp [-Bool.not_eq_eq_eq_not]; rfl) (fun hq => ?_) (fun hq => ?_) <;> simp only [hq] <;> (try (exfalso; (simp only [decide_eq_true_eq, decide_eq_false_iff_not] at hq); omega))))
    all_goals (simp_all [cellOk, -List.all_eq_true, -List.all_eq_false]; try (intros; omega))
def okAt (h : List Cl) (i : Nat) (c : Cl) : Bool := cellOk c && c.vals.all (valueOk h) && (decide (c.k = 3) || c.vals.all (isBelow i))
def okI (h : List Cl) (i : Nat) : Bool := match h[i]? with
  | some c => okAt h i c
  | none => true
def heapOk (h : List Cl) : Bool := decide (h.length ≤ 300) && (List.range h.length).all (okI h)
theorem heapOk_no {h : List Cl} {i : Nat} (hi : i < h.length) (ho : okI h i = false) : heapOk h = false := by
  have hv : (List.range h.length)[i]? = some i := List.getElem?_range hi
  rw [heapOk, all_at hv ho, Bool.and_false]
theorem okI_eq {h : List Cl} {i : Nat} (hi : i < h.length) : okI h i = okAt h i h[i] := by simp [okI, hi]
theorem c_impl_HeapOk [F : Facts.Of] (h : List Cl) (hs : ∀ c, c ∈ h → c.sm) : Con PP 84 [.fz (h.map Cl.cs)] [] [] (fun r o => r = .sc (.bool (heapOk h))) := by
  by_cases h300 : h.length ≤ 300
  · refine cof 38 Go.Proofs.Tryz.func84 fun G => ?_
    simp only [entSt, tmOf, List.append_nil, List.cons_append, List.nil_append]
    refine go (L := _ ∧ True) (wa1 @h300) wb0 wb0 wb0 wb0 ⟨fun _ hq => ?_, wb0⟩
    refine WPc.loopK (σ := Nat) (fun i => i ≤ h.length ∧ ((List.range h.length).take i).all (okI h) = true) (fun i => h.length - i) (fun i => [(10, .sc (.int .i64 i))])  [0, 8, 9] 0 (by simp) (by simp) (by simp) ?_
    rintro i ⟨hi, hall⟩ s hs
    simp at hs
    subst hs
    by_cases hlt : i < h.length
    · have hv : (List.range h.length)[i]? = some i := List.getElem?_range hlt
      have hs1 := hs _ (List.getElem_mem hlt)
      have hs2 := hs1.vals
      have ho := okI_eq hlt
      obtain ⟨p, g3⟩ : ∃ p, (h[i].k = 3) = p := ⟨_, rfl⟩
      have hp : p = True ∨ p = False := Classical.propComplete p
      cases g1 : cellOk h[i] <;> cases g2 : h[i].vals.all (valueOk h) <;> rcases hp with rfl | rfl <;> cases g4 : h[i].vals.all (isBelow i)
      all_goals
        all_goals refine go (L := _ ∧ True) (wa6 @Cl.cs.eq_1 @hlt @g1 @g2 @g3 @g4) (wb3 (fun v0 v1 v2 v3 v4 v5 (h : _) => c_impl_cellOk ⟨v0, v1, v2, v3, v4, v5⟩ h) (fun v0 v1 (h : _) => c_impl_valuesOk v0 v1 h) (fun v0 v1 (_ : True) => c_impl_areBelow v0 v1)) wb0 wb0 wb0 ⟨fun _ => ?_, wb0⟩
      all_goals (simp only [okAt, g1, g2, g3, g4, Bool.and_true, Bool.and_false, Bool.true_and, Bool.false_and, Bool.or_true, Bool.or_false, Bool.true_or, Bool.false_or, decide_true, decide_false] at ho)
      all_goals (first
        | (rw [heapOk_no hlt ho]; done)
        | (refine ⟨i + 1, ⟨⟨hlt, all_next hv ho hall⟩, ?_⟩, rfl, rfl, ?_, ?_⟩ <;> (first | omega | (simp (disch := omega) [wrap64]; done))))
    · refine go (L := _ ∧ True) (wa1 @hlt) wb0 wb0 wb0 wb0 ⟨fun _ => ?_, wb0⟩
      rw [List.take_of_length_le (by simp; omega)] at hall
      simp [heapOk, hall, h300]
  · have hno : heapOk h = false := by simp [heapOk, h300]
    rw [hno]
    refine cof 38 Go.Proofs.Tryz.func84 fun G => ?_
    simp only [entSt, tmOf, List.append_nil, List.cons_append, List.nil_append]
    refine go (L := _ ∧ True) (wa1 @h300) wb0 wb0 wb0 wb0 ⟨fun _ hq => ?_, wb0⟩
    all_goals rfl
theorem isBelow_eq (i : Nat) (v : V) : isBelow i v = !(inRange v.k 5 7 && decide ((i : Int) ≤ v.n)) := by
  unfold isBelow cellKind inRange
  by_cases h5 : v.k = 5
  · simp [h5]
  · by_cases h6 : v.k = 6
    · simp [h6]
    · by_cases h7 : v.k = 7
      · simp [h7]
      · simp only [h5, h6, h7, if_false]
        have : ¬ (5 ≤ v.k ∧ v.k ≤ 7) := by omega
        by_cases h1 : 5 ≤ v.k <;> by_cases h2 : v.k ≤ 7 <;> simp [h1, h2] <;> omega
def qAt (h : List Cl) (i : Nat) (c : Cl) (v : V) : Bool := valueOk h v && (decide (c.k = 3) || isBelow i v)
theorem all_and {α : Type} (p q : α → Bool) : ∀ l : List α, (l.all fun x => p x && q x) = (l.all p && l.all q)
  | [] => rfl
  | x :: xs => by
    simp only [List.all_cons, all_and p q xs]
    cases p x <;> cases q x <;> cases xs.all p <;> cases xs.all q <;> rfl
theorem all_or {α : Type} (b : Bool) (q : α → Bool) : ∀ l : List α, (l.all fun x => b || q x) = (b || l.all q)
  | [] => by simp
  | x :: xs => by
    simp only [List.all_cons, all_or b q xs]
    cases b <;> simp
theorem okAt_eq (h : List Cl) (i : Nat) (c : Cl) : okAt h i c = (cellOk c && c.vals.all (qAt h i c)) := by
  rw [okAt, show qAt h i c = fun v => valueOk h v && (decide (c.k = 3) || isBelow i v) from rfl, all_and, all_or, Bool.and_assoc]
theorem okAt_no {h : List Cl} {i m : Nat} {c : Cl} {v : V} (hv : c.vals[m]? = some v) (hq : qAt h i c v = false) : okAt h i c = false := by
  rw [okAt_eq, all_at hv hq, Bool.and_false]
theorem c_spec_l6CellOk (h : List Cl) (i : Nat) (c : Cl) (hc : h[i]? = some c) (hs : c.sm) : Con PP 122 [.fz (h.map Cl.cs), .sc (.int .i64 i)] [] [] (fun r o => r = .sc (.bool (okAt h i c))) := by
  obtain ⟨hlt, rfl⟩ := List.getElem?_eq_some_iff.1 hc
  have hs2 := hs.vals
  have hs3 := hs.names
  refine cof 144 Go.Proofs.Tryz.func122 fun G => ?_
  simp only [entSt, tmOf, List.append_nil, List.cons_append, List.nil_append]
  refine WPc.lenAt 0 (xs := h.map Cl.cs) (by simp) (r := h[i].cs) (j := 5) (ys := h[i].vals.map V.cs) (List.mem_iff_getElem?.2 ⟨i, by simp [hlt]⟩) rfl fun hlen => ?_
  refine WPc.lenAt 0 (xs := h.map Cl.cs) (by simp) (r := h[i].cs) (j := 4) (ys := h[i].names.map sC) (List.mem_iff_getElem?.2 ⟨i, by simp [hlt]⟩) rfl fun hlen2 => ?_
  simp at hlen hlen2
  refine go (L := _ ∧ True) (wa2 @Cl.cs.eq_1 @hlt) wb0 wb0 wb0 wb0 ⟨fun _ => ?_, wb0⟩
  refine WPc.loopK (σ := Nat) (fun m => m ≤ h[i].vals.length ∧ (h[i].vals.take m).all (qAt h i h[i]) = true) (fun m => h[i].vals.length - m) (fun m => [(6, .sc (.int .i64 m))])  [0, 1, 5] 0 (by simp) (by simp) (by simp) ?_
  rintro m ⟨hm, hall⟩ s hs
  simp at hs
  subst hs
  by_cases hml : m < h[i].vals.length
  · have hv := List.getElem?_eq_getElem hml
    have hs1 := hs2 _ (List.getElem_mem hml)
    have hb := isBelow_eq i h[i].vals[m]
    have hqd : qAt h i h[i] h[i].vals[m] = (valueOk h h[i].vals[m] && (decide (h[i].k = 3) || isBelow i h[i].vals[m])) := rfl
    obtain ⟨p, g3⟩ : ∃ p, (h[i].k = 3) = p := ⟨_, rfl⟩
    have hp : p = True ∨ p = False := Classical.propComplete p
    cases g1 : valueOk h h[i].vals[m] <;> rcases hp with rfl | rfl <;> cases g4 : inRange h[i].vals[m].k 5 7
    all_goals
      repeat' (first
        | apply WPc.sq
        | apply WPc.block
        | (refine WPc.ret (endP.val (.inr rfl) rfl rfl (by simp; rfl) ?_))
        | apply WPc.skip
        | refine WPL.nil ?_
        | (apply WPL.cL (c_spec_ValueOk _ ⟨_, _, _⟩ ?g1); (case q => (repeat' (first | refine And.intro ?_ ?_ | intro _ | (with_reducible exact cleanOut_nil) | (refine Eqv.mk ?_; first | rfl | (simp -implicitDefEqProofs [Cl.cs, V.cs, hlt, hml, g1, g3, g4]; done)) | (simp -implicitDefEqProofs [Cl.cs, V.cs, hlt, hml, g1, g3, g4]; done) | (simp -implicitDefEqProofs [Cl.cs, V.cs, hlt, hml, g1, g3, g4]; rfl) | (simp; done) | (simp; rfl) | rfl))); (case g1 => (first | assumption | (exact hs1))))
        | (apply WPL.cL (c_spec_l6Points ⟨_, _, _⟩); (case q => (repeat' (first | refine And.intro ?_ ?_ | intro _ | (with_reducible exact cleanOut_nil) | (refine Eqv.mk ?_; first | rfl | (simp -implicitDefEqProofs [Cl.cs, V.cs, hlt, hml, g1, g3, g4]; done)) | (simp -implicitDefEqProofs [Cl.cs, V.cs, hlt, hml, g1, g3, g4]; done) | (simp -implicitDefEqProofs [Cl.cs, V.cs, hlt, hml, g1, g3, g4]; rfl) | (simp; done) | (simp; rfl) | rfl))))
        | (refine WPL.call0f ?_ ?_ ?_; (focus (simp; done)); (focus (simp; done)))
        | ((first | refine WPc.rq tok rfl fun K hK => ?_ | refine WPL.rn tok _ (by simp [ahead, isFn]; rfl) fun K hK => ?_); simp -implicitDefEqProofs +contextual [-Int.not_le, -Int.not_lt, -Nat.not_le, -Nat.not_lt, -List.all_eq_true, -List.all_eq_false, -List.any_eq_true, -List.any_eq_false, Cl.cs, V.cs, hlt, hml, g1, g3, g4]; (repeat1' (first | apply hK | apply And.intro | intro _)) <;> clear hK K <;> (try dsimp only [List.drop]))
        | (refine WPc.region ?_; simp only [List.toList_toArray])
        | (refine WPc.condT ?_ ?_; (focus (simp; done)))
        | (refine WPc.condF ?_ ?_; (focus (simp; done)))
        | (refine WPc.cond (by simp [-Bool.not_eq_eq_eq_not]; rfl) (fun hq => ?_) (fun hq => ?_) <;> simp only [hq] <;> (try (exfalso; (simp only [decide_eq_true_eq, decide_eq_false_iff_not] at hq); omega))))
    all_goals (simp only [g1, g3, g4, hb, Bool.and_true, Bool.and_false, Bool.true_and, Bool.false_and, Bool.or_true, Bool.or_false, Bool.true_or, Bool.false_or, decide_true, decide_false, Bool.not_false, Bool.not_true] at hqd)
    all_goals (try simp only [hq, Bool.not_false, Bool.not_true] at hqd)
    all_goals (first
      | (rw [okAt_no hv hqd]; done)
      | (refine ⟨m + 1, ⟨⟨hml, all_next hv hqd hall⟩, ?_⟩, rfl, rfl, ?_, ?_⟩ <;> (first | omega | (simp (disch := omega) [wrap64]; done))))
  · rw [List.take_of_length_le (by omega)] at hall
    have hok : okAt h i h[i] = cellOk h[i] := by rw [okAt_eq, hall, Bool.and_true]
    rw [hok]
    obtain ⟨p1, g1⟩ : ∃ p, (h[i].k = 1) = p := ⟨_, rfl⟩
    obtain ⟨p2, g2⟩ : ∃ p, (h[i].k = 2) = p := ⟨_, rfl⟩
    obtain ⟨p3, g3⟩ : ∃ p, (h[i].k = 3) = p := ⟨_, rfl⟩
    have hp1 : p1 = True ∨ p1 = False := Classical.propComplete p1
    have hp2 : p2 = True ∨ p2 = False := Classical.propComplete p2
    have hp3 : p3 = True ∨ p3 = False := Classical.propComplete p3
    rcases hp1 with rfl | rfl
    · refine go (L := _ ∧ _ ∧ _ ∧ _ ∧ _ ∧ True) (wa4 @Cl.cs.eq_1 @hlt @hml @g1) wb0 wb0 wb0 wb0 ⟨fun _ _ _ _ _ => ?_, fun _ _ _ _ _ => ?_, fun _ _ _ _ => ?_, fun _ _ _ => ?_, fun _ _ => ?_, wb0⟩
      all_goals (unfold cellOk; simp_all)
      all_goals (first | omega | (intros; omega))
    · rcases hp2 with rfl | rfl
      · refine go (L := _ ∧ True) (wa5 @Cl.cs.eq_1 @hlt @hml @g1 @g2) wb0 wb0 wb0 wb0 ⟨fun _ => ?_, wb0⟩
        refine WPc.loopK (σ := Nat) (fun k => k ≤ h[i].names.length ∧ (h[i].names.take k).all isName = true) (fun k => h[i].names.length - k) (fun k => [(7, .sc (.int .i64 k))])  [5] 0 (by simp) (by simp) (by simp) ?_
        rintro k ⟨hk, hnn⟩ s hs
        simp at hs
        subst hs
        by_cases hkl : k < h[i].names.length
        · have hv := List.getElem?_eq_getElem hkl
          have hs1 := hs3 _ (List.getElem_mem hkl)
          cases hnm : isName h[i].names[k]
          all_goals
            all_goals refine go (L := _ ∧ True) (wa3 @sC.eq_1 @hkl @hnm) (wb1 (fun v0 (h : _) => c_spec_IsName v0 h)) wb0 wb0 wb0 ⟨fun _ => ?_, wb0⟩
          · unfold cellOk; rw [if_neg (by rw [g1]; simp), if_pos (by rw [g2]; trivial), all_at hv hnm]; simp
          all_goals
            refine ⟨k + 1, ⟨⟨hkl, all_next hv hnm hnn⟩, ?_⟩, rfl, rfl, ?_, ?_⟩ <;> (first | omega | (simp (disch := omega) [wrap64]; done))
        · rw [List.take_of_length_le (by omega)] at hnn
          refine go (L := _ ∧ _ ∧ _ ∧ _ ∧ True) (wa2 @Cl.cs.eq_1 @hkl) wb0 wb0 wb0 wb0 ⟨fun _ _ _ _ => ?_, fun _ _ _ _ => ?_, fun _ _ _ => ?_, fun _ _ => ?_, wb0⟩
          all_goals (unfold cellOk; rw [if_neg (by rw [g1]; simp), if_pos (by rw [g2]; trivial)]; rw [hnn]; simp_all)
          all_goals (first | omega | (intros; omega))
      · rcases hp3 with rfl | rfl
        · refine go (L := _ ∧ _ ∧ _ ∧ _ ∧ _ ∧ True) (wa6 @Cl.cs.eq_1 @hlt @hml @g1 @g2 @g3) (wb1 (fun v0 v1 v2 (_ : True) => c_spec_l1In v0 v1 v2)) wb0 wb0 wb0 ⟨fun _ _ _ _ _ => ?_, fun _ _ _ _ _ => ?_, fun _ _ _ _ => ?_, fun _ _ _ => ?_, fun _ _ => ?_, wb0⟩
          all_goals (unfold cellOk; simp_all)
          all_goals (first | omega | (intros; omega))
        · refine go (L := _ ∧ True) (wa6 @Cl.cs.eq_1 @hlt @hml @g1 @g2 @g3) wb0 wb0 wb0 wb0 ⟨fun _ => ?_, wb0⟩
          all_goals (unfold cellOk; simp_all)
theorem c_spec_HeapOk (h : List Cl) (hs : ∀ c, c ∈ h → c.sm) : Con PP 62 [.fz (h.map Cl.cs)] [] [] (fun r o => r = .sc (.bool (heapOk h))) := by
  by_cases h300 : h.length ≤ 300
  · refine cof 17 Go.Proofs.Tryz.func62 fun G => ?_
    simp only [entSt, tmOf, List.append_nil, List.cons_append, List.nil_append]
    refine go (L := _ ∧ True) (wa1 @h300) wb0 wb0 wb0 wb0 ⟨fun _ hq => ?_, wb0⟩
    refine WPc.loopK (σ := Nat) (fun i => i ≤ h.length ∧ ((List.range h.length).take i).all (okI h) = true) (fun i => h.length - i) (fun i => [(3, .sc (.int .i64 i))])  [0] 0 (by simp) (by simp) (by simp) ?_
    rintro i ⟨hi, hall⟩ s hs
    simp at hs
    subst hs
    by_cases hlt : i < h.length
    · have hv : (List.range h.length)[i]? = some i := List.getElem?_range hlt
      have hs1 := hs _ (List.getElem_mem hlt)
      have hc := List.getElem?_eq_getElem hlt
      have ho := okI_eq hlt
      have kC := c_spec_l6CellOk h i h[i] hc hs1
      cases g1 : okAt h i h[i]
      all_goals
        rw [g1] at ho kC
        all_goals refine go (L := _ ∧ True) (wa2 @hlt @g1) (wb1 (fun _ => kC)) wb0 wb0 wb0 ⟨fun _ => ?_, wb0⟩
      all_goals (first
        | (rw [heapOk_no hlt ho]; done)
        | (refine ⟨i + 1, ⟨⟨hlt, all_next hv ho hall⟩, ?_⟩, rfl, rfl, ?_, ?_⟩ <;> (first | omega | (simp (disch := omega) [wrap64]; done))))
    · refine go (L := _ ∧ True) (wa1 @hlt) wb0 wb0 wb0 wb0 ⟨fun _ => ?_, wb0⟩
      rw [List.take_of_length_le (by simp; omega)] at hall
      simp [heapOk, hall, h300]
  · have hno : heapOk h = false := by simp [heapOk, h300]
    rw [hno]
    refine cof 17 Go.Proofs.Tryz.func62 fun G => ?_
    simp only [entSt, tmOf, List.append_nil, List.cons_append, List.nil_append]
    refine go (L := _ ∧ True) (wa1 @h300) wb0 wb0 wb0 wb0 ⟨fun _ hq => ?_, wb0⟩
    all_goals rfl
end Go.Own
set_option maxRecDepth 1000000
set_option maxHeartbeats 4000000
namespace Go.Own
attribute [local irreducible] WPc WPL WPS HAny endP
variable [Laid]
open Go.Lib Go.RowKit
end Go.Own
set_option maxRecDepth 1000000
set_option maxHeartbeats 4000000
namespace Go.Own
attribute [local irreducible] WPc WPL WPS WPS1 WPS2 HAny endP
variable [Laid]
open Go.Lib Go.RowKit
end Go.Own
set_option maxRecDepth 1000000
set_option maxHeartbeats 4000000
namespace Go.Own
attribute [local irreducible] WPc WPL WPS WPS1 WPS2 HAny endP
variable [Laid]
open Go.Lib Go.RowKit
end Go.Own
set_option maxRecDepth 1000000
set_option maxHeartbeats 4000000
namespace Go.Own
attribute [local irreducible] WPc WPL WPS WPS1 WPS2 HAny endP
variable [Laid]
open Go.Lib Go.RowKit
def good (h : List Cl) (s : ByteArray) (a : List V) : Bool := plainP s && decide ((a.length : Int) = arity s) && heapOk h && a.all (valueOk h)
def arg (a : List V) (i : Nat) : V := a[i]?.getD noV
end Go.Own
set_option maxRecDepth 1000000
set_option maxHeartbeats 4000000
namespace Go.Own
attribute [local irreducible] WPc WPL WPS WPS1 WPS2 HAny endP
variable [Laid]
open Go.Lib Go.RowKit
end Go.Own
set_option maxRecDepth 1000000
set_option maxHeartbeats 4000000
namespace Go.Own
attribute [local irreducible] WPc WPL WPS WPS1 WPS2 HAny endP
variable [Laid]
open Go.Lib Go.RowKit
attribute [simp] dz_V dz_sC
@[simp] theorem dz_V1 (l : List V) : dzLL (List.take l.length (l.map V.cs)) = l.map V.cs := by
  rw [List.take_of_length_le (by simp), dz_V]
@[simp] theorem dz_sC1 (l : List ByteArray) : dzLL (List.take l.length (l.map sC)) = l.map sC := by
  rw [List.take_of_length_le (by simp), dz_sC]
@[simp] theorem sc_sC (l : List ByteArray) : scLL (l.map sC) = true := by
  induction l with
  | nil => rfl
  | cons x l ih => simp only [List.map_cons, scLL, ih]; rfl
@[simp] theorem sc_V (l : List V) : scLL (l.map V.cs) = true := by
  induction l with
  | nil => rfl
  | cons x l ih => simp only [List.map_cons, scLL, ih]; rfl
@[simp] theorem sc_ow (l : List Cl) : scLL (l.map Cl.ow) = true := by
  induction l with
  | nil => rfl
  | cons x l ih => simp only [List.map_cons, scLL, ih, Cl.ow, scL, scC, sc_sC, sc_V]; rfl
end Go.Own
