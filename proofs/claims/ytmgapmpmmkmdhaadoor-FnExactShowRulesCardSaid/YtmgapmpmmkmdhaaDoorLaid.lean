/- What the listed variables of the program hold gives the walk its facts: three slices of words and a map of words; out of the card's laid facts. -/
import Derived.Test.YtmgapmpmmkmdhaaDoorRows
import Derived.Test.YtmgapmpmmkmdhaaDoorPFnExactShowRulesx0
import Derived.LaidMore
import Derived.ProofKit
import Derived.WalkKit
import Derived.Maps.Keyed
import Derived.Maps.StringElems
import Derived.OpenShut
import Derived.Lay
import Derived.Lib.LaidTab
import Derived.Stop.LaidErr
namespace Go.Proofs.YtmgapmpmmkmdhaaDoor.Laid
open Go.ChangeShapes Go.WideShapes Go.ChangeAt Go.RowKit Go.WideElems Go.Maps
open Go.Proofs.YtmgapmpmmkmdhaaDoor.PFnExactShowRules
theorem at_head {P : Program} {W : World} {n : String} {d : DataW Unit} {rest : List (String × DataW Unit)} (h : laidMet P ((n, d) :: rest) W) :
    ∃ g t cs fuel p, P.globalNamed n = some g ∧ (P.globals[g]?).map (·.type) = some t ∧ W.var? P n = some cs ∧ DataW.trod (fun _ => ()) P W 0 (fun _ => true) false fuel t cs.toList = some (d, p) := by
  obtain ⟨ps, ⟨g, t, cs, fuel, p, q, h1, h2, h3, h4, _⟩, _⟩ := h
  exact ⟨g, t, cs, fuel, p, h1, h2, h3, h4⟩
theorem cell0 {P : Program} {W : World} {n : String} {g : Nat} {cs : Array Value} {v : Value} (hg : P.globalNamed n = some g) (h : W.var? P n = some cs) (hc : cs.toList = [v]) : W.cell? ⟨g, 0, none⟩ = some v := by
  have := World.var?_cell hg h 0
  obtain ⟨l⟩ := cs
  simp only at hc
  subst hc
  simpa using this
theorem slis {W : World} {n : String} {g t e : Nat} {l : List ByteArray} {rest : List (String × DataW Unit)} (hg : Tryd.prog.globalNamed n = some g) (ht : (Tryd.prog.globals[g]?).map (·.type) = some t) (hu : Tryd.prog.underlying t = some (.slice e)) (he : Tryd.prog.underlying e = some .string) (hc : Tryd.prog.cellsOf e = 1)
    (h : laidMet Tryd.prog ((n, .slice (l.map fun s => .lit (.string s.data.toList)) []) :: rest) W) : SlIs W g l := by
  obtain ⟨g', t', cs, fuel, p, h1, h2, h3, h4⟩ := at_head h
  obtain rfl := Option.some.inj (hg.symm.trans h1)
  obtain rfl := Option.some.inj (ht.symm.trans h2)
  obtain ⟨a, cap, hcs, hle, hel⟩ := open_row hu hc h4
  rw [List.length_map] at hcs hle
  refine ⟨a, cap, cell0 hg h3 hcs, hle, fun j hj => ?_⟩
  obtain ⟨v, m, q, hv, hd⟩ := hel j (.lit (.string l[j].data.toList)) (by rw [List.getElem?_map, List.getElem?_eq_getElem hj]; rfl)
  obtain ⟨s, e1, e2, _⟩ := DataW.trod_string he hd
  have e3 : v = .string s := by simpa using e1
  have e4 : l[j].data.toList = s.data.toList := by
    simp only [Prod.mk.injEq, DataW.lit.injEq, Lit.string.injEq] at e2
    exact e2.1
  have e5 : l[j] = s := by
    revert e4
    obtain ⟨⟨x⟩⟩ := l[j]
    obtain ⟨⟨y⟩⟩ := s
    intro e4
    simp only at e4
    rw [e4]
  rw [hv, e3, List.getD_eq_getElem?_getD, List.getElem?_eq_getElem hj, ← e5]
  rfl
theorem mapis {W : World} {rest : List (String × DataW Unit)} (h : laidMet Tryd.prog (("loop.example/g00003/impl.wordsProto", Rows.laid_loop_example_g00003_impl_wordsProto) :: rest) W) : MapIs W 2 := by
  obtain ⟨g', t', cs, fuel, p, h1, h2, h3, h4⟩ := at_head h
  have hg : Tryd.prog.globalNamed "loop.example/g00003/impl.wordsProto" = some 2 := by kernel_rfl
  have ht : (Tryd.prog.globals[2]?).map (·.type) = some 52 := by kernel_rfl
  obtain rfl := Option.some.inj (hg.symm.trans h1)
  obtain rfl := Option.some.inj (ht.symm.trans h2)
  rcases open_map Tryd.underlying52 h4 with ⟨_, hx⟩ | ⟨bm, es, clock, m, hfu, hcs, hb, _, F, hx⟩
  · simp [Rows.laid_loop_example_g00003_impl_wordsProto] at hx
  simp only [Prod.mk.injEq] at hx
  refine ⟨bm, .map es clock, cell0 hg h3 hcs, hb, fun w' hb' x hm => ?_⟩
  have zero : (zeroValue 9).run Tryd.prog w' = .ok (.string ByteArray.empty) w' := by kernel_rfl
  have K : Keyed Tryd.prog 2 := int_keyed Tryd.underlying2
  have hw : (Lit.int .i64 x.1).wf = true := by
    simp only [wPro, List.mem_cons, List.not_mem_nil, or_false] at hm
    rcases hm with rfl | rfl | rfl | rfl <;> decide
  have hat : ∀ zd : DataW Unit, (DataW.map ((es.toList.map (rg Tryd.prog 2 (elemAt (fun _ => ()) Tryd.prog W 0 (fun _ => true) false m 9))).foldr DataW.insert [])).atKey (.int .i64 x.1) zd = .lit (.string x.2.data.toList) := by
    intro zd
    rw [← hx.1]
    simp only [wPro, List.mem_cons, List.not_mem_nil, or_false] at hm
    rcases hm with rfl | rfl | rfl | rfl <;> rfl
  rcases fit_look false K Tryd.underlying52 zero hb' F (keyOf_int_mk Tryd.underlying2 hw) with ⟨_, _, h7⟩ | ⟨e0, y, _, _, hrun, hR, h7, _⟩
  · have := (hat .nil).symm.trans (h7 .nil)
    cases this
  · obtain ⟨s, e1, e2, _⟩ := WideElems.elemAt_string Tryd.underlying9 hR
    have e3 := (h7 .nil).symm.trans (hat .nil)
    rw [e2] at e3
    simp only [DataW.lit.injEq, Lit.string.injEq] at e3
    have e5 : s = x.2 := by
      revert e3
      obtain ⟨_, ⟨⟨x⟩⟩⟩ := x
      obtain ⟨⟨y⟩⟩ := s
      intro e4
      simp only at e4
      rw [e4]
    rw [hrun, e1, e5]
    rfl
theorem everywhere {W : World} {rest : List (String × DataW Unit)} (h : laidMet Tryd.prog (("loop.example/g00003/impl.everywhere", Rows.laid_loop_example_g00003_impl_everywhere) :: rest) W) : W.cell? ⟨4, 0, none⟩ = some (.int .i64 0) ∧ W.cell? ⟨4, 1, none⟩ = some (.int .i64 0) := by
  obtain ⟨g', t', cs, fuel, p, h1, h2, h3, h4⟩ := at_head h
  have hg : Tryd.prog.globalNamed "loop.example/g00003/impl.everywhere" = some 4 := by kernel_rfl
  have ht : (Tryd.prog.globals[4]?).map (·.type) = some 31 := by kernel_rfl
  obtain rfl := Option.some.inj (hg.symm.trans h1)
  obtain rfl := Option.some.inj (ht.symm.trans h2)
  obtain ⟨y0, y1, n, hx, hl, k0, k1⟩ := trod_struct2 Tryd.underlying31 h4
  have c2 : Tryd.prog.cellsOf 2 = 1 := by kernel_rfl
  have c31 : Tryd.prog.cellsOf 31 = 2 := by kernel_rfl
  rw [c31] at hl
  simp only [c2] at k0 k1
  obtain ⟨a, e0, r0, _⟩ := DataW.trod_int Tryd.underlying2 k0
  obtain ⟨b, e1, r1, _⟩ := DataW.trod_int Tryd.underlying2 k1
  rw [r0, r1] at hx
  have hx := congrArg Prod.fst hx
  simp only [Rows.laid_loop_example_g00003_impl_everywhere, DataW.agg.injEq, List.cons.injEq, DataW.lit.injEq, Lit.int.injEq, true_and, and_true] at hx
  have v0 := World.var?_cell hg h3 0
  have v1 := World.var?_cell hg h3 1
  obtain ⟨l⟩ := cs
  match l, hl with
  | [x, y], _ =>
    simp at e0 e1 v0 v1
    exact ⟨by rw [v0, e0, ← hx.1], by rw [v1, e1, ← hx.2]⟩
/-- What the walk asks of the program's own variables. -/
theorem wds {W : World} (h : laidMet Tryd.prog Rows.fnExactShowRulesRow.laid W) : Wds W := by
  have h3 := laidMet.tail (laidMet.tail (laidMet.tail h))
  have h4 := laidMet.tail h3
  have h5 := laidMet.tail h4
  have h6 := laidMet.tail h5
  have h7 := laidMet.tail h6
  exact ⟨slis (t := 47) (e := 9) (l := wAct) (by kernel_rfl) (by kernel_rfl) Tryd.underlying47 Tryd.underlying9 (by kernel_rfl) h4,
    slis (t := 47) (e := 9) (l := wDir) (by kernel_rfl) (by kernel_rfl) Tryd.underlying47 Tryd.underlying9 (by kernel_rfl) h5,
    slis (t := 47) (e := 9) (l := wSta) (by kernel_rfl) (by kernel_rfl) Tryd.underlying47 Tryd.underlying9 (by kernel_rfl) h6,
    mapis h7, (everywhere h3).1, (everywhere h3).2⟩
/-- So many readings as variables. -/
theorem len {H : Type} {enc : TypeId × Value → H} {P : Program} {w : World} {sp : Nat → Bool} : ∀ {ns : List String} {gs : List (DataW H)} {q : List MemPlace}, DataW.TrodVars enc P w sp ns gs q → gs.length = ns.length
  | [], [], _, _ => rfl
  | [], _ :: _, _, h => h.elim
  | _ :: _, [], _, h => h.elim
  | _ :: ns, _ :: ds, _, h => by
    obtain ⟨_, _, _, _, _, _, _, _, _, _, hs, _⟩ := h
    simp [len hs]
theorem many5 {H : Type} {enc : TypeId × Value → H} {P : Program} {w : World} {sp : Nat → Bool} {a b c d e : String} {gs : List (DataW H)} {q : List MemPlace} (h : DataW.TrodVars enc P w sp [a, b, c, d, e] gs q) : ∃ g0 g1 g2 g3 g4, gs = [g0, g1, g2, g3, g4] := by
  have := len h
  match gs, this with
  | [g0, g1, g2, g3, g4], _ => exact ⟨g0, g1, g2, g3, g4, rfl⟩
/-- A start that meets the listed facts: the heap that the door's own run leaves. -/
theorem met (os : Os) (args : Array Value) : laidMet Tryd.prog Rows.fnExactShowRulesRow.laid ((World.doorLaid Tryd.prog 400 os).forCall (fun _ _ => 0) ⟨#[], args, []⟩).memory :=
  laidMet_of_run' 8 (by kernel_rfl) (by kernel_rfl)
end Go.Proofs.YtmgapmpmmkmdhaaDoor.Laid
