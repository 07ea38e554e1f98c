/- The row of the law FnExactEncodeArp: for all arguments the Go function returns true and leaves its arguments as they are; out of the printed contract and the pure statement. No condition. -/
import Derived.Test.YtbccgfnlmnkgmaaRows
import Derived.Test.YtbccgfnlmnkgmaaPFnExactEncodeArpx5
import Derived.Test.YtbccgfnlmnkgmaaPureFnExactEncodeArp
import Derived.WalkKit
import Derived.ProofKit
import Derived.OpenShut
import Derived.ShutString
import Derived.ChangeOld
import Derived.Below
import Derived.SizedLaws
import Derived.ChangeSlices
import Derived.ChangeSame
import Derived.Carry
namespace Go.Proofs.Ytbccgfnlmnkgmaa.fnExactEncodeArp
open Go.ChangeShapes Go.WideShapes Go.ChangeAt Go.RowKit
open Go.ChangeMaps (open_string shut_string)
set_option linter.unusedVariables false
set_option linter.unusedSimpArgs false
theorem own : ownKnob Try.prog.godebug = none := by kernel_rfl
theorem laidOut : laidOutB Try.prog = true := by kernel_rfl
section
variable {H : Type} {enc : TypeId × Value → H} {P : Program} {w : World} {base : Nat} {spare : Nat → Bool} {held : Bool}
/-- A struct's field reads by itself. -/
theorem field_at {t : TypeId} {fs : Array Field} {fuel : Nat} {cs sub : List Value} {x : DataW H × List MemPlace} {j c : Nat} {f : Field} (hs : P.underlying t = some (.struct fs)) (h : DataW.trod enc P w base spare held fuel t cs = some x)
    (hj : fs[j]? = some f) (hc : P.cellsOf f.type = c) (hd : (cs.drop f.offset).take c = sub) : ∃ n y, DataW.trod enc P w base spare held n f.type sub = some y := by
  obtain ⟨xs, n, _, _, _, hlen, hg⟩ := DataW.trod_struct hs h
  have g := hg j f hj
  rw [hc, hd] at g
  have hjl : j < fs.size := (Array.getElem?_eq_some_iff.1 hj).1
  rw [List.getElem?_eq_getElem (by omega)] at g
  exact ⟨n, _, g⟩
theorem leaf_int {t : TypeId} {k : IntKind} {fuel : Nat} {c : Value} {x : DataW H × List MemPlace} (ht : P.underlying t = some (.int k)) (h : DataW.trod enc P w base spare held fuel t [c] = some x) : ∃ n, c = .int k n ∧ (Lit.int k n).wf = true := by
  obtain ⟨n, he, _, hw⟩ := DataW.trod_int ht h
  exact ⟨n, by simpa using he, hw⟩
theorem leaf_bool {t : TypeId} {fuel : Nat} {c : Value} {x : DataW H × List MemPlace} (ht : P.underlying t = some .bool) (h : DataW.trod enc P w base spare held fuel t [c] = some x) : ∃ b, c = .bool b := by
  obtain ⟨n, he, _⟩ := DataW.trod_bool ht h
  exact ⟨n, by simpa using he⟩
theorem leaf_str {t : TypeId} {fuel : Nat} {c : Value} {x : DataW H × List MemPlace} (ht : P.underlying t = some .string) (h : DataW.trod enc P w base spare held fuel t [c] = some x) : ∃ s, c = .string s ∧ s.size ≤ maxLen := by
  obtain ⟨n, he, _, hw⟩ := DataW.trod_string ht h
  exact ⟨n, by simpa using he, hw⟩
def IsRow (k : IntKind) (w : World) (a : Option Addr) (len cap : Nat) (zs : List Int) : Prop :=
  (a = none ∧ len = 0 ∧ cap = 0 ∧ zs = []) ∨
  ∃ x, a = some x ∧ len ≤ cap ∧ cap ≤ maxLen ∧ zs.length = cap ∧ (∀ i, i < zs.length → w.cell? (x.add i) = some (.int k (zs.getD i 0))) ∧ ∀ n ∈ zs, (Lit.int k n).wf = true
theorem leaf_row {t e : TypeId} {k : IntKind} {fuel : Nat} {c : Value} {x : DataW H × List MemPlace} (ht : P.underlying t = some (.slice e)) (he : P.underlying e = some (.int k)) (hc : P.cellsOf e = 1)
    (h : DataW.trod enc P w base (fun _ => true) held fuel t [c] = some x) : ∃ a len cap zs, c = .slice a len cap ∧ IsRow k w a len cap zs := by
  rcases open_ints ht he hc h with ⟨hcs, _⟩ | ⟨x, l, c, zs, hcs, _, hl, hm, hz, _, hcell, hwz⟩
  · exact ⟨none, 0, 0, [], by simpa using hcs, .inl ⟨rfl, rfl, rfl, rfl⟩⟩
  · exact ⟨some x, l, c, zs, by simpa using hcs, .inr ⟨x, rfl, hl, hm, by simpa using hz, hcell, hwz⟩⟩
end

theorem arr5 {α : Type} {cs : Array α} (h : cs.size = 5) : ∃ c0 c1 c2 c3 c4, cs = #[c0, c1, c2, c3, c4] := by
  obtain ⟨l⟩ := cs
  match l, h with
  | [c0, c1, c2, c3, c4], _ => exact ⟨c0, c1, c2, c3, c4, rfl⟩
theorem open_t45 {H : Type} {b0 : Nat} {enc : TypeId × Value → H} {W : World} {v : Value} {d : DataW H} {p : List MemPlace} (hv : Value.okWide Try.prog W .any b0 45 v) (h : DataW.Trod enc Try.prog W 0 (fun _ => true) true 45 v d p) :
    ∃ (n0 : Int) (n1 : Int) (n2 : Int) (n3 : Int) (n4 : Int), v = .agg #[.int .i64 n0, .int .i64 n1, .int .i64 n2, .int .i64 n3, .int .i64 n4] ∧ (Lit.int .i64 n0).wf = true ∧ (Lit.int .i64 n1).wf = true ∧ (Lit.int .i64 n2).wf = true ∧ (Lit.int .i64 n3).wf = true ∧ (Lit.int .i64 n4).wf = true := by
  obtain ⟨cs, rfl, hsz⟩ := okWide_struct Try.underlying45 hv
  obtain ⟨c0, c1, c2, c3, c4, rfl⟩ := arr5 (hsz.trans (by kernel_rfl))
  obtain ⟨fuel, hf⟩ := h
  have hf : DataW.trod enc Try.prog W 0 (fun _ => true) true fuel 45 [c0, c1, c2, c3, c4] = some (d, p) := by simpa [Value.cells] using hf
  obtain ⟨m_h0, y_h0, h0⟩ := field_at Try.underlying45 hf (j := 0) (c := 1) (sub := [c0]) rfl (by kernel_rfl) rfl
  obtain ⟨n0, rfl, w0⟩ := leaf_int Try.underlying2 h0
  obtain ⟨m_h1, y_h1, h1⟩ := field_at Try.underlying45 hf (j := 1) (c := 1) (sub := [c1]) rfl (by kernel_rfl) rfl
  obtain ⟨n1, rfl, w1⟩ := leaf_int Try.underlying2 h1
  obtain ⟨m_h2, y_h2, h2⟩ := field_at Try.underlying45 hf (j := 2) (c := 1) (sub := [c2]) rfl (by kernel_rfl) rfl
  obtain ⟨n2, rfl, w2⟩ := leaf_int Try.underlying2 h2
  obtain ⟨m_h3, y_h3, h3⟩ := field_at Try.underlying45 hf (j := 3) (c := 1) (sub := [c3]) rfl (by kernel_rfl) rfl
  obtain ⟨n3, rfl, w3⟩ := leaf_int Try.underlying2 h3
  obtain ⟨m_h4, y_h4, h4⟩ := field_at Try.underlying45 hf (j := 4) (c := 1) (sub := [c4]) rfl (by kernel_rfl) rfl
  obtain ⟨n4, rfl, w4⟩ := leaf_int Try.underlying2 h4
  exact ⟨n0, n1, n2, n3, n4, rfl, w0, w1, w2, w3, w4⟩
set_option maxRecDepth 100000 in
theorem lifted (os : Os) (started : os.Started) (H : Type) (enc : TypeId × Value → H) :
    ReturnsInHanded {} Try.checked os 7 .any (Rows.fnExactEncodeArpSpec.pre6 enc Try.prog Try.f7 Rows.fnExactEncodeArpRow.domain false) (Rows.fnExactEncodeArpSpec.post enc Try.prog Try.f7 false true false false) := by
  refine returnsInHanded_of_change_sized (C := Try.checked) own started (by kernel_rfl) Try.func7
    (ChangeSpec.witness6 (enc := enc) (C := Try.checked) false ⟨#[], #[.agg #[.int .i64 0, .int .i64 0, .int .i64 0, .int .i64 0, .int .i64 0]], []⟩ 8 (by kernel_rfl) (by kernel_rfl) (by kernel_rfl) (by kernel_rfl)) ?_
  intro W base args ds gs before hval0 hW hcnd hsz0 _
  have hsz : (DataW.weightsEach Try.prog (Try.f7.params.toList ++ Rows.fnExactEncodeArpSpec.plain.varTypes Try.prog) (ds ++ gs)).all (· ≤ reachBytes) = true := hsz0
  have hval : ∀ (j : Nat) t v, Try.f7.params[j]? = some t → args[j]? = some v → Value.okWide Try.prog W .any base t v := hval0
  have hW' := hW
  obtain ⟨p, q, hA0, hV, rfl, hfz, hnd⟩ := hW
  have hA : DataW.TrodAll enc Try.prog W 0 (fun _ => true) true Try.f7.params.toList args.toList ds p := hA0
  rw [Try.params7] at hA hval hsz
  obtain ⟨v0, vs0, d0, ds0, p0, q0, hargs, rfl, rfl, h0, r0⟩ := trodAll_cons hA
  obtain ⟨rfl, rfl, rfl⟩ := trodAll_nil r0
  obtain rfl : args = #[v0] := by cases args; simp_all
  obtain ⟨rfl, rfl⟩ := trodVars_none hV
  have k0 := h0
  have lt0 : ∀ x ∈ p0, x.block < W.heap.size := by obtain ⟨m, hm⟩ := k0; exact DataW.trod_lt m _ _ _ hm
  obtain ⟨n0_0, n0_1, n0_2, n0_3, n0_4, rfl, w0_0, w0_1, w0_2, w0_3, w0_4⟩ := open_t45 (hval 0 45 v0 rfl rfl) h0
  clear hA0 hval0 hsz0 hsz
  obtain ⟨k, hP⟩ := Pure.FnExactEncodeArp n0_0 n0_1 n0_2 n0_3 n0_4 w0_0 w0_1 w0_2 w0_3 w0_4
  refine (PFnExactEncodeArp.laws_FnExactEncodeArp.calls k n0_0 n0_1 n0_2 n0_3 n0_4 true W hP).mono fun e W' he => ?_
  obtain ⟨he, bel⟩ := he
  subst he
  have bel : Below W.heap.size W W' := by first | exact bel | exact bel.below
  exact ⟨_, rfl, _, _, _, [], _, [], hW', trodAll_mk1 (shut_bool Try.underlying4 _), (trodAll_cons_mk (Below.trod laidOut (by kernel_rfl) (of_decide_eq_true (by kernel_rfl)) k0 bel lt0) trodAll_mk0), rfl, bel.frame _, fun h => by cases h⟩
theorem over : Rows.fnExactEncodeArpRow.holds Try.pinned (OpenSpec.ofChange Rows.fnExactEncodeArpSpec) :=
  OpenClaim.holds_of_wide 7 Try.f7 rfl rfl rfl rfl rfl rfl rfl ⟨rfl, rfl, rfl, rfl, rfl⟩ rfl rfl rfl rfl rfl (by kernel_rfl) Try.func7 (by kernel_rfl)
    (of_decide_eq_true (by kernel_rfl)) (by unfold Func.isWrapper; first | (rw [if_pos (by decide +kernel)]; kernel_rfl) | (rw [if_neg (by decide +kernel)]; exact ⟨rfl, rfl⟩))
    (fun os started H enc _ => lifted os started H enc)
theorem proved : Rows.FnExactEncodeArpSaid := over
#print axioms proved
end Go.Proofs.Ytbccgfnlmnkgmaa.fnExactEncodeArp
namespace Go.Proofs.Ytbccgfnlmnkgmaa
/-- The row, under a short name, for the claim. -/
theorem fnExactEncodeArp_holds : Rows.FnExactEncodeArpSaid := fnExactEncodeArp.proved
end Go.Proofs.Ytbccgfnlmnkgmaa
