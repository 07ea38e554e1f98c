/- The row of the law FnExactEncodeUdp: for all arguments the Go function returns true and leaves its arguments as they are; out of the printed contract and the pure statement. No condition. -/
import Derived.Test.YtbccgfnlmnkgmaaRows
import Derived.Test.YtbccgfnlmnkgmaaPFnExactEncodeUdpx6
import Derived.Test.YtbccgfnlmnkgmaaPureFnExactEncodeUdp
import Derived.WalkKit
import Derived.ProofKit
import Derived.OpenShut
import Derived.ShutString
import Derived.ChangeOld
import Derived.Below
import Derived.SizedLaws
import Derived.ChangeSlices
import Derived.ChangeSame
import Derived.Carry
namespace Go.Proofs.Ytbccgfnlmnkgmaa.fnExactEncodeUdp
open Go.ChangeShapes Go.WideShapes Go.ChangeAt Go.RowKit
open Go.ChangeMaps (open_string shut_string)
set_option linter.unusedVariables false
set_option linter.unusedSimpArgs false
theorem own : ownKnob Try.prog.godebug = none := by kernel_rfl
theorem laidOut : laidOutB Try.prog = true := by kernel_rfl
section
variable {H : Type} {enc : TypeId × Value → H} {P : Program} {w : World} {base : Nat} {spare : Nat → Bool} {held : Bool}
/-- A struct's field reads by itself. -/
theorem field_at {t : TypeId} {fs : Array Field} {fuel : Nat} {cs sub : List Value} {x : DataW H × List MemPlace} {j c : Nat} {f : Field} (hs : P.underlying t = some (.struct fs)) (h : DataW.trod enc P w base spare held fuel t cs = some x)
    (hj : fs[j]? = some f) (hc : P.cellsOf f.type = c) (hd : (cs.drop f.offset).take c = sub) : ∃ n y, DataW.trod enc P w base spare held n f.type sub = some y := by
  obtain ⟨xs, n, _, _, _, hlen, hg⟩ := DataW.trod_struct hs h
  have g := hg j f hj
  rw [hc, hd] at g
  have hjl : j < fs.size := (Array.getElem?_eq_some_iff.1 hj).1
  rw [List.getElem?_eq_getElem (by omega)] at g
  exact ⟨n, _, g⟩
theorem leaf_int {t : TypeId} {k : IntKind} {fuel : Nat} {c : Value} {x : DataW H × List MemPlace} (ht : P.underlying t = some (.int k)) (h : DataW.trod enc P w base spare held fuel t [c] = some x) : ∃ n, c = .int k n ∧ (Lit.int k n).wf = true := by
  obtain ⟨n, he, _, hw⟩ := DataW.trod_int ht h
  exact ⟨n, by simpa using he, hw⟩
theorem leaf_bool {t : TypeId} {fuel : Nat} {c : Value} {x : DataW H × List MemPlace} (ht : P.underlying t = some .bool) (h : DataW.trod enc P w base spare held fuel t [c] = some x) : ∃ b, c = .bool b := by
  obtain ⟨n, he, _⟩ := DataW.trod_bool ht h
  exact ⟨n, by simpa using he⟩
theorem leaf_str {t : TypeId} {fuel : Nat} {c : Value} {x : DataW H × List MemPlace} (ht : P.underlying t = some .string) (h : DataW.trod enc P w base spare held fuel t [c] = some x) : ∃ s, c = .string s ∧ s.size ≤ maxLen := by
  obtain ⟨n, he, _, hw⟩ := DataW.trod_string ht h
  exact ⟨n, by simpa using he, hw⟩
def IsRow (k : IntKind) (w : World) (a : Option Addr) (len cap : Nat) (zs : List Int) : Prop :=
  (a = none ∧ len = 0 ∧ cap = 0 ∧ zs = []) ∨
  ∃ x, a = some x ∧ len ≤ cap ∧ cap ≤ maxLen ∧ zs.length = cap ∧ (∀ i, i < zs.length → w.cell? (x.add i) = some (.int k (zs.getD i 0))) ∧ ∀ n ∈ zs, (Lit.int k n).wf = true
theorem leaf_row {t e : TypeId} {k : IntKind} {fuel : Nat} {c : Value} {x : DataW H × List MemPlace} (ht : P.underlying t = some (.slice e)) (he : P.underlying e = some (.int k)) (hc : P.cellsOf e = 1)
    (h : DataW.trod enc P w base (fun _ => true) held fuel t [c] = some x) : ∃ a len cap zs, c = .slice a len cap ∧ IsRow k w a len cap zs := by
  rcases open_ints ht he hc h with ⟨hcs, _⟩ | ⟨x, l, c, zs, hcs, _, hl, hm, hz, _, hcell, hwz⟩
  · exact ⟨none, 0, 0, [], by simpa using hcs, .inl ⟨rfl, rfl, rfl, rfl⟩⟩
  · exact ⟨some x, l, c, zs, by simpa using hcs, .inr ⟨x, rfl, hl, hm, by simpa using hz, hcell, hwz⟩⟩
end

theorem arr3 {α : Type} {cs : Array α} (h : cs.size = 3) : ∃ c0 c1 c2, cs = #[c0, c1, c2] := by
  obtain ⟨l⟩ := cs
  match l, h with
  | [c0, c1, c2], _ => exact ⟨c0, c1, c2, rfl⟩
theorem open_t81 {H : Type} {b0 : Nat} {enc : TypeId × Value → H} {W : World} {v : Value} {d : DataW H} {p : List MemPlace} (hv : Value.okWide Try.prog W .any b0 81 v) (h : DataW.Trod enc Try.prog W 0 (fun _ => true) true 81 v d p) :
    ∃ (n0 : Int) (n1 : Int) (a2 : Option Addr) (len2 cap2 : Nat) (z2 : List Int), v = .agg #[.int .i64 n0, .int .i64 n1, .slice a2 len2 cap2] ∧ (Lit.int .i64 n0).wf = true ∧ (Lit.int .i64 n1).wf = true ∧ IsRow .u8 W a2 len2 cap2 z2 := by
  obtain ⟨cs, rfl, hsz⟩ := okWide_struct Try.underlying81 hv
  obtain ⟨c0, c1, c2, rfl⟩ := arr3 (hsz.trans (by kernel_rfl))
  obtain ⟨fuel, hf⟩ := h
  have hf : DataW.trod enc Try.prog W 0 (fun _ => true) true fuel 81 [c0, c1, c2] = some (d, p) := by simpa [Value.cells] using hf
  obtain ⟨m_h0, y_h0, h0⟩ := field_at Try.underlying81 hf (j := 0) (c := 1) (sub := [c0]) rfl (by kernel_rfl) rfl
  obtain ⟨n0, rfl, w0⟩ := leaf_int Try.underlying2 h0
  obtain ⟨m_h1, y_h1, h1⟩ := field_at Try.underlying81 hf (j := 1) (c := 1) (sub := [c1]) rfl (by kernel_rfl) rfl
  obtain ⟨n1, rfl, w1⟩ := leaf_int Try.underlying2 h1
  obtain ⟨m_h2, y_h2, h2⟩ := field_at Try.underlying81 hf (j := 2) (c := 1) (sub := [c2]) rfl (by kernel_rfl) rfl
  obtain ⟨a2, len2, cap2, z2, rfl, w2⟩ := leaf_row Try.underlying22 Try.underlying5 (by kernel_rfl) h2
  exact ⟨n0, n1, a2, len2, cap2, z2, rfl, w0, w1, w2⟩
set_option maxRecDepth 100000 in
theorem lifted (os : Os) (started : os.Started) (H : Type) (enc : TypeId × Value → H) :
    ReturnsInHanded {} Try.checked os 13 .any (Rows.fnExactEncodeUdpSpec.pre6 enc Try.prog Try.f13 Rows.fnExactEncodeUdpRow.domain false) (Rows.fnExactEncodeUdpSpec.post enc Try.prog Try.f13 false true false false) := by
  refine returnsInHanded_of_change_sized (C := Try.checked) own started (by kernel_rfl) Try.func13
    (ChangeSpec.witness6 (enc := enc) (C := Try.checked) false ⟨#[], #[.agg #[.int .i64 0, .int .i64 0, .slice none 0 0], .int .i64 0, .int .i64 0], []⟩ 8 (by kernel_rfl) (by kernel_rfl) (by kernel_rfl) (by kernel_rfl)) ?_
  intro W base args ds gs before hval0 hW hcnd hsz0 _
  have hsz : (DataW.weightsEach Try.prog (Try.f13.params.toList ++ Rows.fnExactEncodeUdpSpec.plain.varTypes Try.prog) (ds ++ gs)).all (· ≤ reachBytes) = true := hsz0
  have hval : ∀ (j : Nat) t v, Try.f13.params[j]? = some t → args[j]? = some v → Value.okWide Try.prog W .any base t v := hval0
  have hW' := hW
  obtain ⟨p, q, hA0, hV, rfl, hfz, hnd⟩ := hW
  have hA : DataW.TrodAll enc Try.prog W 0 (fun _ => true) true Try.f13.params.toList args.toList ds p := hA0
  rw [Try.params13] at hA hval hsz
  obtain ⟨v0, vs0, d0, ds0, p0, q0, hargs, rfl, rfl, h0, r0⟩ := trodAll_cons hA
  obtain ⟨v1, vs1, d1, ds1, p1, q1, rfl, rfl, rfl, h1, r1⟩ := trodAll_cons r0
  obtain ⟨v2, vs2, d2, ds2, p2, q2, rfl, rfl, rfl, h2, r2⟩ := trodAll_cons r1
  obtain ⟨rfl, rfl, rfl⟩ := trodAll_nil r2
  obtain rfl : args = #[v0, v1, v2] := by cases args; simp_all
  obtain ⟨rfl, rfl⟩ := trodVars_none hV
  have k0 := h0
  have lt0 : ∀ x ∈ p0, x.block < W.heap.size := by obtain ⟨m, hm⟩ := k0; exact DataW.trod_lt m _ _ _ hm
  obtain ⟨n0_0, n0_1, a0_2, len0_2, cap0_2, z0_2, rfl, w0_0, w0_1, w0_2⟩ := open_t81 (hval 0 81 v0 rfl rfl) h0
  obtain ⟨n1, rfl, rfl, rfl, w1⟩ := open_int Try.underlying2 (hval 1 2 v1 rfl rfl) h1
  obtain ⟨n2, rfl, rfl, rfl, w2⟩ := open_int Try.underlying2 (hval 2 2 v2 rfl rfl) h2
  obtain ⟨l0_2, rfl, hr0_2, hm0_2, hw0_2, hc0_2⟩ := Go.Proofs.YtbccgfnlmnkgmaaW.PrintWords.ReadsInt.ofRowC w0_2
  clear hA0 hval0 hsz0 hsz
  obtain ⟨k, hP⟩ := Pure.FnExactEncodeUdp n0_0 n0_1 l0_2 n1 n2 w0_0 w0_1 hm0_2 hw0_2 w1 w2
  refine (PFnExactEncodeUdp.laws_FnExactEncodeUdp.calls k n0_0 n0_1 _ _ l0_2 n1 n2 true W (Go.Proofs.YtbccgfnlmnkgmaaW.PrintWords.Kd.C_of_reads (d := (0 : Int)) (h1 := fun _ => rfl) hr0_2) hc0_2 hP).mono fun e W' he => ?_
  obtain ⟨he, bel⟩ := he
  subst he
  have bel : Below W.heap.size W W' := by first | exact bel | exact bel.below
  exact ⟨_, rfl, _, _, _, [], _, [], hW', trodAll_mk1 (shut_bool Try.underlying4 _), (trodAll_cons_mk (Below.trod laidOut (by kernel_rfl) (of_decide_eq_true (by kernel_rfl)) k0 bel lt0) (trodAll_cons_mk (shut_int Try.underlying2 w1) (trodAll_cons_mk (shut_int Try.underlying2 w2) trodAll_mk0))), rfl, bel.frame _, fun h => by cases h⟩
theorem over : Rows.fnExactEncodeUdpRow.holds Try.pinned (OpenSpec.ofChange Rows.fnExactEncodeUdpSpec) :=
  OpenClaim.holds_of_wide 13 Try.f13 rfl rfl rfl rfl rfl rfl rfl ⟨rfl, rfl, rfl, rfl, rfl⟩ rfl rfl rfl rfl rfl (by kernel_rfl) Try.func13 (by kernel_rfl)
    (of_decide_eq_true (by kernel_rfl)) (by unfold Func.isWrapper; first | (rw [if_pos (by decide +kernel)]; kernel_rfl) | (rw [if_neg (by decide +kernel)]; exact ⟨rfl, rfl⟩))
    (fun os started H enc _ => lifted os started H enc)
theorem proved : Rows.FnExactEncodeUdpSaid := over
#print axioms proved
end Go.Proofs.Ytbccgfnlmnkgmaa.fnExactEncodeUdp
namespace Go.Proofs.Ytbccgfnlmnkgmaa
/-- The row, under a short name, for the claim. -/
theorem fnExactEncodeUdp_holds : Rows.FnExactEncodeUdpSaid := fnExactEncodeUdp.proved
end Go.Proofs.Ytbccgfnlmnkgmaa
