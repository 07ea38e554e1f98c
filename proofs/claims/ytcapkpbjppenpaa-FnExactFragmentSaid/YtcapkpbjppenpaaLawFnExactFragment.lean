/- The row of the law FnExactFragment: for all arguments the Go function returns true and leaves its arguments as they are; out of the printed contract and the pure statement. No condition. -/
import Derived.Test.YtcapkpbjppenpaaRows
import Derived.Test.YtcapkpbjppenpaaPFnExactFragmentx7
import Derived.Test.YtcapkpbjppenpaaPureFnExactFragment
import Derived.WalkKit
import Derived.ProofKit
import Derived.OpenShut
import Derived.ShutString
import Derived.ChangeOld
import Derived.Below
import Derived.SizedLaws
import Derived.ChangeSlices
import Derived.ChangeSame
import Derived.Carry
import Derived.Deep.Slices
import Derived.Deep.Fields
namespace Go.Proofs.Ytcapkpbjppenpaa.fnExactFragment
open Go.ChangeShapes Go.WideShapes Go.ChangeAt Go.RowKit
open Go.ChangeMaps (open_string shut_string)
set_option linter.unusedVariables false
set_option linter.unusedSimpArgs false
theorem own : ownKnob Try.prog.godebug = none := by kernel_rfl
theorem laidOut : laidOutB Try.prog = true := by kernel_rfl
section
variable {H : Type} {enc : TypeId × Value → H} {P : Program} {w : World} {base : Nat} {spare : Nat → Bool} {held : Bool}
/-- A struct's field reads by itself. -/
theorem field_at {t : TypeId} {fs : Array Field} {fuel : Nat} {cs sub : List Value} {x : DataW H × List MemPlace} {j c : Nat} {f : Field} (hs : P.underlying t = some (.struct fs)) (h : DataW.trod enc P w base spare held fuel t cs = some x)
    (hj : fs[j]? = some f) (hc : P.cellsOf f.type = c) (hd : (cs.drop f.offset).take c = sub) : ∃ n y, DataW.trod enc P w base spare held n f.type sub = some y := by
  obtain ⟨xs, n, _, _, _, hlen, hg⟩ := DataW.trod_struct hs h
  have g := hg j f hj
  rw [hc, hd] at g
  have hjl : j < fs.size := (Array.getElem?_eq_some_iff.1 hj).1
  rw [List.getElem?_eq_getElem (by omega)] at g
  exact ⟨n, _, g⟩
theorem leaf_int {t : TypeId} {k : IntKind} {fuel : Nat} {c : Value} {x : DataW H × List MemPlace} (ht : P.underlying t = some (.int k)) (h : DataW.trod enc P w base spare held fuel t [c] = some x) : ∃ n, c = .int k n ∧ (Lit.int k n).wf = true := by
  obtain ⟨n, he, _, hw⟩ := DataW.trod_int ht h
  exact ⟨n, by simpa using he, hw⟩
theorem leaf_bool {t : TypeId} {fuel : Nat} {c : Value} {x : DataW H × List MemPlace} (ht : P.underlying t = some .bool) (h : DataW.trod enc P w base spare held fuel t [c] = some x) : ∃ b, c = .bool b := by
  obtain ⟨n, he, _⟩ := DataW.trod_bool ht h
  exact ⟨n, by simpa using he⟩
theorem leaf_str {t : TypeId} {fuel : Nat} {c : Value} {x : DataW H × List MemPlace} (ht : P.underlying t = some .string) (h : DataW.trod enc P w base spare held fuel t [c] = some x) : ∃ s, c = .string s ∧ s.size ≤ maxLen := by
  obtain ⟨n, he, _, hw⟩ := DataW.trod_string ht h
  exact ⟨n, by simpa using he, hw⟩
def IsRow (k : IntKind) (w : World) (a : Option Addr) (len cap : Nat) (zs : List Int) : Prop :=
  (a = none ∧ len = 0 ∧ cap = 0 ∧ zs = []) ∨
  ∃ x, a = some x ∧ len ≤ cap ∧ cap ≤ maxLen ∧ zs.length = cap ∧ (∀ i, i < zs.length → w.cell? (x.add i) = some (.int k (zs.getD i 0))) ∧ ∀ n ∈ zs, (Lit.int k n).wf = true
theorem leaf_row {t e : TypeId} {k : IntKind} {fuel : Nat} {c : Value} {x : DataW H × List MemPlace} (ht : P.underlying t = some (.slice e)) (he : P.underlying e = some (.int k)) (hc : P.cellsOf e = 1)
    (h : DataW.trod enc P w base (fun _ => true) held fuel t [c] = some x) : ∃ a len cap zs, c = .slice a len cap ∧ IsRow k w a len cap zs := by
  rcases open_ints ht he hc h with ⟨hcs, _⟩ | ⟨x, l, c, zs, hcs, _, hl, hm, hz, _, hcell, hwz⟩
  · exact ⟨none, 0, 0, [], by simpa using hcs, .inl ⟨rfl, rfl, rfl, rfl⟩⟩
  · exact ⟨some x, l, c, zs, by simpa using hcs, .inr ⟨x, rfl, hl, hm, by simpa using hz, hcell, hwz⟩⟩
theorem leaf_rows {α : Type} {d : Go.Proofs.YtcapkpbjppenpaaW.PrintWords.Kd α} {t e : TypeId} {fuel : Nat} {c : Value} {x : DataW H × List MemPlace} (ht : P.underlying t = some (.slice e)) (hC : P.cellsOf e = d.sz) (Q : α → Prop)
    (hel : ∀ n cs y, DataW.trod enc P w base spare held n e cs = some y → cs.length = d.sz → ∃ a, d.K w a cs ∧ Q a)
    (h : DataW.trod enc P w base spare held fuel t [c] = some x) : ∃ (A : Option Addr) (cap : Nat) (xs : List α), c = .slice A xs.length cap ∧ Go.Proofs.YtcapkpbjppenpaaW.PrintWords.Kd.C d w A xs.length xs ∧ xs.length ≤ cap ∧ xs.length ≤ maxLen ∧ ∀ a ∈ xs, Q a := by
  rcases Go.Deep.open_slice ht h with ⟨h0, _⟩ | ⟨a, len, cap, m, n, D, Pl, hcs, hb, hl, hm, hmm, hx, hi⟩
  · exact ⟨none, 0, [], by simpa using h0, ⟨rfl, by simp, fun hn => absurd hn (by simp)⟩, Nat.le_refl _, by simp, fun a ha => by simp at ha⟩
  · have hlm : len ≤ m := by rw [hmm]; split <;> omega
    have key : ∀ k, k ≤ len → ∃ xs : List α, xs.length = k ∧ (∀ a ∈ xs, Q a) ∧ ∀ j p, xs[j]? = some p → ∃ c, c.length = d.sz ∧ d.K w p c ∧ ∀ i u, c[i]? = some u → w.cell? (a.add (j * d.sz + i)) = some u := by
      intro k
      induction k with
      | zero => exact fun _ => ⟨[], rfl, fun a ha => by simp at ha, fun j p hj => by simp at hj⟩
      | succ k ih =>
        intro hk
        obtain ⟨xs, hxl, hxq, hxc⟩ := ih (by omega)
        obtain ⟨cs', hc, ht'⟩ := hi k (by omega)
        rw [hC] at hc
        obtain ⟨_, hcl, hat⟩ := World.cells?_some hc
        obtain ⟨p, hp, hq⟩ := hel n cs' _ ht' hcl
        refine ⟨xs ++ [p], by simp [hxl], fun a ha => ?_, fun j q hj => ?_⟩
        · rcases List.mem_append.1 ha with ha | ha
          · exact hxq a ha
          · rw [List.mem_singleton.1 ha]; exact hq
        · by_cases hjk : j < k
          · rw [List.getElem?_append_left (by omega)] at hj
            exact hxc j q hj
          · have hjl : j = k := by
              have := (List.getElem?_eq_some_iff.1 hj).1
              rw [List.length_append, hxl] at this
              simp at this
              omega
            subst hjl
            rw [List.getElem?_append_right (by omega), hxl] at hj
            simp only [Nat.sub_self, List.getElem?_cons_zero, Option.some.injEq] at hj
            subst hj
            refine ⟨cs', hcl, hp, fun i u hu => ?_⟩
            have hil : i < d.sz := by have := (List.getElem?_eq_some_iff.1 hu).1; omega
            rw [← Go.Deep.add_add, hat i hil, hu]
    obtain ⟨xs, hxl, hxq, hxc⟩ := key len (Nat.le_refl _)
    exact ⟨some a, cap, xs, by rw [hxl]; simpa using hcs, ⟨rfl, by have : maxLen = 9223372036854775807 := rfl; omega, fun _ => ⟨a, rfl, hxc⟩⟩, by omega, by omega, hxq⟩
end

set_option maxRecDepth 100000 in
theorem arr11 {α : Type} {cs : Array α} (h : cs.size = 11) : ∃ c0 c1 c2 c3 c4 c5 c6 c7 c8 c9 c10, cs = #[c0, c1, c2, c3, c4, c5, c6, c7, c8, c9, c10] := by
  obtain ⟨l⟩ := cs
  match l, h with
  | [c0, c1, c2, c3, c4, c5, c6, c7, c8, c9, c10], _ => exact ⟨c0, c1, c2, c3, c4, c5, c6, c7, c8, c9, c10, rfl⟩
set_option maxRecDepth 100000 in
theorem open_t24 {H : Type} {b0 : Nat} {enc : TypeId × Value → H} {W : World} {v : Value} {d : DataW H} {p : List MemPlace} (hv : Value.okWide Try.prog W .any b0 24 v) (h : DataW.Trod enc Try.prog W 0 (fun _ => true) true 24 v d p) :
    ∃ (n0 : Int) (n1 : Int) (b2 : Bool) (b3 : Bool) (n4 : Int) (n5 : Int) (n6 : Int) (n7 : Int) (n8 : Int) (a9 : Option Addr) (len9 cap9 : Nat) (z9 : List Int) (a10 : Option Addr) (len10 cap10 : Nat) (z10 : List Int), v = .agg #[.int .i64 n0, .int .i64 n1, .bool b2, .bool b3, .int .i64 n4, .int .i64 n5, .int .i64 n6, .int .i64 n7, .int .i64 n8, .slice a9 len9 cap9, .slice a10 len10 cap10] ∧ (Lit.int .i64 n0).wf = true ∧ (Lit.int .i64 n1).wf = true ∧ (Lit.int .i64 n4).wf = true ∧ (Lit.int .i64 n5).wf = true ∧ (Lit.int .i64 n6).wf = true ∧ (Lit.int .i64 n7).wf = true ∧ (Lit.int .i64 n8).wf = true ∧ IsRow .u8 W a9 len9 cap9 z9 ∧ IsRow .u8 W a10 len10 cap10 z10 := by
  obtain ⟨cs, rfl, hsz⟩ := okWide_struct Try.underlying24 hv
  obtain ⟨c0, c1, c2, c3, c4, c5, c6, c7, c8, c9, c10, rfl⟩ := arr11 (hsz.trans (by kernel_rfl))
  obtain ⟨fuel, hf⟩ := h
  have hf : DataW.trod enc Try.prog W 0 (fun _ => true) true fuel 24 [c0, c1, c2, c3, c4, c5, c6, c7, c8, c9, c10] = some (d, p) := by simpa [Value.cells] using hf
  obtain ⟨m_h0, y_h0, h0⟩ := field_at Try.underlying24 hf (j := 0) (c := 1) (sub := [c0]) rfl (by kernel_rfl) rfl
  obtain ⟨n0, rfl, w0⟩ := leaf_int Try.underlying2 h0
  obtain ⟨m_h1, y_h1, h1⟩ := field_at Try.underlying24 hf (j := 1) (c := 1) (sub := [c1]) rfl (by kernel_rfl) rfl
  obtain ⟨n1, rfl, w1⟩ := leaf_int Try.underlying2 h1
  obtain ⟨m_h2, y_h2, h2⟩ := field_at Try.underlying24 hf (j := 2) (c := 1) (sub := [c2]) rfl (by kernel_rfl) rfl
  obtain ⟨b2, rfl⟩ := leaf_bool Try.underlying4 h2
  obtain ⟨m_h3, y_h3, h3⟩ := field_at Try.underlying24 hf (j := 3) (c := 1) (sub := [c3]) rfl (by kernel_rfl) rfl
  obtain ⟨b3, rfl⟩ := leaf_bool Try.underlying4 h3
  obtain ⟨m_h4, y_h4, h4⟩ := field_at Try.underlying24 hf (j := 4) (c := 1) (sub := [c4]) rfl (by kernel_rfl) rfl
  obtain ⟨n4, rfl, w4⟩ := leaf_int Try.underlying2 h4
  obtain ⟨m_h5, y_h5, h5⟩ := field_at Try.underlying24 hf (j := 5) (c := 1) (sub := [c5]) rfl (by kernel_rfl) rfl
  obtain ⟨n5, rfl, w5⟩ := leaf_int Try.underlying2 h5
  obtain ⟨m_h6, y_h6, h6⟩ := field_at Try.underlying24 hf (j := 6) (c := 1) (sub := [c6]) rfl (by kernel_rfl) rfl
  obtain ⟨n6, rfl, w6⟩ := leaf_int Try.underlying2 h6
  obtain ⟨m_h7, y_h7, h7⟩ := field_at Try.underlying24 hf (j := 7) (c := 1) (sub := [c7]) rfl (by kernel_rfl) rfl
  obtain ⟨n7, rfl, w7⟩ := leaf_int Try.underlying2 h7
  obtain ⟨m_h8, y_h8, h8⟩ := field_at Try.underlying24 hf (j := 8) (c := 1) (sub := [c8]) rfl (by kernel_rfl) rfl
  obtain ⟨n8, rfl, w8⟩ := leaf_int Try.underlying2 h8
  obtain ⟨m_h9, y_h9, h9⟩ := field_at Try.underlying24 hf (j := 9) (c := 1) (sub := [c9]) rfl (by kernel_rfl) rfl
  obtain ⟨a9, len9, cap9, z9, rfl, w9⟩ := leaf_row Try.underlying22 Try.underlying5 (by kernel_rfl) h9
  obtain ⟨m_h10, y_h10, h10⟩ := field_at Try.underlying24 hf (j := 10) (c := 1) (sub := [c10]) rfl (by kernel_rfl) rfl
  obtain ⟨a10, len10, cap10, z10, rfl, w10⟩ := leaf_row Try.underlying22 Try.underlying5 (by kernel_rfl) h10
  exact ⟨n0, n1, b2, b3, n4, n5, n6, n7, n8, a9, len9, cap9, z9, a10, len10, cap10, z10, rfl, w0, w1, w4, w5, w6, w7, w8, w9, w10⟩
set_option maxRecDepth 100000 in
theorem lifted (os : Os) (started : os.Started) (H : Type) (enc : TypeId × Value → H) :
    ReturnsInHanded {} Try.checked os 3 .any (Rows.fnExactFragmentSpec.pre6 enc Try.prog Try.f3 Rows.fnExactFragmentRow.domain false) (Rows.fnExactFragmentSpec.post enc Try.prog Try.f3 false true false false) := by
  refine returnsInHanded_of_change_sized (C := Try.checked) own started (by kernel_rfl) Try.func3
    (ChangeSpec.witness6 (enc := enc) (C := Try.checked) false ⟨#[], #[.agg #[.int .i64 0, .int .i64 0, .bool false, .bool false, .int .i64 0, .int .i64 0, .int .i64 0, .int .i64 0, .int .i64 0, .slice none 0 0, .slice none 0 0], .int .i64 0], []⟩ 8 (by kernel_rfl) (by kernel_rfl) (by kernel_rfl) (by kernel_rfl)) ?_
  intro W base args ds gs before hval0 hW hcnd hsz0 _
  have hsz : (DataW.weightsEach Try.prog (Try.f3.params.toList ++ Rows.fnExactFragmentSpec.plain.varTypes Try.prog) (ds ++ gs)).all (· ≤ reachBytes) = true := hsz0
  have hval : ∀ (j : Nat) t v, Try.f3.params[j]? = some t → args[j]? = some v → Value.okWide Try.prog W .any base t v := hval0
  have hW' := hW
  obtain ⟨p, q, hA0, hV, rfl, hfz, hnd⟩ := hW
  have hA : DataW.TrodAll enc Try.prog W 0 (fun _ => true) true Try.f3.params.toList args.toList ds p := hA0
  rw [Try.params3] at hA hval hsz
  obtain ⟨v0, vs0, d0, ds0, p0, q0, hargs, rfl, rfl, h0, r0⟩ := trodAll_cons hA
  obtain ⟨v1, vs1, d1, ds1, p1, q1, rfl, rfl, rfl, h1, r1⟩ := trodAll_cons r0
  obtain ⟨rfl, rfl, rfl⟩ := trodAll_nil r1
  obtain rfl : args = #[v0, v1] := by cases args; simp_all
  obtain ⟨rfl, rfl⟩ := trodVars_none hV
  have k0 := h0
  have lt0 : ∀ x ∈ p0, x.block < W.heap.size := by obtain ⟨m, hm⟩ := k0; exact DataW.trod_lt m _ _ _ hm
  obtain ⟨n0_0, n0_1, b0_2, b0_3, n0_4, n0_5, n0_6, n0_7, n0_8, a0_9, len0_9, cap0_9, z0_9, a0_10, len0_10, cap0_10, z0_10, rfl, w0_0, w0_1, w0_4, w0_5, w0_6, w0_7, w0_8, w0_9, w0_10⟩ := open_t24 (hval 0 24 v0 rfl rfl) h0
  obtain ⟨n1, rfl, rfl, rfl, w1⟩ := open_int Try.underlying2 (hval 1 2 v1 rfl rfl) h1
  obtain ⟨l0_9, rfl, hr0_9, hm0_9, hw0_9, hc0_9⟩ := Go.Proofs.YtcapkpbjppenpaaW.PrintWords.ReadsInt.ofRowC w0_9
  obtain ⟨l0_10, rfl, hr0_10, hm0_10, hw0_10, hc0_10⟩ := Go.Proofs.YtcapkpbjppenpaaW.PrintWords.ReadsInt.ofRowC w0_10
  clear hA0 hval0 hsz0 hsz
  obtain ⟨k, hP⟩ := Pure.FnExactFragment n0_0 n0_1 b0_2 b0_3 n0_4 n0_5 n0_6 n0_7 n0_8 l0_9 l0_10 n1 w0_0 w0_1 w0_4 w0_5 w0_6 w0_7 w0_8 hm0_9 hw0_9 hm0_10 hw0_10 w1
  refine (PFnExactFragment.laws_FnExactFragment.calls k n0_0 n0_1 b0_2 b0_3 n0_4 n0_5 n0_6 n0_7 n0_8 _ _ l0_9 _ _ l0_10 n1 true W (Go.Proofs.YtcapkpbjppenpaaW.PrintWords.Kd.C_of_reads (d := (0 : Int)) (h1 := fun _ => rfl) hr0_9) hc0_9 (Go.Proofs.YtcapkpbjppenpaaW.PrintWords.Kd.C_of_reads (d := (0 : Int)) (h1 := fun _ => rfl) hr0_10) hc0_10 hP).mono fun e W' he => ?_
  obtain ⟨he, bel⟩ := he
  subst he
  have bel : Below W.heap.size W W' := by first | exact bel | exact bel.below
  exact ⟨_, rfl, _, _, _, [], _, [], hW', trodAll_mk1 (shut_bool Try.underlying4 _), (trodAll_cons_mk (Below.trod laidOut (by kernel_rfl) (of_decide_eq_true (by kernel_rfl)) k0 bel lt0) (trodAll_cons_mk (shut_int Try.underlying2 w1) trodAll_mk0)), rfl, bel.frame _, fun h => by cases h⟩
theorem over : Rows.fnExactFragmentRow.holds Try.pinned (OpenSpec.ofChange Rows.fnExactFragmentSpec) :=
  OpenClaim.holds_of_wide 3 Try.f3 rfl rfl rfl rfl rfl rfl rfl ⟨rfl, rfl, rfl, rfl, rfl⟩ rfl rfl rfl rfl rfl (by kernel_rfl) Try.func3 (by kernel_rfl)
    (of_decide_eq_true (by kernel_rfl)) (by unfold Func.isWrapper; first | (rw [if_pos (by decide +kernel)]; kernel_rfl) | (rw [if_neg (by decide +kernel)]; exact ⟨rfl, rfl⟩))
    (fun os started H enc _ => lifted os started H enc)
theorem proved : Rows.FnExactFragmentSaid := over
#print axioms proved
end Go.Proofs.Ytcapkpbjppenpaa.fnExactFragment
namespace Go.Proofs.Ytcapkpbjppenpaa
/-- The row, under a short name, for the claim. -/
theorem fnExactFragment_holds : Rows.FnExactFragmentSaid := fnExactFragment.proved
end Go.Proofs.Ytcapkpbjppenpaa
