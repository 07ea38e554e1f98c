/- The row of the law FnExactBoardAgain: for all arguments the Go function returns true and leaves its arguments as they are; out of the printed contract and the pure statement. No condition. -/
import Derived.Test.YtkfbcmbemihbnaaRows
import Derived.Test.YtkfbcmbemihbnaaPFnExactBoardAgainx6
import Derived.Test.YtkfbcmbemihbnaaPureFnExactBoardAgain
import Derived.WalkKit
import Derived.ProofKit
import Derived.OpenShut
import Derived.ShutString
import Derived.ChangeOld
import Derived.Below
import Derived.SizedLaws
import Derived.ChangeSlices
import Derived.ChangeSame
import Derived.Carry
import Derived.Deep.Slices
import Derived.Deep.Fields
namespace Go.Proofs.Ytkfbcmbemihbnaa.fnExactBoardAgain
open Go.ChangeShapes Go.WideShapes Go.ChangeAt Go.RowKit
open Go.ChangeMaps (open_string shut_string)
set_option linter.unusedVariables false
set_option linter.unusedSimpArgs false
theorem own : ownKnob Try.prog.godebug = none := by kernel_rfl
theorem laidOut : laidOutB Try.prog = true := by kernel_rfl
section
variable {H : Type} {enc : TypeId × Value → H} {P : Program} {w : World} {base : Nat} {spare : Nat → Bool} {held : Bool}
/-- A struct's field reads by itself. -/
theorem field_at {t : TypeId} {fs : Array Field} {fuel : Nat} {cs sub : List Value} {x : DataW H × List MemPlace} {j c : Nat} {f : Field} (hs : P.underlying t = some (.struct fs)) (h : DataW.trod enc P w base spare held fuel t cs = some x)
    (hj : fs[j]? = some f) (hc : P.cellsOf f.type = c) (hd : (cs.drop f.offset).take c = sub) : ∃ n y, DataW.trod enc P w base spare held n f.type sub = some y := by
  obtain ⟨xs, n, _, _, _, hlen, hg⟩ := DataW.trod_struct hs h
  have g := hg j f hj
  rw [hc, hd] at g
  have hjl : j < fs.size := (Array.getElem?_eq_some_iff.1 hj).1
  rw [List.getElem?_eq_getElem (by omega)] at g
  exact ⟨n, _, g⟩
theorem leaf_int {t : TypeId} {k : IntKind} {fuel : Nat} {c : Value} {x : DataW H × List MemPlace} (ht : P.underlying t = some (.int k)) (h : DataW.trod enc P w base spare held fuel t [c] = some x) : ∃ n, c = .int k n ∧ (Lit.int k n).wf = true := by
  obtain ⟨n, he, _, hw⟩ := DataW.trod_int ht h
  exact ⟨n, by simpa using he, hw⟩
theorem leaf_bool {t : TypeId} {fuel : Nat} {c : Value} {x : DataW H × List MemPlace} (ht : P.underlying t = some .bool) (h : DataW.trod enc P w base spare held fuel t [c] = some x) : ∃ b, c = .bool b := by
  obtain ⟨n, he, _⟩ := DataW.trod_bool ht h
  exact ⟨n, by simpa using he⟩
theorem leaf_str {t : TypeId} {fuel : Nat} {c : Value} {x : DataW H × List MemPlace} (ht : P.underlying t = some .string) (h : DataW.trod enc P w base spare held fuel t [c] = some x) : ∃ s, c = .string s ∧ s.size ≤ maxLen := by
  obtain ⟨n, he, _, hw⟩ := DataW.trod_string ht h
  exact ⟨n, by simpa using he, hw⟩
def IsRow (k : IntKind) (w : World) (a : Option Addr) (len cap : Nat) (zs : List Int) : Prop :=
  (a = none ∧ len = 0 ∧ cap = 0 ∧ zs = []) ∨
  ∃ x, a = some x ∧ len ≤ cap ∧ cap ≤ maxLen ∧ zs.length = cap ∧ (∀ i, i < zs.length → w.cell? (x.add i) = some (.int k (zs.getD i 0))) ∧ ∀ n ∈ zs, (Lit.int k n).wf = true
theorem leaf_row {t e : TypeId} {k : IntKind} {fuel : Nat} {c : Value} {x : DataW H × List MemPlace} (ht : P.underlying t = some (.slice e)) (he : P.underlying e = some (.int k)) (hc : P.cellsOf e = 1)
    (h : DataW.trod enc P w base (fun _ => true) held fuel t [c] = some x) : ∃ a len cap zs, c = .slice a len cap ∧ IsRow k w a len cap zs := by
  rcases open_ints ht he hc h with ⟨hcs, _⟩ | ⟨x, l, c, zs, hcs, _, hl, hm, hz, _, hcell, hwz⟩
  · exact ⟨none, 0, 0, [], by simpa using hcs, .inl ⟨rfl, rfl, rfl, rfl⟩⟩
  · exact ⟨some x, l, c, zs, by simpa using hcs, .inr ⟨x, rfl, hl, hm, by simpa using hz, hcell, hwz⟩⟩
theorem leaf_rows {α : Type} {d : Go.Proofs.YtkfbcmbemihbnaaW.PrintWords.Kd α} {t e : TypeId} {fuel : Nat} {c : Value} {x : DataW H × List MemPlace} (ht : P.underlying t = some (.slice e)) (hC : P.cellsOf e = d.sz) (Q : α → Prop)
    (hel : ∀ n cs y, DataW.trod enc P w base spare held n e cs = some y → cs.length = d.sz → ∃ a, d.K w a cs ∧ Q a)
    (h : DataW.trod enc P w base spare held fuel t [c] = some x) : ∃ (A : Option Addr) (cap : Nat) (xs : List α), c = .slice A xs.length cap ∧ Go.Proofs.YtkfbcmbemihbnaaW.PrintWords.Kd.C d w A xs.length xs ∧ xs.length ≤ cap ∧ xs.length ≤ maxLen ∧ ∀ a ∈ xs, Q a := by
  rcases Go.Deep.open_slice ht h with ⟨h0, _⟩ | ⟨a, len, cap, m, n, D, Pl, hcs, hb, hl, hm, hmm, hx, hi⟩
  · exact ⟨none, 0, [], by simpa using h0, ⟨rfl, by simp, fun hn => absurd hn (by simp)⟩, Nat.le_refl _, by simp, fun a ha => by simp at ha⟩
  · have hlm : len ≤ m := by rw [hmm]; split <;> omega
    have key : ∀ k, k ≤ len → ∃ xs : List α, xs.length = k ∧ (∀ a ∈ xs, Q a) ∧ ∀ j p, xs[j]? = some p → ∃ c, c.length = d.sz ∧ d.K w p c ∧ ∀ i u, c[i]? = some u → w.cell? (a.add (j * d.sz + i)) = some u := by
      intro k
      induction k with
      | zero => exact fun _ => ⟨[], rfl, fun a ha => by simp at ha, fun j p hj => by simp at hj⟩
      | succ k ih =>
        intro hk
        obtain ⟨xs, hxl, hxq, hxc⟩ := ih (by omega)
        obtain ⟨cs', hc, ht'⟩ := hi k (by omega)
        rw [hC] at hc
        obtain ⟨_, hcl, hat⟩ := World.cells?_some hc
        obtain ⟨p, hp, hq⟩ := hel n cs' _ ht' hcl
        refine ⟨xs ++ [p], by simp [hxl], fun a ha => ?_, fun j q hj => ?_⟩
        · rcases List.mem_append.1 ha with ha | ha
          · exact hxq a ha
          · rw [List.mem_singleton.1 ha]; exact hq
        · by_cases hjk : j < k
          · rw [List.getElem?_append_left (by omega)] at hj
            exact hxc j q hj
          · have hjl : j = k := by
              have := (List.getElem?_eq_some_iff.1 hj).1
              rw [List.length_append, hxl] at this
              simp at this
              omega
            subst hjl
            rw [List.getElem?_append_right (by omega), hxl] at hj
            simp only [Nat.sub_self, List.getElem?_cons_zero, Option.some.injEq] at hj
            subst hj
            refine ⟨cs', hcl, hp, fun i u hu => ?_⟩
            have hil : i < d.sz := by have := (List.getElem?_eq_some_iff.1 hu).1; omega
            rw [← Go.Deep.add_add, hat i hil, hu]
    obtain ⟨xs, hxl, hxq, hxc⟩ := key len (Nat.le_refl _)
    exact ⟨some a, cap, xs, by rw [hxl]; simpa using hcs, ⟨rfl, by have : maxLen = 9223372036854775807 := rfl; omega, fun _ => ⟨a, rfl, hxc⟩⟩, by omega, by omega, hxq⟩
end

set_option maxRecDepth 100000 in
theorem arr3 {α : Type} {cs : Array α} (h : cs.size = 3) : ∃ c0 c1 c2, cs = #[c0, c1, c2] := by
  obtain ⟨l⟩ := cs
  match l, h with
  | [c0, c1, c2], _ => exact ⟨c0, c1, c2, rfl⟩
theorem el_t168 {H : Type} {b0 : Nat} {enc : TypeId × Value → H} {W : World} {fuel : Nat} {cs : List Value} {x : DataW H × List MemPlace} (hl : cs.length = 6) (hf : DataW.trod enc Try.prog W b0 (fun _ => true) true fuel 168 cs = some x) :
    ∃ x : PFnExactBoardAgain.S168, (PFnExactBoardAgain.k168).K W x cs ∧ ((Lit.int .i64 x.f0).wf = true ∧ (Lit.int .i64 x.f1).wf = true ∧ (Lit.int .i64 x.f2).wf = true ∧ (Lit.int .i64 x.f3).wf = true) := by
  match cs, hl with
  | [c0, c1, c2, c3, c4, c5], _ =>
    obtain ⟨m_h0, y_h0, h0⟩ := field_at Try.underlying168 hf (j := 0) (c := 1) (sub := [c0]) rfl (by kernel_rfl) rfl
    obtain ⟨n0, rfl, w0⟩ := leaf_int Try.underlying2 h0
    obtain ⟨m_h1, y_h1, h1⟩ := field_at Try.underlying168 hf (j := 1) (c := 1) (sub := [c1]) rfl (by kernel_rfl) rfl
    obtain ⟨n1, rfl, w1⟩ := leaf_int Try.underlying2 h1
    obtain ⟨m_h2, y_h2, h2⟩ := field_at Try.underlying168 hf (j := 2) (c := 1) (sub := [c2]) rfl (by kernel_rfl) rfl
    obtain ⟨n2, rfl, w2⟩ := leaf_int Try.underlying2 h2
    obtain ⟨m_h3, y_h3, h3⟩ := field_at Try.underlying168 hf (j := 3) (c := 1) (sub := [c3]) rfl (by kernel_rfl) rfl
    obtain ⟨n3, rfl, w3⟩ := leaf_int Try.underlying2 h3
    obtain ⟨m_h4, y_h4, h4⟩ := field_at Try.underlying168 hf (j := 4) (c := 1) (sub := [c4]) rfl (by kernel_rfl) rfl
    obtain ⟨n4, rfl⟩ := leaf_bool Try.underlying4 h4
    obtain ⟨m_h5, y_h5, h5⟩ := field_at Try.underlying168 hf (j := 5) (c := 1) (sub := [c5]) rfl (by kernel_rfl) rfl
    obtain ⟨n5, rfl⟩ := leaf_bool Try.underlying4 h5
    exact ⟨⟨n0, n1, n2, n3, n4, n5⟩, PFnExactBoardAgain.k168_mk W ⟨n0, n1, n2, n3, n4, n5⟩, w0, w1, w2, w3⟩
set_option maxRecDepth 100000 in
theorem open_t59 {H : Type} {b0 : Nat} {enc : TypeId × Value → H} {W : World} {v : Value} {d : DataW H} {p : List MemPlace} (hv : Value.okWide Try.prog W .any b0 59 v) (h : DataW.Trod enc Try.prog W 0 (fun _ => true) true 59 v d p) :
    ∃ (n0 : Int) (n1 : Int) (a2 : Option Addr) (cap2 : Nat) (l2 : List PFnExactBoardAgain.S168), v = .agg #[.int .i64 n0, .int .i64 n1, .slice a2 l2.length cap2] ∧ (Lit.int .i64 n0).wf = true ∧ (Lit.int .i64 n1).wf = true ∧ (Go.Proofs.YtkfbcmbemihbnaaW.PrintWords.Kd.C PFnExactBoardAgain.k168 W a2 l2.length l2 ∧ l2.length ≤ cap2 ∧ l2.length ≤ maxLen ∧ ∀ x ∈ l2, ((Lit.int .i64 x.f0).wf = true ∧ (Lit.int .i64 x.f1).wf = true ∧ (Lit.int .i64 x.f2).wf = true ∧ (Lit.int .i64 x.f3).wf = true)) := by
  obtain ⟨cs, rfl, hsz⟩ := okWide_struct Try.underlying59 hv
  obtain ⟨c0, c1, c2, rfl⟩ := arr3 (hsz.trans (by kernel_rfl))
  obtain ⟨fuel, hf⟩ := h
  have hf : DataW.trod enc Try.prog W 0 (fun _ => true) true fuel 59 [c0, c1, c2] = some (d, p) := by simpa [Value.cells] using hf
  obtain ⟨m_h0, y_h0, h0⟩ := field_at Try.underlying59 hf (j := 0) (c := 1) (sub := [c0]) rfl (by kernel_rfl) rfl
  obtain ⟨n0, rfl, w0⟩ := leaf_int Try.underlying2 h0
  obtain ⟨m_h1, y_h1, h1⟩ := field_at Try.underlying59 hf (j := 1) (c := 1) (sub := [c1]) rfl (by kernel_rfl) rfl
  obtain ⟨n1, rfl, w1⟩ := leaf_int Try.underlying2 h1
  obtain ⟨m_h2, y_h2, h2⟩ := field_at Try.underlying59 hf (j := 2) (c := 1) (sub := [c2]) rfl (by kernel_rfl) rfl
  obtain ⟨a2, cap2, l2, rfl, w2⟩ := leaf_rows Try.underlying57 (d := PFnExactBoardAgain.k168) (by kernel_rfl) (fun x => ((Lit.int .i64 x.f0).wf = true ∧ (Lit.int .i64 x.f1).wf = true ∧ (Lit.int .i64 x.f2).wf = true ∧ (Lit.int .i64 x.f3).wf = true)) (fun n cs y hq hl => el_t168 hl hq) h2
  exact ⟨n0, n1, a2, cap2, l2, rfl, w0, w1, w2⟩
set_option maxRecDepth 100000 in
theorem lifted (os : Os) (started : os.Started) (H : Type) (enc : TypeId × Value → H) :
    ReturnsInHanded {} Try.checked os 10 .any (Rows.fnExactBoardAgainSpec.pre6 enc Try.prog Try.f10 Rows.fnExactBoardAgainRow.domain false) (Rows.fnExactBoardAgainSpec.post enc Try.prog Try.f10 false true false false) := by
  refine returnsInHanded_of_change_sized (C := Try.checked) own started (by kernel_rfl) Try.func10
    (ChangeSpec.witness6 (enc := enc) (C := Try.checked) false ⟨#[], #[.agg #[.int .i64 0, .int .i64 0, .slice none 0 0], .int .i64 0], []⟩ 8 (by kernel_rfl) (by kernel_rfl) (by kernel_rfl) (by kernel_rfl)) ?_
  intro W base args ds gs before hval0 hW hcnd hsz0 _
  have hsz : (DataW.weightsEach Try.prog (Try.f10.params.toList ++ Rows.fnExactBoardAgainSpec.plain.varTypes Try.prog) (ds ++ gs)).all (· ≤ reachBytes) = true := hsz0
  have hval : ∀ (j : Nat) t v, Try.f10.params[j]? = some t → args[j]? = some v → Value.okWide Try.prog W .any base t v := hval0
  have hW' := hW
  obtain ⟨p, q, hA0, hV, rfl, hfz, hnd⟩ := hW
  have hA : DataW.TrodAll enc Try.prog W 0 (fun _ => true) true Try.f10.params.toList args.toList ds p := hA0
  rw [Try.params10] at hA hval hsz
  obtain ⟨v0, vs0, d0, ds0, p0, q0, hargs, rfl, rfl, h0, r0⟩ := trodAll_cons hA
  obtain ⟨v1, vs1, d1, ds1, p1, q1, rfl, rfl, rfl, h1, r1⟩ := trodAll_cons r0
  obtain ⟨rfl, rfl, rfl⟩ := trodAll_nil r1
  obtain rfl : args = #[v0, v1] := by cases args; simp_all
  obtain ⟨rfl, rfl⟩ := trodVars_none hV
  have k0 := h0
  have lt0 : ∀ x ∈ p0, x.block < W.heap.size := by obtain ⟨m, hm⟩ := k0; exact DataW.trod_lt m _ _ _ hm
  obtain ⟨n0_0, n0_1, a0_2, cap0_2, l0_2, rfl, w0_0, w0_1, ⟨hr0_2, hc0_2, hm0_2, hw0_2⟩⟩ := open_t59 (hval 0 59 v0 rfl rfl) h0
  obtain ⟨n1, rfl, rfl, rfl, w1⟩ := open_int Try.underlying2 (hval 1 2 v1 rfl rfl) h1
  clear hA0 hval0 hsz0 hsz
  obtain ⟨k, hP⟩ := Pure.FnExactBoardAgain n0_0 n0_1 l0_2 n1 w0_0 w0_1 hm0_2 hw0_2 w1
  refine (PFnExactBoardAgain.laws_FnExactBoardAgain.calls k n0_0 n0_1 _ _ l0_2 n1 true W hr0_2 hc0_2 hP).mono fun e W' he => ?_
  obtain ⟨he, bel⟩ := he
  subst he
  have bel : Below W.heap.size W W' := by first | exact bel | exact bel.below
  exact ⟨_, rfl, _, _, _, [], _, [], hW', trodAll_mk1 (shut_bool Try.underlying4 _), (trodAll_cons_mk (Below.trod laidOut (by kernel_rfl) (of_decide_eq_true (by kernel_rfl)) k0 bel lt0) (trodAll_cons_mk (shut_int Try.underlying2 w1) trodAll_mk0)), rfl, bel.frame _, fun h => by cases h⟩
theorem over : Rows.fnExactBoardAgainRow.holds Try.pinned (OpenSpec.ofChange Rows.fnExactBoardAgainSpec) :=
  OpenClaim.holds_of_wide 10 Try.f10 rfl rfl rfl rfl rfl rfl rfl ⟨rfl, rfl, rfl, rfl, rfl⟩ rfl rfl rfl rfl rfl (by kernel_rfl) Try.func10 (by kernel_rfl)
    (of_decide_eq_true (by kernel_rfl)) (by unfold Func.isWrapper; first | (rw [if_pos (by decide +kernel)]; kernel_rfl) | (rw [if_neg (by decide +kernel)]; exact ⟨rfl, rfl⟩))
    (fun os started H enc _ => lifted os started H enc)
theorem proved : Rows.FnExactBoardAgainSaid := over
#print axioms proved
end Go.Proofs.Ytkfbcmbemihbnaa.fnExactBoardAgain
namespace Go.Proofs.Ytkfbcmbemihbnaa
/-- The row, under a short name, for the claim. -/
theorem fnExactBoardAgain_holds : Rows.FnExactBoardAgainSaid := fnExactBoardAgain.proved
end Go.Proofs.Ytkfbcmbemihbnaa
