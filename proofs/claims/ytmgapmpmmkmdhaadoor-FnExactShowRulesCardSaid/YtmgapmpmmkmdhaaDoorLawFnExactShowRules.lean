/- The row of the law FnExactShowRules: for all arguments the Go function returns true and leaves its arguments as they are; out of the printed contract and the pure statement. No condition. -/
import Derived.Test.YtmgapmpmmkmdhaaDoorRows
import Derived.Test.YtmgapmpmmkmdhaaDoorPFnExactShowRulesx9
import Derived.Test.YtmgapmpmmkmdhaaDoorPureFnExactShowRules
import Derived.WalkKit
import Derived.ProofKit
import Derived.OpenShut
import Derived.ShutString
import Derived.ChangeOld
import Derived.Below
import Derived.SizedLaws
import Derived.ChangeSlices
import Derived.ChangeSame
import Derived.Carry
import Derived.Deep.Slices
import Derived.Deep.Fields
import Derived.Test.YtmgapmpmmkmdhaaDoorCards
import Derived.Test.YtmgapmpmmkmdhaaDoorTie
import Derived.Lay
import Derived.LaidMore
import Derived.Lib.LaidTab
import Derived.Lib.LaidU8
import Derived.Stop.LaidErr
import Derived.SevenTiedAt
import Derived.Shelf.Vars
import Derived.MakeChecks
import Derived.OpenVars
import Derived.Test.YtmgapmpmmkmdhaaDoorLaid
namespace Go.Proofs.YtmgapmpmmkmdhaaDoor.fnExactShowRules
open Go.ChangeShapes Go.WideShapes Go.ChangeAt Go.RowKit
open Go.ChangeMaps (open_string shut_string)
set_option linter.unusedVariables false
set_option linter.unusedSimpArgs false
theorem own : ownKnob Tryd.prog.godebug = none := by kernel_rfl
theorem laidOut : laidOutB Tryd.prog = true := by kernel_rfl
section
variable {H : Type} {enc : TypeId × Value → H} {P : Program} {w : World} {base : Nat} {spare : Nat → Bool} {held : Bool}
/-- A struct's field reads by itself. -/
theorem field_at {t : TypeId} {fs : Array Field} {fuel : Nat} {cs sub : List Value} {x : DataW H × List MemPlace} {j c : Nat} {f : Field} (hs : P.underlying t = some (.struct fs)) (h : DataW.trod enc P w base spare held fuel t cs = some x)
    (hj : fs[j]? = some f) (hc : P.cellsOf f.type = c) (hd : (cs.drop f.offset).take c = sub) : ∃ n y, DataW.trod enc P w base spare held n f.type sub = some y := by
  obtain ⟨xs, n, _, _, _, hlen, hg⟩ := DataW.trod_struct hs h
  have g := hg j f hj
  rw [hc, hd] at g
  have hjl : j < fs.size := (Array.getElem?_eq_some_iff.1 hj).1
  rw [List.getElem?_eq_getElem (by omega)] at g
  exact ⟨n, _, g⟩
theorem leaf_int {t : TypeId} {k : IntKind} {fuel : Nat} {c : Value} {x : DataW H × List MemPlace} (ht : P.underlying t = some (.int k)) (h : DataW.trod enc P w base spare held fuel t [c] = some x) : ∃ n, c = .int k n ∧ (Lit.int k n).wf = true := by
  obtain ⟨n, he, _, hw⟩ := DataW.trod_int ht h
  exact ⟨n, by simpa using he, hw⟩
theorem leaf_bool {t : TypeId} {fuel : Nat} {c : Value} {x : DataW H × List MemPlace} (ht : P.underlying t = some .bool) (h : DataW.trod enc P w base spare held fuel t [c] = some x) : ∃ b, c = .bool b := by
  obtain ⟨n, he, _⟩ := DataW.trod_bool ht h
  exact ⟨n, by simpa using he⟩
theorem leaf_str {t : TypeId} {fuel : Nat} {c : Value} {x : DataW H × List MemPlace} (ht : P.underlying t = some .string) (h : DataW.trod enc P w base spare held fuel t [c] = some x) : ∃ s, c = .string s ∧ s.size ≤ maxLen := by
  obtain ⟨n, he, _, hw⟩ := DataW.trod_string ht h
  exact ⟨n, by simpa using he, hw⟩
def IsRow (k : IntKind) (w : World) (a : Option Addr) (len cap : Nat) (zs : List Int) : Prop :=
  (a = none ∧ len = 0 ∧ cap = 0 ∧ zs = []) ∨
  ∃ x, a = some x ∧ len ≤ cap ∧ cap ≤ maxLen ∧ zs.length = cap ∧ (∀ i, i < zs.length → w.cell? (x.add i) = some (.int k (zs.getD i 0))) ∧ ∀ n ∈ zs, (Lit.int k n).wf = true
theorem leaf_row {t e : TypeId} {k : IntKind} {fuel : Nat} {c : Value} {x : DataW H × List MemPlace} (ht : P.underlying t = some (.slice e)) (he : P.underlying e = some (.int k)) (hc : P.cellsOf e = 1)
    (h : DataW.trod enc P w base (fun _ => true) held fuel t [c] = some x) : ∃ a len cap zs, c = .slice a len cap ∧ IsRow k w a len cap zs := by
  rcases open_ints ht he hc h with ⟨hcs, _⟩ | ⟨x, l, c, zs, hcs, _, hl, hm, hz, _, hcell, hwz⟩
  · exact ⟨none, 0, 0, [], by simpa using hcs, .inl ⟨rfl, rfl, rfl, rfl⟩⟩
  · exact ⟨some x, l, c, zs, by simpa using hcs, .inr ⟨x, rfl, hl, hm, by simpa using hz, hcell, hwz⟩⟩
theorem leaf_rows {α : Type} {d : Go.Proofs.YtmgapmpmmkmdhaaDoorW.PrintWords.Kd α} {t e : TypeId} {fuel : Nat} {c : Value} {x : DataW H × List MemPlace} (ht : P.underlying t = some (.slice e)) (hC : P.cellsOf e = d.sz) (Q : α → Prop)
    (hel : ∀ n cs y, DataW.trod enc P w base spare held n e cs = some y → cs.length = d.sz → ∃ a, d.K w a cs ∧ Q a)
    (h : DataW.trod enc P w base spare held fuel t [c] = some x) : ∃ (A : Option Addr) (cap : Nat) (xs : List α), c = .slice A xs.length cap ∧ Go.Proofs.YtmgapmpmmkmdhaaDoorW.PrintWords.Kd.C d w A xs.length xs ∧ xs.length ≤ cap ∧ xs.length ≤ maxLen ∧ ∀ a ∈ xs, Q a := by
  rcases Go.Deep.open_slice ht h with ⟨h0, _⟩ | ⟨a, len, cap, m, n, D, Pl, hcs, hb, hl, hm, hmm, hx, hi⟩
  · exact ⟨none, 0, [], by simpa using h0, ⟨rfl, by simp, fun hn => absurd hn (by simp)⟩, Nat.le_refl _, by simp, fun a ha => by simp at ha⟩
  · have hlm : len ≤ m := by rw [hmm]; split <;> omega
    have key : ∀ k, k ≤ len → ∃ xs : List α, xs.length = k ∧ (∀ a ∈ xs, Q a) ∧ ∀ j p, xs[j]? = some p → ∃ c, c.length = d.sz ∧ d.K w p c ∧ ∀ i u, c[i]? = some u → w.cell? (a.add (j * d.sz + i)) = some u := by
      intro k
      induction k with
      | zero => exact fun _ => ⟨[], rfl, fun a ha => by simp at ha, fun j p hj => by simp at hj⟩
      | succ k ih =>
        intro hk
        obtain ⟨xs, hxl, hxq, hxc⟩ := ih (by omega)
        obtain ⟨cs', hc, ht'⟩ := hi k (by omega)
        rw [hC] at hc
        obtain ⟨_, hcl, hat⟩ := World.cells?_some hc
        obtain ⟨p, hp, hq⟩ := hel n cs' _ ht' hcl
        refine ⟨xs ++ [p], by simp [hxl], fun a ha => ?_, fun j q hj => ?_⟩
        · rcases List.mem_append.1 ha with ha | ha
          · exact hxq a ha
          · rw [List.mem_singleton.1 ha]; exact hq
        · by_cases hjk : j < k
          · rw [List.getElem?_append_left (by omega)] at hj
            exact hxc j q hj
          · have hjl : j = k := by
              have := (List.getElem?_eq_some_iff.1 hj).1
              rw [List.length_append, hxl] at this
              simp at this
              omega
            subst hjl
            rw [List.getElem?_append_right (by omega), hxl] at hj
            simp only [Nat.sub_self, List.getElem?_cons_zero, Option.some.injEq] at hj
            subst hj
            refine ⟨cs', hcl, hp, fun i u hu => ?_⟩
            have hil : i < d.sz := by have := (List.getElem?_eq_some_iff.1 hu).1; omega
            rw [← Go.Deep.add_add, hat i hil, hu]
    obtain ⟨xs, hxl, hxq, hxc⟩ := key len (Nat.le_refl _)
    exact ⟨some a, cap, xs, by rw [hxl]; simpa using hcs, ⟨rfl, by have : maxLen = 9223372036854775807 := rfl; omega, fun _ => ⟨a, rfl, hxc⟩⟩, by omega, by omega, hxq⟩
end

theorem el_t41 {H : Type} {b0 : Nat} {enc : TypeId × Value → H} {W : World} {fuel : Nat} {cs : List Value} {x : DataW H × List MemPlace} (hl : cs.length = 12) (hf : DataW.trod enc Tryd.prog W b0 (fun _ => true) true fuel 41 cs = some x) :
    ∃ x : PFnExactShowRules.S41, (PFnExactShowRules.k41).K W x cs ∧ ((Lit.int .i64 x.f0).wf = true ∧ (Lit.int .i64 x.f1).wf = true ∧ (Lit.int .i64 x.f2).wf = true ∧ (Lit.int .i64 x.f3.f0).wf = true ∧ (Lit.int .i64 x.f3.f1).wf = true ∧ (Lit.int .i64 x.f4).wf = true ∧ (Lit.int .i64 x.f5).wf = true ∧ (Lit.int .i64 x.f6.f0).wf = true ∧ (Lit.int .i64 x.f6.f1).wf = true ∧ (Lit.int .i64 x.f7).wf = true ∧ (Lit.int .i64 x.f8).wf = true ∧ (Lit.int .i64 x.f9).wf = true) := by
  match cs, hl with
  | [c0, c1, c2, c3, c4, c5, c6, c7, c8, c9, c10, c11], _ =>
    obtain ⟨m_h0, y_h0, h0⟩ := field_at Tryd.underlying41 hf (j := 0) (c := 1) (sub := [c0]) rfl (by kernel_rfl) rfl
    obtain ⟨n0, rfl, w0⟩ := leaf_int Tryd.underlying2 h0
    obtain ⟨m_h1, y_h1, h1⟩ := field_at Tryd.underlying41 hf (j := 1) (c := 1) (sub := [c1]) rfl (by kernel_rfl) rfl
    obtain ⟨n1, rfl, w1⟩ := leaf_int Tryd.underlying2 h1
    obtain ⟨m_h2, y_h2, h2⟩ := field_at Tryd.underlying41 hf (j := 2) (c := 1) (sub := [c2]) rfl (by kernel_rfl) rfl
    obtain ⟨n2, rfl, w2⟩ := leaf_int Tryd.underlying2 h2
    obtain ⟨m_h3, y_h3, h3⟩ := field_at Tryd.underlying41 hf (j := 3) (c := 2) (sub := [c3, c4]) rfl (by kernel_rfl) rfl
    obtain ⟨m_h3_0, y_h3_0, h3_0⟩ := field_at Tryd.underlying39 h3 (j := 0) (c := 1) (sub := [c3]) rfl (by kernel_rfl) rfl
    obtain ⟨n3, rfl, w3⟩ := leaf_int Tryd.underlying2 h3_0
    obtain ⟨m_h3_1, y_h3_1, h3_1⟩ := field_at Tryd.underlying39 h3 (j := 1) (c := 1) (sub := [c4]) rfl (by kernel_rfl) rfl
    obtain ⟨n4, rfl, w4⟩ := leaf_int Tryd.underlying2 h3_1
    obtain ⟨m_h4, y_h4, h4⟩ := field_at Tryd.underlying41 hf (j := 4) (c := 1) (sub := [c5]) rfl (by kernel_rfl) rfl
    obtain ⟨n5, rfl, w5⟩ := leaf_int Tryd.underlying2 h4
    obtain ⟨m_h5, y_h5, h5⟩ := field_at Tryd.underlying41 hf (j := 5) (c := 1) (sub := [c6]) rfl (by kernel_rfl) rfl
    obtain ⟨n6, rfl, w6⟩ := leaf_int Tryd.underlying2 h5
    obtain ⟨m_h6, y_h6, h6⟩ := field_at Tryd.underlying41 hf (j := 6) (c := 2) (sub := [c7, c8]) rfl (by kernel_rfl) rfl
    obtain ⟨m_h6_0, y_h6_0, h6_0⟩ := field_at Tryd.underlying39 h6 (j := 0) (c := 1) (sub := [c7]) rfl (by kernel_rfl) rfl
    obtain ⟨n7, rfl, w7⟩ := leaf_int Tryd.underlying2 h6_0
    obtain ⟨m_h6_1, y_h6_1, h6_1⟩ := field_at Tryd.underlying39 h6 (j := 1) (c := 1) (sub := [c8]) rfl (by kernel_rfl) rfl
    obtain ⟨n8, rfl, w8⟩ := leaf_int Tryd.underlying2 h6_1
    obtain ⟨m_h7, y_h7, h7⟩ := field_at Tryd.underlying41 hf (j := 7) (c := 1) (sub := [c9]) rfl (by kernel_rfl) rfl
    obtain ⟨n9, rfl, w9⟩ := leaf_int Tryd.underlying2 h7
    obtain ⟨m_h8, y_h8, h8⟩ := field_at Tryd.underlying41 hf (j := 8) (c := 1) (sub := [c10]) rfl (by kernel_rfl) rfl
    obtain ⟨n10, rfl, w10⟩ := leaf_int Tryd.underlying2 h8
    obtain ⟨m_h9, y_h9, h9⟩ := field_at Tryd.underlying41 hf (j := 9) (c := 1) (sub := [c11]) rfl (by kernel_rfl) rfl
    obtain ⟨n11, rfl, w11⟩ := leaf_int Tryd.underlying2 h9
    exact ⟨⟨n0, n1, n2, ⟨n3, n4⟩, n5, n6, ⟨n7, n8⟩, n9, n10, n11⟩, PFnExactShowRules.k41_mk W ⟨n0, n1, n2, ⟨n3, n4⟩, n5, n6, ⟨n7, n8⟩, n9, n10, n11⟩, w0, w1, w2, w3, w4, w5, w6, w7, w8, w9, w10, w11⟩
/-- The plain wrap, with the listed variables and the world's shape. -/
theorem returnsInHanded_door {H : Type} {enc : TypeId × Value → H} {a : Assume} {C : Checked} {os : Os} {f : FuncId} {fn : Func} {s : ChangeSpec} {conds : List PathCond} {apart fresh handsOn again : Bool} {X : World → Array Value → Prop}
    (hX : ∀ (w w' : World) (args : Array Value), w.heap = w'.heap → X w args → X w' args)
    (own : ownKnob C.prog.godebug = none) (started : os.Started) (noInit : C.prog.inits.idxOf? f = none) (hfn : C.prog.funcs[f]? = some fn)
    (witness : ∃ (w : World) (tape : Tape) (i : Input), w.os = os ∧ (w.forCall tape i).Shaped C.prog ∧ i.vars = [] ∧ Input.okWide C.prog (w.forCall tape i) .any w.heap.size f i ∧
      ((s.pre enc C.prog fn conds apart (w.forCall tape i).memory i.args ∧ X (w.forCall tape i).memory i.args) ∧ sizedMet enc C.prog fn (OpenSpec.ofChange s) apart (w.forCall tape i).memory i.args) ∧ a.holds C.prog (lone (Frame.enter C.prog f i.args .normal) [] (w.forCall tape i)))
    (contract : ∀ (W : World) (base : Nat) (args : Array Value) (ds gs : List (DataW H)) (before : List MemPlace),
      (∀ (j : Nat) t v, fn.params[j]? = some t → args[j]? = some v → Value.okWide C.prog W .any base t v) →
      DataW.Whole enc C.prog fn.params.toList s.vars apart W args.toList ds gs before →
      conds.all (PathCond.test C.prog ⟨fn.params.toList, ds, s.plain.varTypes C.prog, gs⟩) = true →
      (DataW.weightsEach C.prog (fn.params.toList ++ s.plain.varTypes C.prog) (ds ++ gs)).all (· ≤ reachBytes) = true → X W args → W.ShapedOpen C.prog →
      a.holds C.prog (lone (Frame.enter C.prog f args .normal) [] W) →
      Calls C.prog f args W fun e W' => ∃ v, e = .returned v ∧ s.post enc C.prog fn apart fresh handsOn again W args v W') :
    ReturnsInHanded a C os f .any (fun w args => (s.pre enc C.prog fn conds apart w args ∧ X w args) ∧ sizedMet enc C.prog fn (OpenSpec.ofChange s) apart w args) (s.post enc C.prog fn apart fresh handsOn again) := by
  refine returnsInHanded_of_calls own started noInit witness ?_
  intro w tape i _ hsh _ hok hpre hholds
  obtain ⟨_, _, _, fn', hfn', _, _, _, _, hval⟩ := hok
  have e : fn' = fn := Option.some.inj (hfn'.symm.trans hfn)
  subst e
  obtain ⟨⟨⟨ds, gs, before, hw, hc⟩, hx⟩, hz⟩ := hpre
  have hw' := DataW.Whole.of_heap (w' := w.forCall tape i) (by rfl) hw
  refine (contract (w.forCall tape i) w.heap.size i.args ds gs before hval hw' hc (hz.weights hw) (hX _ _ _ (by rfl) hx) hsh hholds).mono fun e W' ⟨v, he, hp⟩ => ?_
  subst he
  exact ChangeSpec.post_blind hp
set_option maxRecDepth 100000 in
theorem lifted (os : Os) (started : os.Started) (H : Type) (enc : TypeId × Value → H) :
    ReturnsInHanded {} Tryd.checked os 3 .any (fun w args => (Rows.fnExactShowRulesSpec.pre enc Tryd.prog Tryd.f3 Rows.fnExactShowRulesRow.domain false w args ∧ laidMetH Tryd.prog Rows.fnExactShowRulesRow.laid w) ∧ sizedMet enc Tryd.prog Tryd.f3 (OpenSpec.ofChange Rows.fnExactShowRulesSpec) false w args) (Rows.fnExactShowRulesSpec.post enc Tryd.prog Tryd.f3 false true false false) := by
  refine returnsInHanded_door (C := Tryd.checked) (X := fun w _ => laidMetH Tryd.prog Rows.fnExactShowRulesRow.laid w) (fun _ _ _ hh h => h.of_heap hh) own started (by kernel_rfl) Tryd.func3
    (ChangeSpec.witness_shaped (enc := enc) (C := Tryd.checked) (os := os) (X := fun w _ => laidMetH Tryd.prog Rows.fnExactShowRulesRow.laid w) false (World.doorLaid Tryd.prog 400 os) #[.slice none 0 0] 8 rfl (World.shaped_of_RefB (by kernel_rfl) (by kernel_rfl)) (by kernel_rfl) (by kernel_rfl) (by kernel_rfl) (by rw [MakeChecks.laidMetH_plain _ _ _ (by kernel_rfl)]; exact Laid.met _ _)) ?_
  intro W base args ds gs before hval0 hW hcnd hsz0 hL hsh _
  rw [MakeChecks.laidMetH_plain _ _ _ (by kernel_rfl)] at hL
  have hdoor : Go.Proofs.YtmgapmpmmkmdhaaDoor.PFnExactShowRules.Door W := ⟨trivial, Lib.tabIs_of_head (g := 5) (t := 79) (e := 63) (n := 20) (by kernel_rfl) (by kernel_rfl) (by kernel_rfl) (by kernel_rfl) (by kernel_rfl) (by kernel_rfl) (laidMet.tail (laidMet.tail hL)), Laid.wds hL⟩
  have hsz : (DataW.weightsEach Tryd.prog (Tryd.f3.params.toList ++ Rows.fnExactShowRulesSpec.plain.varTypes Tryd.prog) (ds ++ gs)).all (· ≤ reachBytes) = true := hsz0
  have hval : ∀ (j : Nat) t v, Tryd.f3.params[j]? = some t → args[j]? = some v → Value.okWide Tryd.prog W .any base t v := hval0
  have hW' := hW
  obtain ⟨p, q, hA0, hV, rfl, hfz, hnd⟩ := hW
  have hA : DataW.TrodAll enc Tryd.prog W 0 (fun _ => true) true Tryd.f3.params.toList args.toList ds p := hA0
  rw [Tryd.params3] at hA hval hsz
  obtain ⟨v0, vs0, d0, ds0, p0, q0, hargs, rfl, rfl, h0, r0⟩ := trodAll_cons hA
  obtain ⟨rfl, rfl, rfl⟩ := trodAll_nil r0
  obtain rfl : args = #[v0] := by cases args; simp_all
  obtain ⟨g0, g1, g2, g3, g4, rfl⟩ := Laid.many5 hV
  have k0 := h0
  have lt0 : ∀ x ∈ p0, x.block < W.heap.size := by obtain ⟨m, hm⟩ := k0; exact DataW.trod_lt m _ _ _ hm
  obtain ⟨aa0, ll0, cc0, rfl⟩ := okWide_slice Tryd.underlying22 (hval 0 22 v0 rfl rfl)
  obtain ⟨a0, cap0, l0, he0, hr0, hc0, hm0, hw0⟩ : ∃ (a : Option Addr) (cap : Nat) (l : List PFnExactShowRules.S41), (.slice aa0 ll0 cc0 : Value) = .slice a l.length cap ∧ Go.Proofs.YtmgapmpmmkmdhaaDoorW.PrintWords.Kd.C PFnExactShowRules.k41 W a l.length l ∧ l.length ≤ cap ∧ l.length ≤ maxLen ∧ ∀ x ∈ l, ((Lit.int .i64 x.f0).wf = true ∧ (Lit.int .i64 x.f1).wf = true ∧ (Lit.int .i64 x.f2).wf = true ∧ (Lit.int .i64 x.f3.f0).wf = true ∧ (Lit.int .i64 x.f3.f1).wf = true ∧ (Lit.int .i64 x.f4).wf = true ∧ (Lit.int .i64 x.f5).wf = true ∧ (Lit.int .i64 x.f6.f0).wf = true ∧ (Lit.int .i64 x.f6.f1).wf = true ∧ (Lit.int .i64 x.f7).wf = true ∧ (Lit.int .i64 x.f8).wf = true ∧ (Lit.int .i64 x.f9).wf = true) := by
    obtain ⟨fuel, hf⟩ := h0
    exact leaf_rows Tryd.underlying22 (d := PFnExactShowRules.k41) (by kernel_rfl) (fun x => ((Lit.int .i64 x.f0).wf = true ∧ (Lit.int .i64 x.f1).wf = true ∧ (Lit.int .i64 x.f2).wf = true ∧ (Lit.int .i64 x.f3.f0).wf = true ∧ (Lit.int .i64 x.f3.f1).wf = true ∧ (Lit.int .i64 x.f4).wf = true ∧ (Lit.int .i64 x.f5).wf = true ∧ (Lit.int .i64 x.f6.f0).wf = true ∧ (Lit.int .i64 x.f6.f1).wf = true ∧ (Lit.int .i64 x.f7).wf = true ∧ (Lit.int .i64 x.f8).wf = true ∧ (Lit.int .i64 x.f9).wf = true)) (fun n cs y hq hl => el_t41 hl hq) (c := .slice aa0 ll0 cc0) (by simpa [Value.cells] using hf)
  cases he0
  clear hA0 hval0 hsz0 hsz
  obtain ⟨k, hP⟩ := Pure.FnExactShowRules l0 hm0 hw0
  refine (PFnExactShowRules.laws_FnExactShowRules.calls k _ _ l0 true W hr0 hc0 hdoor hP).mono fun e W' he => ?_
  obtain ⟨he, bel⟩ := he
  subst he
  have bel : Below W.heap.size W W' := by first | exact bel | exact bel.below
  exact ⟨_, rfl, _, _, _, [], _, _, hW', trodAll_mk1 (shut_bool Tryd.underlying4 _), (trodAll_cons_mk (Below.trod laidOut (by kernel_rfl) (of_decide_eq_true (by kernel_rfl)) k0 bel lt0) trodAll_mk0), (Below.trodVars laidOut bel (by kernel_rfl) hV), bel.frame _, fun h => by cases h⟩
theorem over : Rows.fnExactShowRulesRow.holds Tryd.pinned (OpenSpec.ofChange Rows.fnExactShowRulesSpec) :=
  OpenClaim.holds_of_wide 3 Tryd.f3 rfl rfl rfl rfl rfl rfl rfl ⟨rfl, rfl, rfl, rfl, rfl⟩ rfl rfl rfl rfl rfl (by kernel_rfl) Tryd.func3 (by kernel_rfl)
    (of_decide_eq_true (by kernel_rfl)) (by unfold Func.isWrapper; first | (rw [if_pos (by decide +kernel)]; kernel_rfl) | (rw [if_neg (by decide +kernel)]; exact ⟨rfl, rfl⟩))
    (fun os started H enc _ => lifted os started H enc)
theorem proved : Rows.FnExactShowRulesSaid := over
/-- The tied card. -/
theorem card : Rows.FnExactShowRulesCardSaid :=
  Claim7.holds_tied_plain_at .later [] [.data, .data, .data, .data, .widerDeep, .widerDeep, .widerDeep, .mapped] true (true, "5d7d67643744bfe033e3eb7332dfa71200f018cfc146595609d12e7c80bf3550") false
    proved (fun _ h => by cases h) (by kernel_rfl) (fun _ h => by cases h) fnExactShowRules_row_tie rfl ⟨rfl, rfl⟩ (by kernel_rfl) rfl
    (fun f fn hf hfn => by
      obtain rfl : f = 3 := Option.some.inj ((show Tryd.prog.funcNamed Rows.fnExactShowRulesRow.func = some 3 by kernel_rfl).symm.trans hf) |>.symm
      obtain rfl : fn = Tryd.f3 := (Option.some.inj (Tryd.func3.symm.trans hfn)).symm
      exact ⟨by kernel_rfl, fun j t ht => by
        rw [Tryd.params3] at ht
        have hm : t ∈ [22] := by simpa using Array.mem_of_getElem? ht
        have hall : ([22].all fun u => !Tryd.prog.wantsStandIn u) = true := by kernel_rfl
        exact (show Tryd.prog.wantsStandIn t = false by simpa using List.all_eq_true.1 hall t hm)⟩)
    (by kernel_rfl)
#print axioms card
#print axioms proved
end Go.Proofs.YtmgapmpmmkmdhaaDoor.fnExactShowRules
namespace Go.Proofs.YtmgapmpmmkmdhaaDoor
/-- The row, under a short name, for the claim. -/
theorem fnExactShowRules_holds : Rows.FnExactShowRulesCardSaid := fnExactShowRules.card
end Go.Proofs.YtmgapmpmmkmdhaaDoor
