/- BoardLose of the program returns what BoardLose of the reference returns, for all arguments, leaves its argument as it was, and its answer owns its memory; without conditions. -/
import Derived.Test.YtkfbcmbemihbnaaPFnExactBoardLosex6
set_option linter.unusedVariables false
set_option linter.unusedSimpArgs false
namespace Go.Proofs.Ytkfbcmbemihbnaa.Pure
open Go.RowKit Go.Proofs.Ytkfbcmbemihbnaa.PFnExactBoardLose Go.Proofs.YtkfbcmbemihbnaaW.PrintWords Go.Proofs.YtkfbcmbemihbnaaW.PrintLast

/-! ### base -/
theorem wf64 {a : Int} (h : (Lit.int .i64 a).wf = true) : -9223372036854775808 ≤ a ∧ a ≤ 9223372036854775807 := by
  have h1 : IntKind.i64.min = -9223372036854775808 := by decide
  have h2 : IntKind.i64.max = 9223372036854775807 := by decide
  simp only [Lit.wf, Bool.and_eq_true, decide_eq_true_eq] at h
  omega
theorem tm_pos {a : Int} (n : Int) (h : 0 ≤ a) : Int.tmod a n = a % n := Int.tmod_eq_emod_of_nonneg h
theorem tm_neg {a : Int} (n : Int) (h : a ≤ 0) : Int.tmod a n = -((-a) % n) := by
  have := Int.neg_tmod (-a) n
  rw [Int.neg_neg] at this
  rw [this, Int.tmod_eq_emod_of_nonneg (by omega)]
theorem td_pos {a : Int} (n : Int) (h : 0 ≤ a) : Int.tdiv a n = a / n := Int.tdiv_eq_ediv_of_nonneg h
theorem wr64 {a : Int} (h : -9223372036854775808 ≤ a ∧ a ≤ 9223372036854775807) : wrap64 a = a := by
  unfold wrap64
  omega
theorem dec_eq {p : Prop} [Decidable p] {b : Bool} (h : b = true ↔ p) : some b = some (decide p) := by
  rw [Option.some.injEq, Bool.eq_iff_iff, decide_eq_true_eq]
  exact h
theorem ite_dec (p q : Prop) [Decidable p] [Decidable q] : (if p then some (decide q) else some false) = some (decide (p ∧ q)) := by
  by_cases h : p <;> simp [h]
theorem beq_dec (a b : Int) : (a == b) = decide (a = b) := by
  rw [Bool.eq_iff_iff]
  simp

/-! ### lists -/
theorem rd_at {xs : List Int} {i : Nat} (h : i < xs.length) : rd xs (i : Int) = xs[i] := by
  unfold rd
  rw [Int.toNat_natCast, List.getD_eq_getElem?_getD, List.getElem?_eq_getElem h]
  rfl
theorem wr_succ {i n : Nat} (h : i < n) (hn : n ≤ 281474976710656) : wrap64 ((i : Int) + 1) = ((i + 1 : Nat) : Int) := by
  rw [wr64 (by omega)]
  omega
theorem maxLen_le {n : Nat} (h : n ≤ 1048576) : n ≤ 281474976710656 := by omega

/-! ### addr0 -/
theorem in_f (a l h : Int) : spec_l01In.f a l h = some (decide (l ≤ a ∧ a ≤ h)) := by
  unfold spec_l01In.f
  by_cases h1 : a ≥ l
  · rw [if_pos h1]; congr 1; rw [decide_eq_decide]; omega
  · rw [if_neg h1]; congr 1; rw [eq_comm, decide_eq_false_iff_not]; omega

/-! ### board -/
theorem rdP {l : List S85} {i : Nat} {p : S85} (h : l[i]? = some p) : rd_T85 l (i : Int) = p := by
  unfold rd_T85
  rw [Int.toNat_natCast, List.getD_eq_getElem?_getD, h]
  rfl
def cvP (x : S168) : S85 := ⟨x.f0, x.f1, x.f2, x.f3, x.f4, x.f5⟩
theorem toPs_l (x0 : List S168) (hn : x0.length ≤ 1048576) (d : Nat) : ∀ (k i : Nat) (x3 : List S85), i + d = x0.length → d < k → x3.length = x0.length → (∀ j, j < i → x3[j]? = (x0.map cvP)[j]?) → laws_toPieceS.l0 k x0 x3 (i : Int) = some (x0.map cvP) := by
  induction d with
  | zero =>
    intro k i x3 hi hk hl he
    obtain ⟨k, rfl⟩ : ∃ m, k = m + 1 := ⟨k - 1, by omega⟩
    simp only [laws_toPieceS.l0]
    rw [if_neg (by omega)]
    congr 1
    apply List.ext_getElem?
    intro j
    by_cases hj : j < i
    · exact he j hj
    · rw [List.getElem?_eq_none (by omega), List.getElem?_eq_none (by rw [List.length_map]; omega)]
  | succ d ih =>
    intro k i x3 hi hk hl he
    obtain ⟨k, rfl⟩ : ∃ m, k = m + 1 := ⟨k - 1, by omega⟩
    simp only [laws_toPieceS.l0, laws_toPiece.f, Option.bind_some]
    rw [if_pos (by omega), if_pos (by omega), if_pos (by omega), wr_succ (n := x0.length) (by omega) (by omega)]
    refine ih k (i + 1) _ (by omega) (by omega) (by simp [hl]) ?_
    intro j hj
    rw [Int.toNat_natCast]
    by_cases e : j = i
    · subst e
      rw [List.getElem?_set_self (by omega), List.getElem?_map, List.getElem?_eq_getElem (show j < x0.length by omega)]
      unfold rd_T168 cvP
      rw [Int.toNat_natCast, List.getD_eq_getElem?_getD, List.getElem?_eq_getElem (show j < x0.length by omega)]
      rfl
    · rw [List.getElem?_set_ne (by omega)]
      exact he j (by omega)
theorem toBd_f (a b : Int) {l : List S168} (hn : l.length ≤ 1048576) {k : Nat} (hk : l.length < k) : laws_toBoard.f k a b l = some (a, b, l.map cvP) := by
  unfold laws_toBoard.f laws_toPieceS.f
  have e : laws_toPieceS.l0 k l (List.replicate l.length z85) 0 = some (l.map cvP) := toPs_l l hn l.length k 0 _ (by omega) hk (by simp) (fun j hj => absurd hj (by omega))
  rw [if_pos (by omega), if_pos (by rw [Int.toNat_natCast]; omega), Int.toNat_natCast, e]
  rfl
theorem szBd_f (a b : Int) {l : List S168} (hl : l.length ≤ 9223372036854775807) : ∃ r, laws_szBoard.f a b l 1048576 = some r ∧ (¬ r < 0 → l.length ≤ 1048576) := by
  unfold laws_szBoard.f laws_szPieceS.f
  rw [wr64 (by omega)]
  by_cases h : (1048576 : Int) - (l.length : Int) < 0
  · rw [if_pos h]
    exact ⟨-1, rfl, fun h => absurd h (by decide)⟩
  · rw [if_neg h, Option.bind_some, if_neg h]
    exact ⟨_, rfl, fun _ => by omega⟩
theorem eqPc_same (p : S85) : laws_eqPiece.f p.f0 p.f1 p.f2 p.f3 p.f4 p.f5 p.f0 p.f1 p.f2 p.f3 p.f4 p.f5 = some true := by
  unfold laws_eqPiece.f
  simp
theorem eqPs_l (x : List S85) (hn : x.length ≤ 1048576) (d : Nat) : ∀ (k i : Nat), i + d = x.length → d < k → laws_eqPieceS.l0 k x x (i : Int) = some true := by
  induction d with
  | zero =>
    intro k i hi hk
    obtain ⟨k, rfl⟩ : ∃ m, k = m + 1 := ⟨k - 1, by omega⟩
    simp only [laws_eqPieceS.l0]
    rw [if_neg (by omega)]
  | succ d ih =>
    intro k i hi hk
    obtain ⟨k, rfl⟩ : ∃ m, k = m + 1 := ⟨k - 1, by omega⟩
    simp only [laws_eqPieceS.l0, eqPc_same, if_true, Option.bind_some]
    rw [if_pos (by omega), if_pos (by omega), if_pos (by omega), wr_succ (n := x.length) (by omega) (by omega)]
    exact ih k (i + 1) (by omega) (by omega)
theorem eqBd_same (a b : Int) {l : List S85} (hn : l.length ≤ 1048576) {k : Nat} (hk : l.length < k) : laws_eqBoard.f k a b l a b l = some true := by
  unfold laws_eqBoard.f laws_eqPieceS.f
  rw [if_pos rfl, if_pos rfl, if_pos rfl]
  have e : laws_eqPieceS.l0 k l l 0 = some true := eqPs_l l hn l.length k 0 (by omega) hk
  rw [e]
  rfl
/-- A piece's marks from a number on. -/
def pcm (a : Int) : S85 := ⟨a, a + 1, a + 2, a + 3, (Int.tmod (a + 4) 3) == 0, (Int.tmod (a + 5) 3) == 0⟩
def pms (a : Int) (n : Nat) : List S85 := (List.range n).map fun (j : Nat) => pcm (a + 6 * (j : Int))
theorem pms_len (a : Int) (n : Nat) : (pms a n).length = n := by simp [pms]
theorem pms_at (a : Int) (n j : Nat) (h : j < n) : (pms a n)[j]? = some (pcm (a + 6 * (j : Int))) := by
  unfold pms
  rw [List.getElem?_map, List.getElem?_range h]
  rfl
theorem set1 {l : List S85} {i : Nat} (h : i < l.length) (v : S85) : (l.set i v)[i]? = some v := List.getElem?_set_self h
theorem markPs_l (n : Nat) (a : Int) (ha : 0 ≤ a ∧ a ≤ 1099511627776) (hn : n ≤ 1099511627776) (d : Nat) : ∀ (k i : Nat) (x0 : List S85), x0.length = n → i + d = n → d < k → (∀ j, j < i → x0[j]? = some (pcm (a + 6 * (j : Int)))) → laws_markPieceS.l0 k x0 (a + 6 * (i : Int)) (i : Int) = some (a + 6 * (n : Int), pms a n) := by
  induction d with
  | zero =>
    intro k i x0 hl hi hk he
    obtain ⟨k, rfl⟩ : ∃ m, k = m + 1 := ⟨k - 1, by omega⟩
    rw [laws_markPieceS.l0, if_neg (by omega)]
    congr 1
    rw [Prod.mk.injEq]
    refine ⟨by omega, ?_⟩
    apply List.ext_getElem?
    intro j
    by_cases hj : j < n
    · rw [he j (by omega), pms_at _ _ _ hj]
    · rw [List.getElem?_eq_none (by omega), List.getElem?_eq_none (by rw [pms_len]; omega)]
  | succ d ih =>
    intro k i x0 hl hi hk he
    obtain ⟨k, rfl⟩ : ∃ m, k = m + 1 := ⟨k - 1, by omega⟩
    rw [laws_markPieceS.l0, if_pos (by omega), if_pos (by omega)]
    have hi' : i < x0.length := by omega
    have w1 : wrap64 (a + 6 * (i : Int) + 1) = a + 6 * (i : Int) + 1 := wr64 (by omega)
    have w2 : wrap64 (a + 6 * (i : Int) + 1 + 1) = a + 6 * (i : Int) + 2 := by rw [wr64 (by omega)]; omega
    have w3 : wrap64 (a + 6 * (i : Int) + 2 + 1) = a + 6 * (i : Int) + 3 := by rw [wr64 (by omega)]; omega
    have w4 : wrap64 (a + 6 * (i : Int) + 3 + 1) = a + 6 * (i : Int) + 4 := by rw [wr64 (by omega)]; omega
    have w5 : wrap64 (a + 6 * (i : Int) + 4 + 1) = a + 6 * (i : Int) + 5 := by rw [wr64 (by omega)]; omega
    have w6 : wrap64 (a + 6 * (i : Int) + 5 + 1) = a + 6 * ((i + 1 : Nat) : Int) := by rw [wr64 (by omega)]; omega
    rw [w1, w2, w3, w4, w5, w6, show wrap64 ((i : Int) + 1) = ((i + 1 : Nat) : Int) from by rw [wr64 (by omega)]; omega, Int.toNat_natCast]
    simp only [Option.bind_some]
    generalize rd_T85 x0 (i : Int) = q
    have hrd : ∀ v, rd_T85 (x0.set i v) (i : Int) = v := fun v => rdP (set1 hi' v)
    simp only [List.set_set, hrd]
    refine ih k (i + 1) _ (by simp [hl]) (by omega) (by omega) ?_
    intro j hj
    by_cases e : j = i
    · subst e
      rw [List.getElem?_set_self hi']
      rfl
    · rw [List.getElem?_set_ne (by omega)]
      exact he j (by omega)
theorem markBd_f (a b : Int) {l : List S85} (hn : l.length ≤ 1048576) {k : Nat} (hk : l.length < k) : laws_markBoard.f k a b l 1 = some (1 + 6 * (l.length : Int), pms 1 l.length) := by
  unfold laws_markBoard.f laws_markPieceS.f
  have e := markPs_l l.length 1 (by omega) (by omega) l.length k 0 l rfl (by omega) hk (fun j hj => absurd hj (by omega))
  rw [show (1 : Int) + 6 * ((0 : Nat) : Int) = 1 from rfl, show ((0 : Nat) : Int) = 0 from rfl] at e
  rw [e]
  rfl
theorem heldPs_l (n : Nat) (a : Int) (ha : 0 ≤ a ∧ a ≤ 1099511627776) (hn : n ≤ 1099511627776) (d : Nat) : ∀ (k i : Nat), i + d = n → d < k → laws_heldPieceS.l0 k (pms a n) (a + 6 * (i : Int)) (i : Int) = some (a + 6 * (n : Int)) := by
  induction d with
  | zero =>
    intro k i hi hk
    obtain ⟨k, rfl⟩ : ∃ m, k = m + 1 := ⟨k - 1, by omega⟩
    rw [laws_heldPieceS.l0, if_neg (by rw [pms_len]; omega)]
    congr 2
    omega
  | succ d ih =>
    intro k i hi hk
    obtain ⟨k, rfl⟩ : ∃ m, k = m + 1 := ⟨k - 1, by omega⟩
    rw [laws_heldPieceS.l0, if_pos (by rw [pms_len]; omega), if_pos (by omega), rdP (pms_at a n i (by omega))]
    have w1 : wrap64 (a + 6 * (i : Int) + 1) = a + 6 * (i : Int) + 1 := wr64 (by omega)
    have w2 : wrap64 (a + 6 * (i : Int) + 1 + 1) = a + 6 * (i : Int) + 2 := by rw [wr64 (by omega)]; omega
    have w3 : wrap64 (a + 6 * (i : Int) + 2 + 1) = a + 6 * (i : Int) + 3 := by rw [wr64 (by omega)]; omega
    have w4 : wrap64 (a + 6 * (i : Int) + 3 + 1) = a + 6 * (i : Int) + 4 := by rw [wr64 (by omega)]; omega
    have w5 : wrap64 (a + 6 * (i : Int) + 4 + 1) = a + 6 * (i : Int) + 5 := by rw [wr64 (by omega)]; omega
    have w6 : wrap64 (a + 6 * (i : Int) + 5 + 1) = a + 6 * ((i + 1 : Nat) : Int) := by rw [wr64 (by omega)]; omega
    rw [w1, w2, w3, w4, w5, w6, show wrap64 ((i : Int) + 1) = ((i + 1 : Nat) : Int) from by rw [wr64 (by omega)]; omega]
    have e4 : ((pcm (a + 6 * (i : Int))).f4 != (Int.tmod (a + 6 * (i : Int) + 4) 3 == 0)) = false := by simp [pcm]
    have e5 : ((pcm (a + 6 * (i : Int))).f5 != (Int.tmod (a + 6 * (i : Int) + 5) 3 == 0)) = false := by simp [pcm]
    rw [if_pos (show (pcm (a + 6 * (i : Int))).f0 = a + 6 * (i : Int) from rfl), if_pos (show (pcm (a + 6 * (i : Int))).f1 = a + 6 * (i : Int) + 1 from rfl), if_pos (show (pcm (a + 6 * (i : Int))).f2 = a + 6 * (i : Int) + 2 from rfl), if_pos (show (pcm (a + 6 * (i : Int))).f3 = a + 6 * (i : Int) + 3 from rfl), e4, e5, if_neg (by simp), if_neg (by simp)]
    exact ih k (i + 1) (by omega) (by omega)
theorem heldBd_f (a b : Int) {n : Nat} (hn : n ≤ 1048576) {k : Nat} (hk : n < k) : laws_heldBoard.f k a b (pms 1 n) 1 = some (1 + 6 * (n : Int)) := by
  unfold laws_heldBoard.f laws_heldPieceS.f
  have e := heldPs_l n 1 (by omega) (by omega) n k 0 (by omega) hk
  rw [show (1 : Int) + 6 * ((0 : Nat) : Int) = 1 from rfl, show ((0 : Nat) : Int) = 0 from rfl] at e
  rw [e, Option.bind_some, if_neg (by omega)]
/-- Pieces that go on from a number to another. -/
def okl (b : Int) : Int → List S85 → Bool
  | a, [] => a == b
  | a, p :: r => if p.f0 = a ∧ ¬ p.f1 ≤ p.f0 ∧ (0 ≤ p.f2 ∧ p.f2 ≤ 1000000000) ∧ (1 ≤ p.f3 ∧ p.f3 ≤ 1000000) ∧ ¬ (p.f4 = true ∧ p.f5 = true) then okl b p.f1 r else false
theorem okl_cons (b a : Int) (p : S85) (r : List S85) : okl b a (p :: r) = if p.f0 = a ∧ ¬ p.f1 ≤ p.f0 ∧ (0 ≤ p.f2 ∧ p.f2 ≤ 1000000000) ∧ (1 ≤ p.f3 ∧ p.f3 ≤ 1000000) ∧ ¬ (p.f4 = true ∧ p.f5 = true) then okl b p.f1 r else false := rfl
theorem sokl_l (l : List S85) (hn : l.length ≤ 1048576) (u b : Int) (d : Nat) : ∀ (k i : Nat) (a : Int), i + d = l.length → d < k → spec_l15OK.l0 k a (i : Int) u b l = some (okl b a (l.drop i)) := by
  induction d with
  | zero =>
    intro k i a hi hk
    obtain ⟨k, rfl⟩ : ∃ m, k = m + 1 := ⟨k - 1, by omega⟩
    rw [spec_l15OK.l0, if_neg (by omega), List.drop_eq_nil_of_le (by omega)]
    rfl
  | succ d ih =>
    intro k i a hi hk
    obtain ⟨k, rfl⟩ : ∃ m, k = m + 1 := ⟨k - 1, by omega⟩
    have hlt : i < l.length := by omega
    rw [spec_l15OK.l0, if_pos (by omega), if_pos (by omega), rdP (List.getElem?_eq_getElem hlt), List.drop_eq_getElem_cons hlt, okl_cons]
    have go := ih k (i + 1) l[i].f1 (by omega) (by omega)
    rw [show wrap64 ((i : Int) + 1) = ((i + 1 : Nat) : Int) from wr_succ hlt (by omega), in_f, in_f]
    generalize l[i] = p at go ⊢
    simp only [Option.bind_some, decide_eq_true_eq]
    by_cases c1 : p.f0 = a
    · by_cases c2 : p.f1 ≤ p.f0
      · rw [if_pos c1, if_pos c2, if_neg (fun h => h.2.1 c2)]
      · by_cases c3 : 0 ≤ p.f2 ∧ p.f2 ≤ 1000000000
        · by_cases c4 : 1 ≤ p.f3 ∧ p.f3 ≤ 1000000
          · rw [if_pos c1, if_neg c2, if_pos c3, if_pos c4]
            by_cases c5 : p.f4 = true
            · by_cases c6 : p.f5 = true
              · rw [if_pos c5, if_pos c6, if_neg (fun h => h.2.2.2.2 ⟨c5, c6⟩)]
              · rw [if_pos c5, if_neg c6, if_pos ⟨c1, c2, c3, c4, fun h => c6 h.2⟩]
                exact go
            · rw [if_neg c5, if_pos ⟨c1, c2, c3, c4, fun h => c5 h.1⟩]
              exact go
          · rw [if_pos c1, if_neg c2, if_pos c3, if_neg c4, if_neg (fun h => c4 h.2.2.2.1)]
        · rw [if_pos c1, if_neg c2, if_neg c3, if_neg (fun h => c3 h.2.2.1)]
    · rw [if_neg c1, if_neg (fun h => c1 h.1)]
theorem iokl_l (l : List S85) (hn : l.length ≤ 1048576) (u b : Int) (d : Nat) : ∀ (k i : Nat) (a : Int), i + d = l.length → d < k → impl_okBoard.l0 k a l (l.length : Int) (i : Int) u b l = some (okl b a (l.drop i)) := by
  induction d with
  | zero =>
    intro k i a hi hk
    obtain ⟨k, rfl⟩ : ∃ m, k = m + 1 := ⟨k - 1, by omega⟩
    rw [impl_okBoard.l0, if_neg (by omega), List.drop_eq_nil_of_le (by omega)]
    rfl
  | succ d ih =>
    intro k i a hi hk
    obtain ⟨k, rfl⟩ : ∃ m, k = m + 1 := ⟨k - 1, by omega⟩
    have hlt : i < l.length := by omega
    rw [impl_okBoard.l0, if_pos (by omega), if_pos (by omega), if_pos (by omega), rdP (List.getElem?_eq_getElem hlt), List.drop_eq_getElem_cons hlt, okl_cons]
    have go := ih k (i + 1) l[i].f1 (by omega) (by omega)
    rw [show wrap64 ((i : Int) + 1) = ((i + 1 : Nat) : Int) from wr_succ hlt (by omega)]
    generalize l[i] = p at go ⊢
    by_cases c1 : p.f0 = a
    · by_cases c2 : p.f1 ≤ p.f0
      · rw [if_pos c1, if_pos c2, if_neg (fun h => h.2.1 c2)]
      · by_cases c3 : p.f2 < 0
        · rw [if_pos c1, if_neg c2, if_pos c3, if_neg (fun h => by have := h.2.2.1; omega)]
        · by_cases c3' : p.f2 > 1000000000
          · rw [if_pos c1, if_neg c2, if_neg c3, if_pos c3', if_neg (fun h => by have := h.2.2.1; omega)]
          · by_cases c4 : p.f3 < 1
            · rw [if_pos c1, if_neg c2, if_neg c3, if_neg c3', if_pos c4, if_neg (fun h => by have := h.2.2.2.1; omega)]
            · by_cases c4' : p.f3 > 1000000
              · rw [if_pos c1, if_neg c2, if_neg c3, if_neg c3', if_neg c4, if_pos c4', if_neg (fun h => by have := h.2.2.2.1; omega)]
              · rw [if_pos c1, if_neg c2, if_neg c3, if_neg c3', if_neg c4, if_neg c4']
                by_cases c5 : p.f4 = true
                · by_cases c6 : p.f5 = true
                  · rw [if_pos c5, if_pos c6, if_neg (fun h => h.2.2.2.2 ⟨c5, c6⟩)]
                  · rw [if_pos c5, if_neg c6, if_pos ⟨c1, c2, by omega, by omega, fun h => c6 h.2⟩]
                    exact go
                · rw [if_neg c5, if_pos ⟨c1, c2, by omega, by omega, fun h => c5 h.1⟩]
                  exact go
    · rw [if_neg c1, if_neg (fun h => c1 h.1)]
def okb (a b : Int) (l : List S85) : Bool := if a < 0 then false else if a > b then false else if b > 1099511627776 then false else if (l.length : Int) > 4096 then false else okl b a l
theorem okb_len {a b : Int} {l : List S85} (h : okb a b l = true) : l.length ≤ 4096 := by
  unfold okb at h
  by_cases c : (l.length : Int) > 4096
  · simp [c] at h
  · omega
theorem sokb_f (a b : Int) {l : List S85} (hn : l.length ≤ 1048576) {k : Nat} (hk : l.length + 2 ≤ k) : spec_l15OK.f k a b l = some (okb a b l) := by
  obtain ⟨k, rfl⟩ : ∃ m, k = m + 1 := ⟨k - 1, by omega⟩
  have bad : spec_l15OK.j0 (k + 1) true a b l = some false := by rw [spec_l15OK.j0, if_pos rfl]
  have e : spec_l15OK.l0 k a 0 a b l = some (okl b a l) := sokl_l l hn a b l.length k 0 a (by omega) (by omega)
  unfold spec_l15OK.f okb
  rw [bad]
  by_cases c1 : a < 0
  · rw [if_pos c1, if_pos c1]
  · rw [if_neg c1, if_neg c1]
    by_cases c2 : a > b
    · rw [if_pos c2, if_pos c2]
    · rw [if_neg c2, if_neg c2]
      by_cases c3 : b > 1099511627776
      · rw [if_pos c3, if_pos c3]
      · rw [if_neg c3, if_neg c3]
        by_cases c4 : (l.length : Int) > 4096
        · rw [decide_eq_true c4, if_pos c4, bad]
        · rw [decide_eq_false c4, if_neg c4, spec_l15OK.j0, if_neg (by simp), e]
theorem iokb_f (a b : Int) {l : List S85} (hn : l.length ≤ 1048576) {k : Nat} (hk : l.length + 2 ≤ k) : impl_okBoard.f k a b l = some (okb a b l) := by
  obtain ⟨k, rfl⟩ : ∃ m, k = m + 1 := ⟨k - 1, by omega⟩
  have bad : impl_okBoard.j0 (k + 1) true a b l = some false := by rw [impl_okBoard.j0, if_pos rfl]
  have e : impl_okBoard.l0 k a l (l.length : Int) 0 a b l = some (okl b a l) := iokl_l l hn a b l.length k 0 a (by omega) (by omega)
  unfold impl_okBoard.f okb
  rw [bad]
  by_cases c1 : a < 0
  · rw [if_pos c1, if_pos c1]
  · rw [if_neg c1, if_neg c1]
    by_cases c2 : a > b
    · rw [if_pos c2, if_pos c2]
    · rw [if_neg c2, if_neg c2]
      by_cases c3 : b > 1099511627776
      · rw [if_pos c3, if_pos c3]
      · rw [if_neg c3, if_neg c3]
        by_cases c4 : (l.length : Int) > 4096
        · rw [decide_eq_true c4, if_pos c4, bad]
        · rw [decide_eq_false c4, if_neg c4, impl_okBoard.j0, if_neg (by simp), e]
theorem copyB_f (a b : Int) {l : List S85} (hn : l.length ≤ 1048576) : spec_l15Copy.f a b l = some (a, b, l) := by
  unfold spec_l15Copy.f
  rw [Option.bind_some, if_pos (by simp; omega)]
  rfl
theorem ownB_f (a b : Int) {l : List S85} (hn : l.length ≤ 1048576) : impl_ownBoard.f a b l = some (a, b, l) := by
  unfold impl_ownBoard.f impl_Piece.f
  rw [Option.bind_some, if_pos (by simp; omega)]
  rfl

/-! ### the law -/
def sk : List S85 → Int
  | [] => 0
  | p :: r => (if p.f4 = true then 1 else 0) + sk r
def cd (p : S85) (n : Int) : Prop := p.f3 = 1 ∧ ¬ p.f4 = true ∧ ¬ p.f5 = true ∧ n ≥ 3
instance (p : S85) (n : Int) : Decidable (cd p n) := by unfold cd; exact inferInstance
def lo (p : S85) : S85 := ⟨p.f0, p.f1, p.f2, p.f3, p.f4, true⟩
def mkl : List S85 → List S85
  | [] => []
  | p :: r => (if cd p (sk r) then lo p else p) :: mkl r
def wt : List S85 → Int
  | [] => 0
  | p :: r => (if cd p (sk r) then p.f1 - p.f0 else 0) + wt r
theorem sk_cons (p : S85) (r : List S85) : sk (p :: r) = (if p.f4 = true then 1 else 0) + sk r := rfl
theorem mkl_cons (p : S85) (r : List S85) : mkl (p :: r) = (if cd p (sk r) then lo p else p) :: mkl r := rfl
theorem wt_cons (p : S85) (r : List S85) : wt (p :: r) = (if cd p (sk r) then p.f1 - p.f0 else 0) + wt r := rfl
theorem sk_bd (l : List S85) : 0 ≤ sk l ∧ sk l ≤ (l.length : Int) := by
  induction l with
  | nil => exact ⟨Int.le_refl _, Int.le_refl _⟩
  | cons p r ih =>
    rw [sk_cons, List.length_cons]
    split <;> omega
def wide (l : List S85) : Prop := ∀ p ∈ l, 0 ≤ p.f0 ∧ p.f0 ≤ p.f1 ∧ p.f1 ≤ 1099511627776
theorem wt_bd (l : List S85) (h : wide l) : 0 ≤ wt l ∧ wt l ≤ 1099511627776 * (l.length : Int) := by
  induction l with
  | nil => exact ⟨Int.le_refl _, Int.le_refl _⟩
  | cons p r ih =>
    have hp := h p (List.mem_cons_self ..)
    have hr := ih (fun x hx => h x (List.mem_cons_of_mem _ hx))
    rw [wt_cons, List.length_cons]
    split <;> omega
theorem mkl_len (l : List S85) : (mkl l).length = l.length := by
  induction l with
  | nil => rfl
  | cons p r ih => rw [mkl_cons, List.length_cons, List.length_cons, ih]
theorem okl_le (b : Int) (l : List S85) : ∀ a, okl b a l = true → a ≤ b ∧ ∀ p ∈ l, a ≤ p.f0 ∧ p.f0 < p.f1 ∧ p.f1 ≤ b := by
  induction l with
  | nil =>
    intro a h
    have e : a = b := by unfold okl at h; simpa using h
    exact ⟨by omega, fun p hp => absurd hp (by simp)⟩
  | cons q r ih =>
    intro a h
    rw [okl_cons] at h
    by_cases c : q.f0 = a ∧ ¬ q.f1 ≤ q.f0 ∧ (0 ≤ q.f2 ∧ q.f2 ≤ 1000000000) ∧ (1 ≤ q.f3 ∧ q.f3 ≤ 1000000) ∧ ¬ (q.f4 = true ∧ q.f5 = true)
    · rw [if_pos c] at h
      obtain ⟨i1, i2⟩ := ih _ h
      have c1 := c.1
      have c2 := c.2.1
      refine ⟨by omega, fun p hp => ?_⟩
      rcases List.mem_cons.1 hp with rfl | hp
      · omega
      · have := i2 p hp
        omega
    · rw [if_neg c] at h
      cases h
theorem okb_wide {a b : Int} {l : List S85} (h : okb a b l = true) : wide l := by
  unfold okb at h
  by_cases c1 : a < 0
  · simp [c1] at h
  · by_cases c2 : a > b
    · simp [c1, c2] at h
    · by_cases c3 : b > 1099511627776
      · simp [c1, c2, c3] at h
      · by_cases c4 : (l.length : Int) > 4096
        · simp [c1, c2, c3, c4] at h
        · rw [if_neg c1, if_neg c2, if_neg c3, if_neg c4] at h
          obtain ⟨_, h2⟩ := okl_le b l a h
          intro p hp
          have := h2 p hp
          omega
theorem set_mid {A B : List S85} {i : Nat} (h : A.length = i) (p v : S85) : (A ++ p :: B).set i v = A ++ v :: B := by
  subst h
  rw [List.set_append_right _ _ (Nat.le_refl _), Nat.sub_self, List.set_cons_zero]
theorem at_mid {A B : List S85} {i : Nat} (h : A.length = i) (p : S85) : (A ++ p :: B)[i]? = some p := by
  subst h
  rw [List.getElem?_append_right (Nat.le_refl _), Nat.sub_self]
  rfl
theorem wide_at {l : List S85} (h : wide l) {i : Nat} (hi : i < l.length) : 0 ≤ l[i].f0 ∧ l[i].f0 ≤ l[i].f1 ∧ l[i].f1 ≤ 1099511627776 := h _ (List.getElem_mem hi)
theorem wide_drop {l : List S85} (h : wide l) (i : Nat) : wide (l.drop i) := fun p hp => h p (List.mem_of_mem_drop hp)
theorem ilose_l (l : List S85) (hn : l.length ≤ 4096) (hw : wide l) (a b : Int) (i : Nat) : ∀ (k : Nat), i ≤ l.length → i < k → impl_board_lose.l0 k (wt (l.drop i)) (sk (l.drop i)) ((i : Int) - 1) a b (l.take i ++ mkl (l.drop i)) = some (wt l, mkl l) := by
  induction i with
  | zero =>
    intro k hi hk
    obtain ⟨k, rfl⟩ : ∃ m, k = m + 1 := ⟨k - 1, by omega⟩
    rw [impl_board_lose.l0, if_neg (by omega)]
    rfl
  | succ i ih =>
    intro k hi hk
    obtain ⟨k, rfl⟩ : ∃ m, k = m + 1 := ⟨k - 1, by omega⟩
    have hlt : i < l.length := by omega
    have hd : l.drop i = l[i] :: l.drop (i + 1) := List.drop_eq_getElem_cons hlt
    have ht : l.take (i + 1) ++ mkl (l.drop (i + 1)) = l.take i ++ l[i] :: mkl (l.drop (i + 1)) := by
      rw [List.take_succ_eq_append_getElem hlt, List.append_assoc]
      rfl
    have hA : (l.take i).length = i := by rw [List.length_take]; omega
    have go := ih k (by omega) (by omega)
    have b1 := sk_bd (l.drop (i + 1))
    have b2 := wt_bd (l.drop (i + 1)) (wide_drop hw _)
    have b3 : ((l.drop (i + 1)).length : Int) ≤ 4096 := by rw [List.length_drop]; omega
    have b4 := wide_at hw hlt
    rw [hd, sk_cons, wt_cons, mkl_cons] at go
    rw [show (((i + 1 : Nat) : Int) - 1) = (i : Int) from by omega, ht]
    generalize l.drop (i + 1) = r at go b1 b2 b3 ⊢
    generalize l[i] = p at go b4 ⊢
    have hlen : (l.take i ++ p :: mkl r).length = i + 1 + (mkl r).length := by rw [List.length_append, hA, List.length_cons]; omega
    have hset := set_mid (B := mkl r) hA p (lo p)
    have hrd : rd_T85 (l.take i ++ p :: mkl r) (i : Int) = p := rdP (at_mid hA p)
    have hrd2 : rd_T85 (l.take i ++ lo p :: mkl r) (i : Int) = lo p := rdP (at_mid hA (lo p))
    have w1 : wrap64 ((i : Int) - 1) = (i : Int) - 1 := wr64 (by omega)
    have w2 : wrap64 (sk r + 1) = sk r + 1 := wr64 (by omega)
    have w3 : wrap64 (wt r + wrap64 (p.f1 - p.f0)) = wt r + (p.f1 - p.f0) := by rw [wr64 (a := p.f1 - p.f0) (by omega), wr64 (by omega)]
    rw [impl_board_lose.l0, if_pos (by omega), if_pos (by omega), if_pos (by rw [hlen]; omega), hrd, Int.toNat_natCast, w1, w2]
    have keep : ¬ cd p (sk r) → (if p.f4 = true then (impl_board_lose.l0 k (wt r) (sk r + 1) ((i : Int) - 1) a b (l.take i ++ p :: mkl r)) else (impl_board_lose.l0 k (wt r) (sk r) ((i : Int) - 1) a b (l.take i ++ p :: mkl r))) = some (wt l, mkl l) := by
      intro c
      rw [if_neg c, if_neg c, Int.zero_add] at go
      by_cases c4 : p.f4 = true
      · rw [if_pos c4] at go ⊢
        rw [Int.add_comm (sk r) 1]
        exact go
      · rw [if_neg c4] at go ⊢
        rw [Int.zero_add] at go
        exact go
    by_cases c1 : p.f3 = 1
    · rw [if_pos c1]
      by_cases c4 : p.f4 = true
      · rw [if_pos c4]
        exact keep (fun h => h.2.1 c4)
      · rw [if_neg c4]
        by_cases c5 : p.f5 = true
        · rw [if_pos c5]
          exact keep (fun h => h.2.2.1 c5)
        · rw [if_neg c5]
          by_cases c3 : sk r ≥ 3
          · have c : cd p (sk r) := ⟨c1, c4, c5, c3⟩
            rw [if_pos c, if_pos c, if_neg c4, Int.zero_add, Int.add_comm (p.f1 - p.f0)] at go
            rw [if_pos c3, Option.bind_some]
            show (if (rd_T85 ((l.take i ++ p :: mkl r).set i (lo p)) (i : Int)).f4 = true then _ else _) = _
            have hset' : (l.take i ++ p :: mkl r).set i ⟨p.f0, p.f1, p.f2, p.f3, p.f4, true⟩ = l.take i ++ lo p :: mkl r := hset
            rw [hset, hset', hrd2]
            have f4' : ¬ (lo p).f4 = true := c4
            rw [if_neg f4']
            show impl_board_lose.l0 k (wrap64 (wt r + wrap64 (p.f1 - p.f0))) (sk r) ((i : Int) - 1) a b (l.take i ++ lo p :: mkl r) = _
            rw [w3]
            exact go
          · rw [if_neg c3]
            exact keep (fun h => c3 h.2.2.2)
    · rw [if_neg c1]
      exact keep (fun h => c1 h.1)
theorem beh_l (l : List S85) (hn : l.length ≤ 4096) (a b : Int) (d : Nat) : ∀ (k j : Nat) (x : Int), j + d = l.length → d < k → 0 ≤ x ∧ x + (d : Int) ≤ 1099511627776 → spec_l15Behind.l0 k x (j : Int) a b l = some (x + sk (l.drop j)) := by
  induction d with
  | zero =>
    intro k j x hj hk hx
    obtain ⟨k, rfl⟩ : ∃ m, k = m + 1 := ⟨k - 1, by omega⟩
    rw [spec_l15Behind.l0, if_neg (by omega), List.drop_eq_nil_of_le (by omega)]
    congr 1
    exact (Int.add_zero _).symm
  | succ d ih =>
    intro k j x hj hk hx
    obtain ⟨k, rfl⟩ : ∃ m, k = m + 1 := ⟨k - 1, by omega⟩
    have hlt : j < l.length := by omega
    rw [spec_l15Behind.l0, if_pos (by omega), if_pos (by omega), rdP (List.getElem?_eq_getElem hlt), show wrap64 ((j : Int) + 1) = ((j + 1 : Nat) : Int) from wr_succ hlt (by omega), wr64 (a := x + 1) (by omega), List.drop_eq_getElem_cons hlt, sk_cons]
    by_cases c : l[j].f4 = true
    · rw [if_pos c, if_pos c]
      rw [ih k (j + 1) (x + 1) (by omega) (by omega) (by omega), Int.add_assoc]
    · rw [if_neg c, if_neg c, ih k (j + 1) x (by omega) (by omega) (by omega), Int.zero_add]
def ls (l : List S85) (i : Nat) : List S85 := (mkl l).take i ++ l.drop i
theorem mkl_at (l : List S85) : ∀ (i : Nat) (h : i < l.length), (mkl l)[i]? = some (if cd l[i] (sk (l.drop (i + 1))) then lo l[i] else l[i]) := by
  induction l with
  | nil => exact fun i h => absurd h (by simp)
  | cons p r ih =>
    intro i h
    cases i with
    | zero => rfl
    | succ i => exact ih i (by simpa using h)
theorem drop_mid {A B : List S85} {i : Nat} (h : A.length = i) (p : S85) : (A ++ p :: B).drop (i + 1) = B := by
  rw [show A ++ p :: B = (A ++ [p]) ++ B from by rw [List.append_assoc]; rfl]
  exact List.drop_left' (by rw [List.length_append, h]; rfl)
theorem wt_bd2 (l : List S85) (hn : l.length ≤ 4096) (hw : wide l) : 0 ≤ wt l ∧ wt l ≤ 4503599627370496 := by
  have h := wt_bd l hw
  have h2 : (l.length : Int) ≤ 4096 := Int.ofNat_le.mpr hn
  exact ⟨h.1, by omega⟩
theorem w3_aux (W R u v : Int) (h1 : 0 ≤ W ∧ W ≤ 4503599627370496) (h2 : 0 ≤ R ∧ R ≤ 4503599627370496) (h3 : 0 ≤ u ∧ u ≤ v ∧ v ≤ 1099511627776) : wrap64 (wrap64 (W - (v - u + R) + v) - u) = W - R := by
  rw [wr64 (a := W - (v - u + R) + v) (by omega), wr64 (by omega)]
  omega
theorem slose_l (l : List S85) (hn : l.length ≤ 4096) (hw : wide l) (a b : Int) (d : Nat) : ∀ (k i : Nat), i + d = l.length → d + l.length + 5 ≤ k → spec_BoardLose.l0 k (wt l - wt (l.drop i)) (i : Int) a b (ls l i) = some (a, b, mkl l, wt l, 0) := by
  induction d with
  | zero =>
    intro k i hi hk
    obtain ⟨k, rfl⟩ : ∃ m, k = m + 1 := ⟨k - 1, by omega⟩
    obtain rfl : i = l.length := by omega
    have e : ls l l.length = mkl l := by
      unfold ls
      rw [List.drop_length, List.append_nil, List.take_of_length_le (by rw [mkl_len]; exact Nat.le_refl _)]
    rw [spec_BoardLose.l0, e, if_neg (by rw [mkl_len]; omega), List.drop_length]
    congr 1
    show (a, b, mkl l, wt l - 0, (0 : Int)) = _
    rw [Int.sub_zero]
  | succ d ih =>
    intro k i hi hk
    obtain ⟨k, rfl⟩ : ∃ m, k = m + 1 := ⟨k - 1, by omega⟩
    have hlt : i < l.length := by omega
    have hd : l.drop i = l[i] :: l.drop (i + 1) := List.drop_eq_getElem_cons hlt
    have h2l : i + 1 + d = l.length := by omega
    have hdk : d < k := by omega
    have h0d : (0 : Int) + (d : Int) ≤ 1099511627776 := by omega
    have hA : ((mkl l).take i).length = i := by rw [List.length_take, mkl_len]; omega
    have go := ih k (i + 1) (by omega) (by omega)
    have hls : ls l (i + 1) = (mkl l).take i ++ (if cd l[i] (sk (l.drop (i + 1))) then lo l[i] else l[i]) :: l.drop (i + 1) := by
      unfold ls
      rw [List.take_add_one, mkl_at l i hlt, List.append_assoc]
      rfl
    have hl0 : ls l i = (mkl l).take i ++ l[i] :: l.drop (i + 1) := by unfold ls; rw [hd]
    have b2 := wt_bd2 (l.drop (i + 1)) (by rw [List.length_drop]; omega) (wide_drop hw _)
    have b0 := wt_bd2 l hn hw
    have b4 := wide_at hw hlt
    have hlr : i + 1 + (l.drop (i + 1)).length = l.length := by rw [List.length_drop]; omega
    rw [hls] at go
    rw [hl0, hd, wt_cons]
    generalize l.drop (i + 1) = r at go b2 hlr ⊢
    generalize l[i] = p at go b4 ⊢
    generalize (mkl l).take i = A at go hA ⊢
    have hlen : (A ++ p :: r).length = l.length := by rw [List.length_append, hA, List.length_cons]; omega
    have hrd : rd_T85 (A ++ p :: r) (i : Int) = p := rdP (at_mid hA p)
    have w1 : wrap64 ((i : Int) + 1) = ((i + 1 : Nat) : Int) := wr_succ hlt (by omega)
    have hb : spec_l15Behind.f k a b (A ++ p :: r) (i : Int) = some (sk r) := by
      unfold spec_l15Behind.f
      have h1 : (A ++ p :: r).length ≤ 4096 := Nat.le_trans (Nat.le_of_eq hlen) hn
      have h2 : i + 1 + d = (A ++ p :: r).length := h2l.trans hlen.symm
      rw [w1, beh_l (A ++ p :: r) h1 a b d k (i + 1) 0 h2 hdk ⟨Int.le_refl _, h0d⟩, drop_mid hA, Int.zero_add]
    rw [spec_BoardLose.l0, if_pos (show (i : Int) < ((A ++ p :: r).length : Int) by rw [hlen]; exact Int.ofNat_lt.mpr hlt), if_pos (show (0 : Int) ≤ (i : Int) from Int.natCast_nonneg i), hrd, Int.toNat_natCast, w1, hb, Option.bind_some]
    have keep : ¬ cd p (sk r) → spec_BoardLose.l0 k (wt l - ((if cd p (sk r) then p.f1 - p.f0 else 0) + wt r)) ((i + 1 : Nat) : Int) a b (A ++ p :: r) = some (a, b, mkl l, wt l, 0) := by
      intro c
      rw [if_neg c] at go
      rw [if_neg c, Int.zero_add]
      exact go
    by_cases c1 : p.f3 = 1
    · rw [if_pos c1]
      by_cases c4 : p.f4 = true
      · rw [if_pos c4]
        exact keep (fun h => h.2.1 c4)
      · rw [if_neg c4]
        by_cases c5 : p.f5 = true
        · rw [if_pos c5]
          exact keep (fun h => h.2.2.1 c5)
        · rw [if_neg c5]
          by_cases c3 : sk r ≥ 3
          · have c : cd p (sk r) := ⟨c1, c4, c5, c3⟩
            rw [if_pos c3]
            rw [if_pos c] at go
            have hset : (A ++ p :: r).set i ⟨p.f0, p.f1, p.f2, p.f3, p.f4, true⟩ = A ++ lo p :: r := set_mid hA p (lo p)
            rw [hset, if_pos c]
            rw [w3_aux _ _ _ _ b0 b2 b4]
            exact go
          · rw [if_neg c3]
            exact keep (fun h => c3 h.2.2.2)
    · rw [if_neg c1]
      exact keep (fun h => c1 h.1)
def lr (a b : Int) (l : List S85) : Int × Int × List S85 × Int × Int := if okb a b l = true then (a, b, mkl l, wt l, 0) else (0, 0, [], 0, 1)
theorem slose_f (a b : Int) {l : List S85} (hn : l.length ≤ 1048576) {k : Nat} (hk : 2 * l.length + 8 ≤ k) : spec_BoardLose.f k a b l = some (lr a b l) := by
  unfold spec_BoardLose.f lr
  rw [sokb_f a b hn (by omega), Option.bind_some]
  by_cases c : okb a b l = true
  · rw [if_pos c, if_pos c, copyB_f a b hn, Option.bind_some]
    have e := slose_l l (okb_len c) (okb_wide c) a b l.length k 0 (by omega) (by omega)
    rw [List.drop_zero, Int.sub_self] at e
    exact e
  · rw [if_neg c, if_neg c]
theorem ilose_f (a b : Int) {l : List S85} (hn : l.length ≤ 1048576) {k : Nat} (hk : 2 * l.length + 8 ≤ k) : impl_BoardLose.f k a b l = some (lr a b l) := by
  unfold impl_BoardLose.f lr
  rw [iokb_f a b hn (by omega), Option.bind_some]
  by_cases c : okb a b l = true
  · rw [if_pos c, if_pos c, ownB_f a b hn, Option.bind_some]
    have e := ilose_l l (okb_len c) (okb_wide c) a b l.length k (Nat.le_refl _) (by omega)
    rw [List.drop_length, List.take_length] at e
    have e2 : impl_board_lose.f k a b l = some (wt l, mkl l) := by
      unfold impl_board_lose.f
      rw [wr64 (by have := okb_len c; omega)]
      refine Eq.trans ?_ e
      show impl_board_lose.l0 k 0 0 ((l.length : Int) - 1) a b l = impl_board_lose.l0 k 0 0 ((l.length : Int) - 1) a b (l ++ [])
      rw [List.append_nil]
    show (impl_board_lose.f k a b l).bind _ = _
    rw [e2]
    rfl
  · rw [if_neg c, if_neg c]
theorem lr_len (a b : Int) (l : List S85) : (lr a b l).2.2.1.length ≤ l.length := by
  unfold lr
  split
  · exact Nat.le_of_eq (mkl_len l)
  · simp
theorem FnExactBoardLose (a b : Int) (l : List S168) (w0 : (Lit.int .i64 a).wf = true) (w1 : (Lit.int .i64 b).wf = true) (hl : l.length ≤ maxLen) (hw : ∀ x ∈ l, ((Lit.int .i64 x.f0).wf = true ∧ (Lit.int .i64 x.f1).wf = true ∧ (Lit.int .i64 x.f2).wf = true ∧ (Lit.int .i64 x.f3).wf = true)) : ∃ k, laws_FnExactBoardLose.f k a b l = some true := by
  have hl2 : l.length ≤ 9223372036854775807 := by unfold maxLen at hl; exact hl
  obtain ⟨r, hr, hc⟩ := szBd_f a b hl2
  by_cases hneg : r < 0
  · refine ⟨0, ?_⟩
    unfold laws_FnExactBoardLose.f
    rw [hr, Option.bind_some, if_pos hneg]
  · have hn := hc hneg
    have hm : (l.map cvP).length ≤ 1048576 := by rw [List.length_map]; exact hn
    have hs := fun k (hk : 2 * l.length + 8 ≤ k) => slose_f a b hm (k := k) (by rw [List.length_map]; exact hk)
    have hi := fun k (hk : 2 * l.length + 8 ≤ k) => ilose_f a b hm (k := k) (by rw [List.length_map]; exact hk)
    have hL := lr_len a b (l.map cvP)
    rw [List.length_map] at hL
    obtain ⟨R, hR⟩ : ∃ R, R = lr a b (l.map cvP) := ⟨_, rfl⟩
    rw [← hR] at hs hi hL
    clear hR
    obtain ⟨ra, rb, rl, rn, rc⟩ := R
    have hL : rl.length ≤ l.length := hL
    have hml : (l.map cvP).length = l.length := List.length_map ..
    obtain ⟨k, hk⟩ : ∃ k, k = 2 * l.length + 100 := ⟨_, rfl⟩
    refine ⟨k + 1 + 1 + 1, ?_⟩
    unfold laws_FnExactBoardLose.f
    rw [hr, Option.bind_some, if_neg hneg, toBd_f a b hn (by omega)]
    simp only [Option.bind_some]
    rw [hs _ (by omega), hi _ (by omega)]
    simp only [Option.bind_some]
    rw [eqBd_same _ _ (by omega) (by omega)]
    simp only [Option.bind_some, if_true, bne_self_eq_false]
    rw [laws_FnExactBoardLose.j0, if_neg (by simp), toBd_f a b hn (by omega)]
    simp only [Option.bind_some]
    rw [eqBd_same _ _ hm (by omega)]
    simp only [Option.bind_some, if_true]
    rw [markBd_f _ _ hm (by omega)]
    simp only [Option.bind_some]
    rw [if_neg (show ¬ (1 : Int) + 6 * ((l.map cvP).length : Int) < 0 by omega), eqBd_same _ _ (by omega) (by omega)]
    simp only [Option.bind_some, if_true, bne_self_eq_false]
    rw [laws_FnExactBoardLose.j1, if_neg (by simp), markBd_f _ _ (by omega) (by omega)]
    simp only [Option.bind_some]
    rw [heldBd_f _ _ (by omega) (by omega)]
    simp only [Option.bind_some]
    rw [if_neg (show ¬ (1 : Int) + 6 * (rl.length : Int) < 0 by omega), if_pos (by trivial), toBd_f a b hn (by omega)]
    simp only [Option.bind_some]
    rw [hi _ (by omega)]
    simp only [Option.bind_some]
    rw [eqBd_same _ _ (by omega) (by omega)]
    simp only [Option.bind_some, if_true, bne_self_eq_false]
    rw [laws_FnExactBoardLose.j2, if_neg (by simp), heldBd_f _ _ (by omega) (by omega)]
    simp only [Option.bind_some]
    rw [if_neg (show ¬ (1 : Int) + 6 * (rl.length : Int) < 0 by omega), if_pos (by trivial)]

end Go.Proofs.Ytkfbcmbemihbnaa.Pure
