/- BoardTimeout of the program returns what BoardTimeout of the reference returns, for all arguments, leaves its argument as it was, and its answer owns its memory; without conditions. -/
import Derived.Test.YtkfbcmbemihbnaaPFnExactBoardTimeoutx5
set_option linter.unusedVariables false
set_option linter.unusedSimpArgs false
namespace Go.Proofs.Ytkfbcmbemihbnaa.Pure
open Go.RowKit Go.Proofs.Ytkfbcmbemihbnaa.PFnExactBoardTimeout Go.Proofs.YtkfbcmbemihbnaaW.PrintWords Go.Proofs.YtkfbcmbemihbnaaW.PrintLast

/-! ### base -/
theorem wf64 {a : Int} (h : (Lit.int .i64 a).wf = true) : -9223372036854775808 ≤ a ∧ a ≤ 9223372036854775807 := by
  have h1 : IntKind.i64.min = -9223372036854775808 := by decide
  have h2 : IntKind.i64.max = 9223372036854775807 := by decide
  simp only [Lit.wf, Bool.and_eq_true, decide_eq_true_eq] at h
  omega
theorem tm_pos {a : Int} (n : Int) (h : 0 ≤ a) : Int.tmod a n = a % n := Int.tmod_eq_emod_of_nonneg h
theorem tm_neg {a : Int} (n : Int) (h : a ≤ 0) : Int.tmod a n = -((-a) % n) := by
  have := Int.neg_tmod (-a) n
  rw [Int.neg_neg] at this
  rw [this, Int.tmod_eq_emod_of_nonneg (by omega)]
theorem td_pos {a : Int} (n : Int) (h : 0 ≤ a) : Int.tdiv a n = a / n := Int.tdiv_eq_ediv_of_nonneg h
theorem wr64 {a : Int} (h : -9223372036854775808 ≤ a ∧ a ≤ 9223372036854775807) : wrap64 a = a := by
  unfold wrap64
  omega
theorem dec_eq {p : Prop} [Decidable p] {b : Bool} (h : b = true ↔ p) : some b = some (decide p) := by
  rw [Option.some.injEq, Bool.eq_iff_iff, decide_eq_true_eq]
  exact h
theorem ite_dec (p q : Prop) [Decidable p] [Decidable q] : (if p then some (decide q) else some false) = some (decide (p ∧ q)) := by
  by_cases h : p <;> simp [h]
theorem beq_dec (a b : Int) : (a == b) = decide (a = b) := by
  rw [Bool.eq_iff_iff]
  simp

/-! ### lists -/
theorem rd_at {xs : List Int} {i : Nat} (h : i < xs.length) : rd xs (i : Int) = xs[i] := by
  unfold rd
  rw [Int.toNat_natCast, List.getD_eq_getElem?_getD, List.getElem?_eq_getElem h]
  rfl
theorem wr_succ {i n : Nat} (h : i < n) (hn : n ≤ 281474976710656) : wrap64 ((i : Int) + 1) = ((i + 1 : Nat) : Int) := by
  rw [wr64 (by omega)]
  omega
theorem maxLen_le {n : Nat} (h : n ≤ 1048576) : n ≤ 281474976710656 := by omega

/-! ### addr0 -/
theorem in_f (a l h : Int) : spec_l01In.f a l h = some (decide (l ≤ a ∧ a ≤ h)) := by
  unfold spec_l01In.f
  by_cases h1 : a ≥ l
  · rw [if_pos h1]; congr 1; rw [decide_eq_decide]; omega
  · rw [if_neg h1]; congr 1; rw [eq_comm, decide_eq_false_iff_not]; omega

/-! ### board -/
theorem rdP {l : List S85} {i : Nat} {p : S85} (h : l[i]? = some p) : rd_T85 l (i : Int) = p := by
  unfold rd_T85
  rw [Int.toNat_natCast, List.getD_eq_getElem?_getD, h]
  rfl
def cvP (x : S168) : S85 := ⟨x.f0, x.f1, x.f2, x.f3, x.f4, x.f5⟩
theorem toPs_l (x0 : List S168) (hn : x0.length ≤ 1048576) (d : Nat) : ∀ (k i : Nat) (x3 : List S85), i + d = x0.length → d < k → x3.length = x0.length → (∀ j, j < i → x3[j]? = (x0.map cvP)[j]?) → laws_toPieceS.l0 k x0 x3 (i : Int) = some (x0.map cvP) := by
  induction d with
  | zero =>
    intro k i x3 hi hk hl he
    obtain ⟨k, rfl⟩ : ∃ m, k = m + 1 := ⟨k - 1, by omega⟩
    simp only [laws_toPieceS.l0]
    rw [if_neg (by omega)]
    congr 1
    apply List.ext_getElem?
    intro j
    by_cases hj : j < i
    · exact he j hj
    · rw [List.getElem?_eq_none (by omega), List.getElem?_eq_none (by rw [List.length_map]; omega)]
  | succ d ih =>
    intro k i x3 hi hk hl he
    obtain ⟨k, rfl⟩ : ∃ m, k = m + 1 := ⟨k - 1, by omega⟩
    simp only [laws_toPieceS.l0, laws_toPiece.f, Option.bind_some]
    rw [if_pos (by omega), if_pos (by omega), if_pos (by omega), wr_succ (n := x0.length) (by omega) (by omega)]
    refine ih k (i + 1) _ (by omega) (by omega) (by simp [hl]) ?_
    intro j hj
    rw [Int.toNat_natCast]
    by_cases e : j = i
    · subst e
      rw [List.getElem?_set_self (by omega), List.getElem?_map, List.getElem?_eq_getElem (show j < x0.length by omega)]
      unfold rd_T168 cvP
      rw [Int.toNat_natCast, List.getD_eq_getElem?_getD, List.getElem?_eq_getElem (show j < x0.length by omega)]
      rfl
    · rw [List.getElem?_set_ne (by omega)]
      exact he j (by omega)
theorem toBd_f (a b : Int) {l : List S168} (hn : l.length ≤ 1048576) {k : Nat} (hk : l.length < k) : laws_toBoard.f k a b l = some (a, b, l.map cvP) := by
  unfold laws_toBoard.f laws_toPieceS.f
  have e : laws_toPieceS.l0 k l (List.replicate l.length z85) 0 = some (l.map cvP) := toPs_l l hn l.length k 0 _ (by omega) hk (by simp) (fun j hj => absurd hj (by omega))
  rw [if_pos (by omega), if_pos (by rw [Int.toNat_natCast]; omega), Int.toNat_natCast, e]
  rfl
theorem szBd_f (a b : Int) {l : List S168} (hl : l.length ≤ 9223372036854775807) : ∃ r, laws_szBoard.f a b l 1048576 = some r ∧ (¬ r < 0 → l.length ≤ 1048576) := by
  unfold laws_szBoard.f laws_szPieceS.f
  rw [wr64 (by omega)]
  by_cases h : (1048576 : Int) - (l.length : Int) < 0
  · rw [if_pos h]
    exact ⟨-1, rfl, fun h => absurd h (by decide)⟩
  · rw [if_neg h, Option.bind_some, if_neg h]
    exact ⟨_, rfl, fun _ => by omega⟩
theorem eqPc_same (p : S85) : laws_eqPiece.f p.f0 p.f1 p.f2 p.f3 p.f4 p.f5 p.f0 p.f1 p.f2 p.f3 p.f4 p.f5 = some true := by
  unfold laws_eqPiece.f
  simp
theorem eqPs_l (x : List S85) (hn : x.length ≤ 1048576) (d : Nat) : ∀ (k i : Nat), i + d = x.length → d < k → laws_eqPieceS.l0 k x x (i : Int) = some true := by
  induction d with
  | zero =>
    intro k i hi hk
    obtain ⟨k, rfl⟩ : ∃ m, k = m + 1 := ⟨k - 1, by omega⟩
    simp only [laws_eqPieceS.l0]
    rw [if_neg (by omega)]
  | succ d ih =>
    intro k i hi hk
    obtain ⟨k, rfl⟩ : ∃ m, k = m + 1 := ⟨k - 1, by omega⟩
    simp only [laws_eqPieceS.l0, eqPc_same, if_true, Option.bind_some]
    rw [if_pos (by omega), if_pos (by omega), if_pos (by omega), wr_succ (n := x.length) (by omega) (by omega)]
    exact ih k (i + 1) (by omega) (by omega)
theorem eqBd_same (a b : Int) {l : List S85} (hn : l.length ≤ 1048576) {k : Nat} (hk : l.length < k) : laws_eqBoard.f k a b l a b l = some true := by
  unfold laws_eqBoard.f laws_eqPieceS.f
  rw [if_pos rfl, if_pos rfl, if_pos rfl]
  have e : laws_eqPieceS.l0 k l l 0 = some true := eqPs_l l hn l.length k 0 (by omega) hk
  rw [e]
  rfl
/-- A piece's marks from a number on. -/
def pcm (a : Int) : S85 := ⟨a, a + 1, a + 2, a + 3, (Int.tmod (a + 4) 3) == 0, (Int.tmod (a + 5) 3) == 0⟩
def pms (a : Int) (n : Nat) : List S85 := (List.range n).map fun (j : Nat) => pcm (a + 6 * (j : Int))
theorem pms_len (a : Int) (n : Nat) : (pms a n).length = n := by simp [pms]
theorem pms_at (a : Int) (n j : Nat) (h : j < n) : (pms a n)[j]? = some (pcm (a + 6 * (j : Int))) := by
  unfold pms
  rw [List.getElem?_map, List.getElem?_range h]
  rfl
theorem set1 {l : List S85} {i : Nat} (h : i < l.length) (v : S85) : (l.set i v)[i]? = some v := List.getElem?_set_self h
theorem markPs_l (n : Nat) (a : Int) (ha : 0 ≤ a ∧ a ≤ 1099511627776) (hn : n ≤ 1099511627776) (d : Nat) : ∀ (k i : Nat) (x0 : List S85), x0.length = n → i + d = n → d < k → (∀ j, j < i → x0[j]? = some (pcm (a + 6 * (j : Int)))) → laws_markPieceS.l0 k x0 (a + 6 * (i : Int)) (i : Int) = some (a + 6 * (n : Int), pms a n) := by
  induction d with
  | zero =>
    intro k i x0 hl hi hk he
    obtain ⟨k, rfl⟩ : ∃ m, k = m + 1 := ⟨k - 1, by omega⟩
    rw [laws_markPieceS.l0, if_neg (by omega)]
    congr 1
    rw [Prod.mk.injEq]
    refine ⟨by omega, ?_⟩
    apply List.ext_getElem?
    intro j
    by_cases hj : j < n
    · rw [he j (by omega), pms_at _ _ _ hj]
    · rw [List.getElem?_eq_none (by omega), List.getElem?_eq_none (by rw [pms_len]; omega)]
  | succ d ih =>
    intro k i x0 hl hi hk he
    obtain ⟨k, rfl⟩ : ∃ m, k = m + 1 := ⟨k - 1, by omega⟩
    rw [laws_markPieceS.l0, if_pos (by omega), if_pos (by omega)]
    have hi' : i < x0.length := by omega
    have w1 : wrap64 (a + 6 * (i : Int) + 1) = a + 6 * (i : Int) + 1 := wr64 (by omega)
    have w2 : wrap64 (a + 6 * (i : Int) + 1 + 1) = a + 6 * (i : Int) + 2 := by rw [wr64 (by omega)]; omega
    have w3 : wrap64 (a + 6 * (i : Int) + 2 + 1) = a + 6 * (i : Int) + 3 := by rw [wr64 (by omega)]; omega
    have w4 : wrap64 (a + 6 * (i : Int) + 3 + 1) = a + 6 * (i : Int) + 4 := by rw [wr64 (by omega)]; omega
    have w5 : wrap64 (a + 6 * (i : Int) + 4 + 1) = a + 6 * (i : Int) + 5 := by rw [wr64 (by omega)]; omega
    have w6 : wrap64 (a + 6 * (i : Int) + 5 + 1) = a + 6 * ((i + 1 : Nat) : Int) := by rw [wr64 (by omega)]; omega
    rw [w1, w2, w3, w4, w5, w6, show wrap64 ((i : Int) + 1) = ((i + 1 : Nat) : Int) from by rw [wr64 (by omega)]; omega, Int.toNat_natCast]
    simp only [Option.bind_some]
    generalize rd_T85 x0 (i : Int) = q
    have hrd : ∀ v, rd_T85 (x0.set i v) (i : Int) = v := fun v => rdP (set1 hi' v)
    simp only [List.set_set, hrd]
    refine ih k (i + 1) _ (by simp [hl]) (by omega) (by omega) ?_
    intro j hj
    by_cases e : j = i
    · subst e
      rw [List.getElem?_set_self hi']
      rfl
    · rw [List.getElem?_set_ne (by omega)]
      exact he j (by omega)
theorem markBd_f (a b : Int) {l : List S85} (hn : l.length ≤ 1048576) {k : Nat} (hk : l.length < k) : laws_markBoard.f k a b l 1 = some (1 + 6 * (l.length : Int), pms 1 l.length) := by
  unfold laws_markBoard.f laws_markPieceS.f
  have e := markPs_l l.length 1 (by omega) (by omega) l.length k 0 l rfl (by omega) hk (fun j hj => absurd hj (by omega))
  rw [show (1 : Int) + 6 * ((0 : Nat) : Int) = 1 from rfl, show ((0 : Nat) : Int) = 0 from rfl] at e
  rw [e]
  rfl
theorem heldPs_l (n : Nat) (a : Int) (ha : 0 ≤ a ∧ a ≤ 1099511627776) (hn : n ≤ 1099511627776) (d : Nat) : ∀ (k i : Nat), i + d = n → d < k → laws_heldPieceS.l0 k (pms a n) (a + 6 * (i : Int)) (i : Int) = some (a + 6 * (n : Int)) := by
  induction d with
  | zero =>
    intro k i hi hk
    obtain ⟨k, rfl⟩ : ∃ m, k = m + 1 := ⟨k - 1, by omega⟩
    rw [laws_heldPieceS.l0, if_neg (by rw [pms_len]; omega)]
    congr 2
    omega
  | succ d ih =>
    intro k i hi hk
    obtain ⟨k, rfl⟩ : ∃ m, k = m + 1 := ⟨k - 1, by omega⟩
    rw [laws_heldPieceS.l0, if_pos (by rw [pms_len]; omega), if_pos (by omega), rdP (pms_at a n i (by omega))]
    have w1 : wrap64 (a + 6 * (i : Int) + 1) = a + 6 * (i : Int) + 1 := wr64 (by omega)
    have w2 : wrap64 (a + 6 * (i : Int) + 1 + 1) = a + 6 * (i : Int) + 2 := by rw [wr64 (by omega)]; omega
    have w3 : wrap64 (a + 6 * (i : Int) + 2 + 1) = a + 6 * (i : Int) + 3 := by rw [wr64 (by omega)]; omega
    have w4 : wrap64 (a + 6 * (i : Int) + 3 + 1) = a + 6 * (i : Int) + 4 := by rw [wr64 (by omega)]; omega
    have w5 : wrap64 (a + 6 * (i : Int) + 4 + 1) = a + 6 * (i : Int) + 5 := by rw [wr64 (by omega)]; omega
    have w6 : wrap64 (a + 6 * (i : Int) + 5 + 1) = a + 6 * ((i + 1 : Nat) : Int) := by rw [wr64 (by omega)]; omega
    rw [w1, w2, w3, w4, w5, w6, show wrap64 ((i : Int) + 1) = ((i + 1 : Nat) : Int) from by rw [wr64 (by omega)]; omega]
    have e4 : ((pcm (a + 6 * (i : Int))).f4 != (Int.tmod (a + 6 * (i : Int) + 4) 3 == 0)) = false := by simp [pcm]
    have e5 : ((pcm (a + 6 * (i : Int))).f5 != (Int.tmod (a + 6 * (i : Int) + 5) 3 == 0)) = false := by simp [pcm]
    rw [if_pos (show (pcm (a + 6 * (i : Int))).f0 = a + 6 * (i : Int) from rfl), if_pos (show (pcm (a + 6 * (i : Int))).f1 = a + 6 * (i : Int) + 1 from rfl), if_pos (show (pcm (a + 6 * (i : Int))).f2 = a + 6 * (i : Int) + 2 from rfl), if_pos (show (pcm (a + 6 * (i : Int))).f3 = a + 6 * (i : Int) + 3 from rfl), e4, e5, if_neg (by simp), if_neg (by simp)]
    exact ih k (i + 1) (by omega) (by omega)
theorem heldBd_f (a b : Int) {n : Nat} (hn : n ≤ 1048576) {k : Nat} (hk : n < k) : laws_heldBoard.f k a b (pms 1 n) 1 = some (1 + 6 * (n : Int)) := by
  unfold laws_heldBoard.f laws_heldPieceS.f
  have e := heldPs_l n 1 (by omega) (by omega) n k 0 (by omega) hk
  rw [show (1 : Int) + 6 * ((0 : Nat) : Int) = 1 from rfl, show ((0 : Nat) : Int) = 0 from rfl] at e
  rw [e, Option.bind_some, if_neg (by omega)]
/-- Pieces that go on from a number to another. -/
def okl (b : Int) : Int → List S85 → Bool
  | a, [] => a == b
  | a, p :: r => if p.f0 = a ∧ ¬ p.f1 ≤ p.f0 ∧ (0 ≤ p.f2 ∧ p.f2 ≤ 1000000000) ∧ (1 ≤ p.f3 ∧ p.f3 ≤ 1000000) ∧ ¬ (p.f4 = true ∧ p.f5 = true) then okl b p.f1 r else false
theorem okl_cons (b a : Int) (p : S85) (r : List S85) : okl b a (p :: r) = if p.f0 = a ∧ ¬ p.f1 ≤ p.f0 ∧ (0 ≤ p.f2 ∧ p.f2 ≤ 1000000000) ∧ (1 ≤ p.f3 ∧ p.f3 ≤ 1000000) ∧ ¬ (p.f4 = true ∧ p.f5 = true) then okl b p.f1 r else false := rfl
theorem sokl_l (l : List S85) (hn : l.length ≤ 1048576) (u b : Int) (d : Nat) : ∀ (k i : Nat) (a : Int), i + d = l.length → d < k → spec_l15OK.l0 k a (i : Int) u b l = some (okl b a (l.drop i)) := by
  induction d with
  | zero =>
    intro k i a hi hk
    obtain ⟨k, rfl⟩ : ∃ m, k = m + 1 := ⟨k - 1, by omega⟩
    rw [spec_l15OK.l0, if_neg (by omega), List.drop_eq_nil_of_le (by omega)]
    rfl
  | succ d ih =>
    intro k i a hi hk
    obtain ⟨k, rfl⟩ : ∃ m, k = m + 1 := ⟨k - 1, by omega⟩
    have hlt : i < l.length := by omega
    rw [spec_l15OK.l0, if_pos (by omega), if_pos (by omega), rdP (List.getElem?_eq_getElem hlt), List.drop_eq_getElem_cons hlt, okl_cons]
    have go := ih k (i + 1) l[i].f1 (by omega) (by omega)
    rw [show wrap64 ((i : Int) + 1) = ((i + 1 : Nat) : Int) from wr_succ hlt (by omega), in_f, in_f]
    generalize l[i] = p at go ⊢
    simp only [Option.bind_some, decide_eq_true_eq]
    by_cases c1 : p.f0 = a
    · by_cases c2 : p.f1 ≤ p.f0
      · rw [if_pos c1, if_pos c2, if_neg (fun h => h.2.1 c2)]
      · by_cases c3 : 0 ≤ p.f2 ∧ p.f2 ≤ 1000000000
        · by_cases c4 : 1 ≤ p.f3 ∧ p.f3 ≤ 1000000
          · rw [if_pos c1, if_neg c2, if_pos c3, if_pos c4]
            by_cases c5 : p.f4 = true
            · by_cases c6 : p.f5 = true
              · rw [if_pos c5, if_pos c6, if_neg (fun h => h.2.2.2.2 ⟨c5, c6⟩)]
              · rw [if_pos c5, if_neg c6, if_pos ⟨c1, c2, c3, c4, fun h => c6 h.2⟩]
                exact go
            · rw [if_neg c5, if_pos ⟨c1, c2, c3, c4, fun h => c5 h.1⟩]
              exact go
          · rw [if_pos c1, if_neg c2, if_pos c3, if_neg c4, if_neg (fun h => c4 h.2.2.2.1)]
        · rw [if_pos c1, if_neg c2, if_neg c3, if_neg (fun h => c3 h.2.2.1)]
    · rw [if_neg c1, if_neg (fun h => c1 h.1)]
theorem iokl_l (l : List S85) (hn : l.length ≤ 1048576) (u b : Int) (d : Nat) : ∀ (k i : Nat) (a : Int), i + d = l.length → d < k → impl_okBoard.l0 k a l (l.length : Int) (i : Int) u b l = some (okl b a (l.drop i)) := by
  induction d with
  | zero =>
    intro k i a hi hk
    obtain ⟨k, rfl⟩ : ∃ m, k = m + 1 := ⟨k - 1, by omega⟩
    rw [impl_okBoard.l0, if_neg (by omega), List.drop_eq_nil_of_le (by omega)]
    rfl
  | succ d ih =>
    intro k i a hi hk
    obtain ⟨k, rfl⟩ : ∃ m, k = m + 1 := ⟨k - 1, by omega⟩
    have hlt : i < l.length := by omega
    rw [impl_okBoard.l0, if_pos (by omega), if_pos (by omega), if_pos (by omega), rdP (List.getElem?_eq_getElem hlt), List.drop_eq_getElem_cons hlt, okl_cons]
    have go := ih k (i + 1) l[i].f1 (by omega) (by omega)
    rw [show wrap64 ((i : Int) + 1) = ((i + 1 : Nat) : Int) from wr_succ hlt (by omega)]
    generalize l[i] = p at go ⊢
    by_cases c1 : p.f0 = a
    · by_cases c2 : p.f1 ≤ p.f0
      · rw [if_pos c1, if_pos c2, if_neg (fun h => h.2.1 c2)]
      · by_cases c3 : p.f2 < 0
        · rw [if_pos c1, if_neg c2, if_pos c3, if_neg (fun h => by have := h.2.2.1; omega)]
        · by_cases c3' : p.f2 > 1000000000
          · rw [if_pos c1, if_neg c2, if_neg c3, if_pos c3', if_neg (fun h => by have := h.2.2.1; omega)]
          · by_cases c4 : p.f3 < 1
            · rw [if_pos c1, if_neg c2, if_neg c3, if_neg c3', if_pos c4, if_neg (fun h => by have := h.2.2.2.1; omega)]
            · by_cases c4' : p.f3 > 1000000
              · rw [if_pos c1, if_neg c2, if_neg c3, if_neg c3', if_neg c4, if_pos c4', if_neg (fun h => by have := h.2.2.2.1; omega)]
              · rw [if_pos c1, if_neg c2, if_neg c3, if_neg c3', if_neg c4, if_neg c4']
                by_cases c5 : p.f4 = true
                · by_cases c6 : p.f5 = true
                  · rw [if_pos c5, if_pos c6, if_neg (fun h => h.2.2.2.2 ⟨c5, c6⟩)]
                  · rw [if_pos c5, if_neg c6, if_pos ⟨c1, c2, by omega, by omega, fun h => c6 h.2⟩]
                    exact go
                · rw [if_neg c5, if_pos ⟨c1, c2, by omega, by omega, fun h => c5 h.1⟩]
                  exact go
    · rw [if_neg c1, if_neg (fun h => c1 h.1)]
def okb (a b : Int) (l : List S85) : Bool := if a < 0 then false else if a > b then false else if b > 1099511627776 then false else if (l.length : Int) > 4096 then false else okl b a l
theorem okb_len {a b : Int} {l : List S85} (h : okb a b l = true) : l.length ≤ 4096 := by
  unfold okb at h
  by_cases c : (l.length : Int) > 4096
  · simp [c] at h
  · omega
theorem sokb_f (a b : Int) {l : List S85} (hn : l.length ≤ 1048576) {k : Nat} (hk : l.length + 2 ≤ k) : spec_l15OK.f k a b l = some (okb a b l) := by
  obtain ⟨k, rfl⟩ : ∃ m, k = m + 1 := ⟨k - 1, by omega⟩
  have bad : spec_l15OK.j0 (k + 1) true a b l = some false := by rw [spec_l15OK.j0, if_pos rfl]
  have e : spec_l15OK.l0 k a 0 a b l = some (okl b a l) := sokl_l l hn a b l.length k 0 a (by omega) (by omega)
  unfold spec_l15OK.f okb
  rw [bad]
  by_cases c1 : a < 0
  · rw [if_pos c1, if_pos c1]
  · rw [if_neg c1, if_neg c1]
    by_cases c2 : a > b
    · rw [if_pos c2, if_pos c2]
    · rw [if_neg c2, if_neg c2]
      by_cases c3 : b > 1099511627776
      · rw [if_pos c3, if_pos c3]
      · rw [if_neg c3, if_neg c3]
        by_cases c4 : (l.length : Int) > 4096
        · rw [decide_eq_true c4, if_pos c4, bad]
        · rw [decide_eq_false c4, if_neg c4, spec_l15OK.j0, if_neg (by simp), e]
theorem iokb_f (a b : Int) {l : List S85} (hn : l.length ≤ 1048576) {k : Nat} (hk : l.length + 2 ≤ k) : impl_okBoard.f k a b l = some (okb a b l) := by
  obtain ⟨k, rfl⟩ : ∃ m, k = m + 1 := ⟨k - 1, by omega⟩
  have bad : impl_okBoard.j0 (k + 1) true a b l = some false := by rw [impl_okBoard.j0, if_pos rfl]
  have e : impl_okBoard.l0 k a l (l.length : Int) 0 a b l = some (okl b a l) := iokl_l l hn a b l.length k 0 a (by omega) (by omega)
  unfold impl_okBoard.f okb
  rw [bad]
  by_cases c1 : a < 0
  · rw [if_pos c1, if_pos c1]
  · rw [if_neg c1, if_neg c1]
    by_cases c2 : a > b
    · rw [if_pos c2, if_pos c2]
    · rw [if_neg c2, if_neg c2]
      by_cases c3 : b > 1099511627776
      · rw [if_pos c3, if_pos c3]
      · rw [if_neg c3, if_neg c3]
        by_cases c4 : (l.length : Int) > 4096
        · rw [decide_eq_true c4, if_pos c4, bad]
        · rw [decide_eq_false c4, if_neg c4, impl_okBoard.j0, if_neg (by simp), e]
theorem copyB_f (a b : Int) {l : List S85} (hn : l.length ≤ 1048576) : spec_l15Copy.f a b l = some (a, b, l) := by
  unfold spec_l15Copy.f
  rw [Option.bind_some, if_pos (by simp; omega)]
  rfl
theorem ownB_f (a b : Int) {l : List S85} (hn : l.length ≤ 1048576) : impl_ownBoard.f a b l = some (a, b, l) := by
  unfold impl_ownBoard.f impl_Piece.f
  rw [Option.bind_some, if_pos (by simp; omega)]
  rfl

/-! ### the law -/
def tmo (p : S85) : S85 := ⟨p.f0, p.f1, p.f2, p.f3, false, true⟩
def tml (l : List S85) (i : Nat) : List S85 := (l.take i).map tmo ++ l.drop i
theorem tml_len (l : List S85) (i : Nat) : (tml l i).length = l.length := by
  simp only [tml, List.length_append, List.length_map, List.length_take, List.length_drop]
  omega
theorem tml_at {l : List S85} {i : Nat} (h : i < l.length) : (tml l i)[i]? = some l[i] := by
  unfold tml
  rw [List.getElem?_append_right (by simp; omega), List.length_map, List.length_take, show i - min i l.length = 0 by omega, List.getElem?_drop, Nat.add_zero, List.getElem?_eq_getElem h]
theorem tml_set {l : List S85} {i : Nat} (h : i < l.length) : (tml l i).set i (tmo l[i]) = tml l (i + 1) := by
  apply List.ext_getElem?
  intro j
  by_cases e : j = i
  · subst e
    rw [List.getElem?_set_self (by rw [tml_len]; exact h)]
    unfold tml
    rw [List.getElem?_append_left (by simp; omega), List.getElem?_map, List.getElem?_take_of_lt (by omega), List.getElem?_eq_getElem h]
    rfl
  · rw [List.getElem?_set_ne (by omega)]
    unfold tml
    by_cases hj : j < i
    · rw [List.getElem?_append_left (by simp; omega), List.getElem?_append_left (by simp; omega), List.getElem?_map, List.getElem?_map, List.getElem?_take_of_lt hj, List.getElem?_take_of_lt (by omega)]
    · rw [List.getElem?_append_right (by simp; omega), List.getElem?_append_right (by simp; omega), List.getElem?_drop, List.getElem?_drop]
      simp only [List.length_map, List.length_take]
      congr 1
      omega
theorem tml_end (l : List S85) : tml l l.length = l.map tmo := by
  unfold tml
  rw [List.take_length, List.drop_length, List.append_nil]
theorem stm_l (l : List S85) (hn : l.length ≤ 1048576) (a b : Int) (d : Nat) : ∀ (k i : Nat), i + d = l.length → d < k → spec_BoardTimeout.l0 k (i : Int) a b (tml l i) = some (a, b, l.map tmo, 0) := by
  induction d with
  | zero =>
    intro k i hi hk
    obtain ⟨k, rfl⟩ : ∃ m, k = m + 1 := ⟨k - 1, by omega⟩
    obtain rfl : i = l.length := by omega
    rw [spec_BoardTimeout.l0, if_neg (by rw [tml_len]; omega), tml_end]
  | succ d ih =>
    intro k i hi hk
    obtain ⟨k, rfl⟩ : ∃ m, k = m + 1 := ⟨k - 1, by omega⟩
    have hlt : i < l.length := by omega
    have hl2 : i < (tml l i).length := by rw [tml_len]; exact hlt
    rw [spec_BoardTimeout.l0, if_pos (by rw [tml_len]; omega), if_pos (by omega), Option.bind_some, rdP (tml_at hlt), Int.toNat_natCast, rdP (set1 hl2 _), List.set_set]
    rw [show wrap64 ((i : Int) + 1) = ((i + 1 : Nat) : Int) from wr_succ hlt (by omega)]
    have e := tml_set hlt
    unfold tmo at e
    rw [e]
    exact ih k (i + 1) (by omega) (by omega)
theorem itm_l (l : List S85) (hn : l.length ≤ 1048576) (a b : Int) (d : Nat) : ∀ (k i : Nat), i + d = l.length → d < k → impl_board_timeout.l0 k (l.length : Int) (i : Int) a b (tml l i) = some (l.map tmo) := by
  induction d with
  | zero =>
    intro k i hi hk
    obtain ⟨k, rfl⟩ : ∃ m, k = m + 1 := ⟨k - 1, by omega⟩
    obtain rfl : i = l.length := by omega
    rw [impl_board_timeout.l0, if_neg (by omega), tml_end]
  | succ d ih =>
    intro k i hi hk
    obtain ⟨k, rfl⟩ : ∃ m, k = m + 1 := ⟨k - 1, by omega⟩
    have hlt : i < l.length := by omega
    have hl2 : i < (tml l i).length := by rw [tml_len]; exact hlt
    rw [impl_board_timeout.l0, if_pos (by omega), if_pos (by omega), if_pos (by rw [tml_len]; omega), Option.bind_some, rdP (tml_at hlt), Int.toNat_natCast, rdP (set1 hl2 _), List.set_set]
    rw [show wrap64 ((i : Int) + 1) = ((i + 1 : Nat) : Int) from wr_succ hlt (by omega)]
    have e := tml_set hlt
    unfold tmo at e
    rw [e]
    exact ih k (i + 1) (by omega) (by omega)
def tmr (a b : Int) (l : List S85) : Int × Int × List S85 × Int := if okb a b l = true then (a, b, l.map tmo, 0) else (0, 0, [], 1)
theorem stm_f (a b : Int) {l : List S85} (hn : l.length ≤ 1048576) {k : Nat} (hk : l.length + 3 ≤ k) : spec_BoardTimeout.f k a b l = some (tmr a b l) := by
  unfold spec_BoardTimeout.f tmr
  rw [sokb_f a b hn (by omega), Option.bind_some]
  by_cases c : okb a b l = true
  · rw [if_pos c, if_pos c, copyB_f a b hn, Option.bind_some]
    have e := stm_l l hn a b l.length k 0 (by omega) (by omega)
    exact e
  · rw [if_neg c, if_neg c]
theorem itm_f (a b : Int) {l : List S85} (hn : l.length ≤ 1048576) {k : Nat} (hk : l.length + 3 ≤ k) : impl_BoardTimeout.f k a b l = some (tmr a b l) := by
  unfold impl_BoardTimeout.f tmr
  rw [iokb_f a b hn (by omega), Option.bind_some]
  by_cases c : okb a b l = true
  · rw [if_pos c, if_pos c, ownB_f a b hn, Option.bind_some]
    have e : impl_board_timeout.f k a b l = some (l.map tmo) := itm_l l hn a b l.length k 0 (by omega) (by omega)
    show (impl_board_timeout.f k a b l).bind _ = _
    rw [e]
    rfl
  · rw [if_neg c, if_neg c]
theorem tmr_len (a b : Int) (l : List S85) : (tmr a b l).2.2.1.length ≤ l.length := by
  unfold tmr
  split <;> simp
theorem FnExactBoardTimeout (a b : Int) (l : List S168) (w0 : (Lit.int .i64 a).wf = true) (w1 : (Lit.int .i64 b).wf = true) (hl : l.length ≤ maxLen) (hw : ∀ x ∈ l, ((Lit.int .i64 x.f0).wf = true ∧ (Lit.int .i64 x.f1).wf = true ∧ (Lit.int .i64 x.f2).wf = true ∧ (Lit.int .i64 x.f3).wf = true)) : ∃ k, laws_FnExactBoardTimeout.f k a b l = some true := by
  have hl2 : l.length ≤ 9223372036854775807 := by unfold maxLen at hl; exact hl
  obtain ⟨r, hr, hc⟩ := szBd_f a b hl2
  by_cases hneg : r < 0
  · refine ⟨0, ?_⟩
    unfold laws_FnExactBoardTimeout.f
    rw [hr, Option.bind_some, if_pos hneg]
  · have hn := hc hneg
    have hm : (l.map cvP).length ≤ 1048576 := by rw [List.length_map]; exact hn
    have hs := fun k (hk : l.length + 3 ≤ k) => stm_f a b hm (k := k) (by rw [List.length_map]; exact hk)
    have hi := fun k (hk : l.length + 3 ≤ k) => itm_f a b hm (k := k) (by rw [List.length_map]; exact hk)
    have hL := tmr_len a b (l.map cvP)
    rw [List.length_map] at hL
    obtain ⟨R, hR⟩ : ∃ R, R = tmr a b (l.map cvP) := ⟨_, rfl⟩
    rw [← hR] at hs hi hL
    clear hR
    obtain ⟨ra, rb, rl, rc⟩ := R
    have hL : rl.length ≤ l.length := hL
    have hml : (l.map cvP).length = l.length := List.length_map ..
    obtain ⟨k, hk⟩ : ∃ k, k = l.length + 100 := ⟨_, rfl⟩
    refine ⟨k + 1 + 1 + 1, ?_⟩
    unfold laws_FnExactBoardTimeout.f
    rw [hr, Option.bind_some, if_neg hneg, toBd_f a b hn (by omega)]
    simp only [Option.bind_some]
    rw [hs _ (by omega), hi _ (by omega)]
    simp only [Option.bind_some]
    rw [eqBd_same _ _ (by omega) (by omega)]
    simp only [Option.bind_some, if_true, bne_self_eq_false]
    rw [laws_FnExactBoardTimeout.j0, if_neg (by simp), toBd_f a b hn (by omega)]
    simp only [Option.bind_some]
    rw [eqBd_same _ _ hm (by omega)]
    simp only [Option.bind_some, if_true]
    rw [markBd_f _ _ hm (by omega)]
    simp only [Option.bind_some]
    rw [if_neg (show ¬ (1 : Int) + 6 * ((l.map cvP).length : Int) < 0 by omega), eqBd_same _ _ (by omega) (by omega)]
    simp only [Option.bind_some, if_true, bne_self_eq_false]
    rw [laws_FnExactBoardTimeout.j1, if_neg (by simp), markBd_f _ _ (by omega) (by omega)]
    simp only [Option.bind_some]
    rw [heldBd_f _ _ (by omega) (by omega)]
    simp only [Option.bind_some]
    rw [if_neg (show ¬ (1 : Int) + 6 * (rl.length : Int) < 0 by omega), if_pos (by trivial), toBd_f a b hn (by omega)]
    simp only [Option.bind_some]
    rw [hi _ (by omega)]
    simp only [Option.bind_some]
    rw [eqBd_same _ _ (by omega) (by omega)]
    simp only [Option.bind_some, if_true, bne_self_eq_false]
    rw [laws_FnExactBoardTimeout.j2, if_neg (by simp), heldBd_f _ _ (by omega) (by omega)]
    simp only [Option.bind_some]
    rw [if_neg (show ¬ (1 : Int) + 6 * (rl.length : Int) < 0 by omega), if_pos (by trivial)]

end Go.Proofs.Ytkfbcmbemihbnaa.Pure
