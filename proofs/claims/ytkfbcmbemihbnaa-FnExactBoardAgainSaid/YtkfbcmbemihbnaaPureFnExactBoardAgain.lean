/- BoardAgain of the program returns what BoardAgain of the reference returns, for all arguments, leaves its argument as it was, and its answer owns its memory; without conditions. -/
import Derived.Test.YtkfbcmbemihbnaaPFnExactBoardAgainx6
set_option linter.unusedVariables false
set_option linter.unusedSimpArgs false
namespace Go.Proofs.Ytkfbcmbemihbnaa.Pure
open Go.RowKit Go.Proofs.Ytkfbcmbemihbnaa.PFnExactBoardAgain Go.Proofs.YtkfbcmbemihbnaaW.PrintWords Go.Proofs.YtkfbcmbemihbnaaW.PrintLast

/-! ### base -/
theorem wf64 {a : Int} (h : (Lit.int .i64 a).wf = true) : -9223372036854775808 ≤ a ∧ a ≤ 9223372036854775807 := by
  have h1 : IntKind.i64.min = -9223372036854775808 := by decide
  have h2 : IntKind.i64.max = 9223372036854775807 := by decide
  simp only [Lit.wf, Bool.and_eq_true, decide_eq_true_eq] at h
  omega
theorem tm_pos {a : Int} (n : Int) (h : 0 ≤ a) : Int.tmod a n = a % n := Int.tmod_eq_emod_of_nonneg h
theorem tm_neg {a : Int} (n : Int) (h : a ≤ 0) : Int.tmod a n = -((-a) % n) := by
  have := Int.neg_tmod (-a) n
  rw [Int.neg_neg] at this
  rw [this, Int.tmod_eq_emod_of_nonneg (by omega)]
theorem td_pos {a : Int} (n : Int) (h : 0 ≤ a) : Int.tdiv a n = a / n := Int.tdiv_eq_ediv_of_nonneg h
theorem wr64 {a : Int} (h : -9223372036854775808 ≤ a ∧ a ≤ 9223372036854775807) : wrap64 a = a := by
  unfold wrap64
  omega
theorem dec_eq {p : Prop} [Decidable p] {b : Bool} (h : b = true ↔ p) : some b = some (decide p) := by
  rw [Option.some.injEq, Bool.eq_iff_iff, decide_eq_true_eq]
  exact h
theorem ite_dec (p q : Prop) [Decidable p] [Decidable q] : (if p then some (decide q) else some false) = some (decide (p ∧ q)) := by
  by_cases h : p <;> simp [h]
theorem beq_dec (a b : Int) : (a == b) = decide (a = b) := by
  rw [Bool.eq_iff_iff]
  simp

/-! ### lists -/
theorem rd_at {xs : List Int} {i : Nat} (h : i < xs.length) : rd xs (i : Int) = xs[i] := by
  unfold rd
  rw [Int.toNat_natCast, List.getD_eq_getElem?_getD, List.getElem?_eq_getElem h]
  rfl
theorem wr_succ {i n : Nat} (h : i < n) (hn : n ≤ 281474976710656) : wrap64 ((i : Int) + 1) = ((i + 1 : Nat) : Int) := by
  rw [wr64 (by omega)]
  omega
theorem maxLen_le {n : Nat} (h : n ≤ 1048576) : n ≤ 281474976710656 := by omega

/-! ### addr0 -/
theorem in_f (a l h : Int) : spec_l01In.f a l h = some (decide (l ≤ a ∧ a ≤ h)) := by
  unfold spec_l01In.f
  by_cases h1 : a ≥ l
  · rw [if_pos h1]; congr 1; rw [decide_eq_decide]; omega
  · rw [if_neg h1]; congr 1; rw [eq_comm, decide_eq_false_iff_not]; omega

/-! ### board -/
theorem rdP {l : List S85} {i : Nat} {p : S85} (h : l[i]? = some p) : rd_T85 l (i : Int) = p := by
  unfold rd_T85
  rw [Int.toNat_natCast, List.getD_eq_getElem?_getD, h]
  rfl
def cvP (x : S168) : S85 := ⟨x.f0, x.f1, x.f2, x.f3, x.f4, x.f5⟩
theorem toPs_l (x0 : List S168) (hn : x0.length ≤ 1048576) (d : Nat) : ∀ (k i : Nat) (x3 : List S85), i + d = x0.length → d < k → x3.length = x0.length → (∀ j, j < i → x3[j]? = (x0.map cvP)[j]?) → laws_toPieceS.l0 k x0 x3 (i : Int) = some (x0.map cvP) := by
  induction d with
  | zero =>
    intro k i x3 hi hk hl he
    obtain ⟨k, rfl⟩ : ∃ m, k = m + 1 := ⟨k - 1, by omega⟩
    simp only [laws_toPieceS.l0]
    rw [if_neg (by omega)]
    congr 1
    apply List.ext_getElem?
    intro j
    by_cases hj : j < i
    · exact he j hj
    · rw [List.getElem?_eq_none (by omega), List.getElem?_eq_none (by rw [List.length_map]; omega)]
  | succ d ih =>
    intro k i x3 hi hk hl he
    obtain ⟨k, rfl⟩ : ∃ m, k = m + 1 := ⟨k - 1, by omega⟩
    simp only [laws_toPieceS.l0, laws_toPiece.f, Option.bind_some]
    rw [if_pos (by omega), if_pos (by omega), if_pos (by omega), wr_succ (n := x0.length) (by omega) (by omega)]
    refine ih k (i + 1) _ (by omega) (by omega) (by simp [hl]) ?_
    intro j hj
    rw [Int.toNat_natCast]
    by_cases e : j = i
    · subst e
      rw [List.getElem?_set_self (by omega), List.getElem?_map, List.getElem?_eq_getElem (show j < x0.length by omega)]
      unfold rd_T168 cvP
      rw [Int.toNat_natCast, List.getD_eq_getElem?_getD, List.getElem?_eq_getElem (show j < x0.length by omega)]
      rfl
    · rw [List.getElem?_set_ne (by omega)]
      exact he j (by omega)
theorem toBd_f (a b : Int) {l : List S168} (hn : l.length ≤ 1048576) {k : Nat} (hk : l.length < k) : laws_toBoard.f k a b l = some (a, b, l.map cvP) := by
  unfold laws_toBoard.f laws_toPieceS.f
  have e : laws_toPieceS.l0 k l (List.replicate l.length z85) 0 = some (l.map cvP) := toPs_l l hn l.length k 0 _ (by omega) hk (by simp) (fun j hj => absurd hj (by omega))
  rw [if_pos (by omega), if_pos (by rw [Int.toNat_natCast]; omega), Int.toNat_natCast, e]
  rfl
theorem szBd_f (a b : Int) {l : List S168} (hl : l.length ≤ 9223372036854775807) : ∃ r, laws_szBoard.f a b l 1048576 = some r ∧ (¬ r < 0 → l.length ≤ 1048576) := by
  unfold laws_szBoard.f laws_szPieceS.f
  rw [wr64 (by omega)]
  by_cases h : (1048576 : Int) - (l.length : Int) < 0
  · rw [if_pos h]
    exact ⟨-1, rfl, fun h => absurd h (by decide)⟩
  · rw [if_neg h, Option.bind_some, if_neg h]
    exact ⟨_, rfl, fun _ => by omega⟩
theorem eqPc_same (p : S85) : laws_eqPiece.f p.f0 p.f1 p.f2 p.f3 p.f4 p.f5 p.f0 p.f1 p.f2 p.f3 p.f4 p.f5 = some true := by
  unfold laws_eqPiece.f
  simp
theorem eqPs_l (x : List S85) (hn : x.length ≤ 1048576) (d : Nat) : ∀ (k i : Nat), i + d = x.length → d < k → laws_eqPieceS.l0 k x x (i : Int) = some true := by
  induction d with
  | zero =>
    intro k i hi hk
    obtain ⟨k, rfl⟩ : ∃ m, k = m + 1 := ⟨k - 1, by omega⟩
    simp only [laws_eqPieceS.l0]
    rw [if_neg (by omega)]
  | succ d ih =>
    intro k i hi hk
    obtain ⟨k, rfl⟩ : ∃ m, k = m + 1 := ⟨k - 1, by omega⟩
    simp only [laws_eqPieceS.l0, eqPc_same, if_true, Option.bind_some]
    rw [if_pos (by omega), if_pos (by omega), if_pos (by omega), wr_succ (n := x.length) (by omega) (by omega)]
    exact ih k (i + 1) (by omega) (by omega)
theorem eqBd_same (a b : Int) {l : List S85} (hn : l.length ≤ 1048576) {k : Nat} (hk : l.length < k) : laws_eqBoard.f k a b l a b l = some true := by
  unfold laws_eqBoard.f laws_eqPieceS.f
  rw [if_pos rfl, if_pos rfl, if_pos rfl]
  have e : laws_eqPieceS.l0 k l l 0 = some true := eqPs_l l hn l.length k 0 (by omega) hk
  rw [e]
  rfl
/-- A piece's marks from a number on. -/
def pcm (a : Int) : S85 := ⟨a, a + 1, a + 2, a + 3, (Int.tmod (a + 4) 3) == 0, (Int.tmod (a + 5) 3) == 0⟩
def pms (a : Int) (n : Nat) : List S85 := (List.range n).map fun (j : Nat) => pcm (a + 6 * (j : Int))
theorem pms_len (a : Int) (n : Nat) : (pms a n).length = n := by simp [pms]
theorem pms_at (a : Int) (n j : Nat) (h : j < n) : (pms a n)[j]? = some (pcm (a + 6 * (j : Int))) := by
  unfold pms
  rw [List.getElem?_map, List.getElem?_range h]
  rfl
theorem set1 {l : List S85} {i : Nat} (h : i < l.length) (v : S85) : (l.set i v)[i]? = some v := List.getElem?_set_self h
theorem markPs_l (n : Nat) (a : Int) (ha : 0 ≤ a ∧ a ≤ 1099511627776) (hn : n ≤ 1099511627776) (d : Nat) : ∀ (k i : Nat) (x0 : List S85), x0.length = n → i + d = n → d < k → (∀ j, j < i → x0[j]? = some (pcm (a + 6 * (j : Int)))) → laws_markPieceS.l0 k x0 (a + 6 * (i : Int)) (i : Int) = some (a + 6 * (n : Int), pms a n) := by
  induction d with
  | zero =>
    intro k i x0 hl hi hk he
    obtain ⟨k, rfl⟩ : ∃ m, k = m + 1 := ⟨k - 1, by omega⟩
    rw [laws_markPieceS.l0, if_neg (by omega)]
    congr 1
    rw [Prod.mk.injEq]
    refine ⟨by omega, ?_⟩
    apply List.ext_getElem?
    intro j
    by_cases hj : j < n
    · rw [he j (by omega), pms_at _ _ _ hj]
    · rw [List.getElem?_eq_none (by omega), List.getElem?_eq_none (by rw [pms_len]; omega)]
  | succ d ih =>
    intro k i x0 hl hi hk he
    obtain ⟨k, rfl⟩ : ∃ m, k = m + 1 := ⟨k - 1, by omega⟩
    rw [laws_markPieceS.l0, if_pos (by omega), if_pos (by omega)]
    have hi' : i < x0.length := by omega
    have w1 : wrap64 (a + 6 * (i : Int) + 1) = a + 6 * (i : Int) + 1 := wr64 (by omega)
    have w2 : wrap64 (a + 6 * (i : Int) + 1 + 1) = a + 6 * (i : Int) + 2 := by rw [wr64 (by omega)]; omega
    have w3 : wrap64 (a + 6 * (i : Int) + 2 + 1) = a + 6 * (i : Int) + 3 := by rw [wr64 (by omega)]; omega
    have w4 : wrap64 (a + 6 * (i : Int) + 3 + 1) = a + 6 * (i : Int) + 4 := by rw [wr64 (by omega)]; omega
    have w5 : wrap64 (a + 6 * (i : Int) + 4 + 1) = a + 6 * (i : Int) + 5 := by rw [wr64 (by omega)]; omega
    have w6 : wrap64 (a + 6 * (i : Int) + 5 + 1) = a + 6 * ((i + 1 : Nat) : Int) := by rw [wr64 (by omega)]; omega
    rw [w1, w2, w3, w4, w5, w6, show wrap64 ((i : Int) + 1) = ((i + 1 : Nat) : Int) from by rw [wr64 (by omega)]; omega, Int.toNat_natCast]
    simp only [Option.bind_some]
    generalize rd_T85 x0 (i : Int) = q
    have hrd : ∀ v, rd_T85 (x0.set i v) (i : Int) = v := fun v => rdP (set1 hi' v)
    simp only [List.set_set, hrd]
    refine ih k (i + 1) _ (by simp [hl]) (by omega) (by omega) ?_
    intro j hj
    by_cases e : j = i
    · subst e
      rw [List.getElem?_set_self hi']
      rfl
    · rw [List.getElem?_set_ne (by omega)]
      exact he j (by omega)
theorem markBd_f (a b : Int) {l : List S85} (hn : l.length ≤ 1048576) {k : Nat} (hk : l.length < k) : laws_markBoard.f k a b l 1 = some (1 + 6 * (l.length : Int), pms 1 l.length) := by
  unfold laws_markBoard.f laws_markPieceS.f
  have e := markPs_l l.length 1 (by omega) (by omega) l.length k 0 l rfl (by omega) hk (fun j hj => absurd hj (by omega))
  rw [show (1 : Int) + 6 * ((0 : Nat) : Int) = 1 from rfl, show ((0 : Nat) : Int) = 0 from rfl] at e
  rw [e]
  rfl
theorem heldPs_l (n : Nat) (a : Int) (ha : 0 ≤ a ∧ a ≤ 1099511627776) (hn : n ≤ 1099511627776) (d : Nat) : ∀ (k i : Nat), i + d = n → d < k → laws_heldPieceS.l0 k (pms a n) (a + 6 * (i : Int)) (i : Int) = some (a + 6 * (n : Int)) := by
  induction d with
  | zero =>
    intro k i hi hk
    obtain ⟨k, rfl⟩ : ∃ m, k = m + 1 := ⟨k - 1, by omega⟩
    rw [laws_heldPieceS.l0, if_neg (by rw [pms_len]; omega)]
    congr 2
    omega
  | succ d ih =>
    intro k i hi hk
    obtain ⟨k, rfl⟩ : ∃ m, k = m + 1 := ⟨k - 1, by omega⟩
    rw [laws_heldPieceS.l0, if_pos (by rw [pms_len]; omega), if_pos (by omega), rdP (pms_at a n i (by omega))]
    have w1 : wrap64 (a + 6 * (i : Int) + 1) = a + 6 * (i : Int) + 1 := wr64 (by omega)
    have w2 : wrap64 (a + 6 * (i : Int) + 1 + 1) = a + 6 * (i : Int) + 2 := by rw [wr64 (by omega)]; omega
    have w3 : wrap64 (a + 6 * (i : Int) + 2 + 1) = a + 6 * (i : Int) + 3 := by rw [wr64 (by omega)]; omega
    have w4 : wrap64 (a + 6 * (i : Int) + 3 + 1) = a + 6 * (i : Int) + 4 := by rw [wr64 (by omega)]; omega
    have w5 : wrap64 (a + 6 * (i : Int) + 4 + 1) = a + 6 * (i : Int) + 5 := by rw [wr64 (by omega)]; omega
    have w6 : wrap64 (a + 6 * (i : Int) + 5 + 1) = a + 6 * ((i + 1 : Nat) : Int) := by rw [wr64 (by omega)]; omega
    rw [w1, w2, w3, w4, w5, w6, show wrap64 ((i : Int) + 1) = ((i + 1 : Nat) : Int) from by rw [wr64 (by omega)]; omega]
    have e4 : ((pcm (a + 6 * (i : Int))).f4 != (Int.tmod (a + 6 * (i : Int) + 4) 3 == 0)) = false := by simp [pcm]
    have e5 : ((pcm (a + 6 * (i : Int))).f5 != (Int.tmod (a + 6 * (i : Int) + 5) 3 == 0)) = false := by simp [pcm]
    rw [if_pos (show (pcm (a + 6 * (i : Int))).f0 = a + 6 * (i : Int) from rfl), if_pos (show (pcm (a + 6 * (i : Int))).f1 = a + 6 * (i : Int) + 1 from rfl), if_pos (show (pcm (a + 6 * (i : Int))).f2 = a + 6 * (i : Int) + 2 from rfl), if_pos (show (pcm (a + 6 * (i : Int))).f3 = a + 6 * (i : Int) + 3 from rfl), e4, e5, if_neg (by simp), if_neg (by simp)]
    exact ih k (i + 1) (by omega) (by omega)
theorem heldBd_f (a b : Int) {n : Nat} (hn : n ≤ 1048576) {k : Nat} (hk : n < k) : laws_heldBoard.f k a b (pms 1 n) 1 = some (1 + 6 * (n : Int)) := by
  unfold laws_heldBoard.f laws_heldPieceS.f
  have e := heldPs_l n 1 (by omega) (by omega) n k 0 (by omega) hk
  rw [show (1 : Int) + 6 * ((0 : Nat) : Int) = 1 from rfl, show ((0 : Nat) : Int) = 0 from rfl] at e
  rw [e, Option.bind_some, if_neg (by omega)]
/-- Pieces that go on from a number to another. -/
def okl (b : Int) : Int → List S85 → Bool
  | a, [] => a == b
  | a, p :: r => if p.f0 = a ∧ ¬ p.f1 ≤ p.f0 ∧ (0 ≤ p.f2 ∧ p.f2 ≤ 1000000000) ∧ (1 ≤ p.f3 ∧ p.f3 ≤ 1000000) ∧ ¬ (p.f4 = true ∧ p.f5 = true) then okl b p.f1 r else false
theorem okl_cons (b a : Int) (p : S85) (r : List S85) : okl b a (p :: r) = if p.f0 = a ∧ ¬ p.f1 ≤ p.f0 ∧ (0 ≤ p.f2 ∧ p.f2 ≤ 1000000000) ∧ (1 ≤ p.f3 ∧ p.f3 ≤ 1000000) ∧ ¬ (p.f4 = true ∧ p.f5 = true) then okl b p.f1 r else false := rfl
theorem sokl_l (l : List S85) (hn : l.length ≤ 1048576) (u b : Int) (d : Nat) : ∀ (k i : Nat) (a : Int), i + d = l.length → d < k → spec_l15OK.l0 k a (i : Int) u b l = some (okl b a (l.drop i)) := by
  induction d with
  | zero =>
    intro k i a hi hk
    obtain ⟨k, rfl⟩ : ∃ m, k = m + 1 := ⟨k - 1, by omega⟩
    rw [spec_l15OK.l0, if_neg (by omega), List.drop_eq_nil_of_le (by omega)]
    rfl
  | succ d ih =>
    intro k i a hi hk
    obtain ⟨k, rfl⟩ : ∃ m, k = m + 1 := ⟨k - 1, by omega⟩
    have hlt : i < l.length := by omega
    rw [spec_l15OK.l0, if_pos (by omega), if_pos (by omega), rdP (List.getElem?_eq_getElem hlt), List.drop_eq_getElem_cons hlt, okl_cons]
    have go := ih k (i + 1) l[i].f1 (by omega) (by omega)
    rw [show wrap64 ((i : Int) + 1) = ((i + 1 : Nat) : Int) from wr_succ hlt (by omega), in_f, in_f]
    generalize l[i] = p at go ⊢
    simp only [Option.bind_some, decide_eq_true_eq]
    by_cases c1 : p.f0 = a
    · by_cases c2 : p.f1 ≤ p.f0
      · rw [if_pos c1, if_pos c2, if_neg (fun h => h.2.1 c2)]
      · by_cases c3 : 0 ≤ p.f2 ∧ p.f2 ≤ 1000000000
        · by_cases c4 : 1 ≤ p.f3 ∧ p.f3 ≤ 1000000
          · rw [if_pos c1, if_neg c2, if_pos c3, if_pos c4]
            by_cases c5 : p.f4 = true
            · by_cases c6 : p.f5 = true
              · rw [if_pos c5, if_pos c6, if_neg (fun h => h.2.2.2.2 ⟨c5, c6⟩)]
              · rw [if_pos c5, if_neg c6, if_pos ⟨c1, c2, c3, c4, fun h => c6 h.2⟩]
                exact go
            · rw [if_neg c5, if_pos ⟨c1, c2, c3, c4, fun h => c5 h.1⟩]
              exact go
          · rw [if_pos c1, if_neg c2, if_pos c3, if_neg c4, if_neg (fun h => c4 h.2.2.2.1)]
        · rw [if_pos c1, if_neg c2, if_neg c3, if_neg (fun h => c3 h.2.2.1)]
    · rw [if_neg c1, if_neg (fun h => c1 h.1)]
theorem iokl_l (l : List S85) (hn : l.length ≤ 1048576) (u b : Int) (d : Nat) : ∀ (k i : Nat) (a : Int), i + d = l.length → d < k → impl_okBoard.l0 k a l (l.length : Int) (i : Int) u b l = some (okl b a (l.drop i)) := by
  induction d with
  | zero =>
    intro k i a hi hk
    obtain ⟨k, rfl⟩ : ∃ m, k = m + 1 := ⟨k - 1, by omega⟩
    rw [impl_okBoard.l0, if_neg (by omega), List.drop_eq_nil_of_le (by omega)]
    rfl
  | succ d ih =>
    intro k i a hi hk
    obtain ⟨k, rfl⟩ : ∃ m, k = m + 1 := ⟨k - 1, by omega⟩
    have hlt : i < l.length := by omega
    rw [impl_okBoard.l0, if_pos (by omega), if_pos (by omega), if_pos (by omega), rdP (List.getElem?_eq_getElem hlt), List.drop_eq_getElem_cons hlt, okl_cons]
    have go := ih k (i + 1) l[i].f1 (by omega) (by omega)
    rw [show wrap64 ((i : Int) + 1) = ((i + 1 : Nat) : Int) from wr_succ hlt (by omega)]
    generalize l[i] = p at go ⊢
    by_cases c1 : p.f0 = a
    · by_cases c2 : p.f1 ≤ p.f0
      · rw [if_pos c1, if_pos c2, if_neg (fun h => h.2.1 c2)]
      · by_cases c3 : p.f2 < 0
        · rw [if_pos c1, if_neg c2, if_pos c3, if_neg (fun h => by have := h.2.2.1; omega)]
        · by_cases c3' : p.f2 > 1000000000
          · rw [if_pos c1, if_neg c2, if_neg c3, if_pos c3', if_neg (fun h => by have := h.2.2.1; omega)]
          · by_cases c4 : p.f3 < 1
            · rw [if_pos c1, if_neg c2, if_neg c3, if_neg c3', if_pos c4, if_neg (fun h => by have := h.2.2.2.1; omega)]
            · by_cases c4' : p.f3 > 1000000
              · rw [if_pos c1, if_neg c2, if_neg c3, if_neg c3', if_neg c4, if_pos c4', if_neg (fun h => by have := h.2.2.2.1; omega)]
              · rw [if_pos c1, if_neg c2, if_neg c3, if_neg c3', if_neg c4, if_neg c4']
                by_cases c5 : p.f4 = true
                · by_cases c6 : p.f5 = true
                  · rw [if_pos c5, if_pos c6, if_neg (fun h => h.2.2.2.2 ⟨c5, c6⟩)]
                  · rw [if_pos c5, if_neg c6, if_pos ⟨c1, c2, by omega, by omega, fun h => c6 h.2⟩]
                    exact go
                · rw [if_neg c5, if_pos ⟨c1, c2, by omega, by omega, fun h => c5 h.1⟩]
                  exact go
    · rw [if_neg c1, if_neg (fun h => c1 h.1)]
def okb (a b : Int) (l : List S85) : Bool := if a < 0 then false else if a > b then false else if b > 1099511627776 then false else if (l.length : Int) > 4096 then false else okl b a l
theorem okb_len {a b : Int} {l : List S85} (h : okb a b l = true) : l.length ≤ 4096 := by
  unfold okb at h
  by_cases c : (l.length : Int) > 4096
  · simp [c] at h
  · omega
theorem sokb_f (a b : Int) {l : List S85} (hn : l.length ≤ 1048576) {k : Nat} (hk : l.length + 2 ≤ k) : spec_l15OK.f k a b l = some (okb a b l) := by
  obtain ⟨k, rfl⟩ : ∃ m, k = m + 1 := ⟨k - 1, by omega⟩
  have bad : spec_l15OK.j0 (k + 1) true a b l = some false := by rw [spec_l15OK.j0, if_pos rfl]
  have e : spec_l15OK.l0 k a 0 a b l = some (okl b a l) := sokl_l l hn a b l.length k 0 a (by omega) (by omega)
  unfold spec_l15OK.f okb
  rw [bad]
  by_cases c1 : a < 0
  · rw [if_pos c1, if_pos c1]
  · rw [if_neg c1, if_neg c1]
    by_cases c2 : a > b
    · rw [if_pos c2, if_pos c2]
    · rw [if_neg c2, if_neg c2]
      by_cases c3 : b > 1099511627776
      · rw [if_pos c3, if_pos c3]
      · rw [if_neg c3, if_neg c3]
        by_cases c4 : (l.length : Int) > 4096
        · rw [decide_eq_true c4, if_pos c4, bad]
        · rw [decide_eq_false c4, if_neg c4, spec_l15OK.j0, if_neg (by simp), e]
theorem iokb_f (a b : Int) {l : List S85} (hn : l.length ≤ 1048576) {k : Nat} (hk : l.length + 2 ≤ k) : impl_okBoard.f k a b l = some (okb a b l) := by
  obtain ⟨k, rfl⟩ : ∃ m, k = m + 1 := ⟨k - 1, by omega⟩
  have bad : impl_okBoard.j0 (k + 1) true a b l = some false := by rw [impl_okBoard.j0, if_pos rfl]
  have e : impl_okBoard.l0 k a l (l.length : Int) 0 a b l = some (okl b a l) := iokl_l l hn a b l.length k 0 a (by omega) (by omega)
  unfold impl_okBoard.f okb
  rw [bad]
  by_cases c1 : a < 0
  · rw [if_pos c1, if_pos c1]
  · rw [if_neg c1, if_neg c1]
    by_cases c2 : a > b
    · rw [if_pos c2, if_pos c2]
    · rw [if_neg c2, if_neg c2]
      by_cases c3 : b > 1099511627776
      · rw [if_pos c3, if_pos c3]
      · rw [if_neg c3, if_neg c3]
        by_cases c4 : (l.length : Int) > 4096
        · rw [decide_eq_true c4, if_pos c4, bad]
        · rw [decide_eq_false c4, if_neg c4, impl_okBoard.j0, if_neg (by simp), e]
theorem copyB_f (a b : Int) {l : List S85} (hn : l.length ≤ 1048576) : spec_l15Copy.f a b l = some (a, b, l) := by
  unfold spec_l15Copy.f
  rw [Option.bind_some, if_pos (by simp; omega)]
  rfl
theorem ownB_f (a b : Int) {l : List S85} (hn : l.length ≤ 1048576) : impl_ownBoard.f a b l = some (a, b, l) := by
  unfold impl_ownBoard.f impl_Piece.f
  rw [Option.bind_some, if_pos (by simp; omega)]
  rfl

/-! ### cmin -/
theorem min_f (a b : Int) : spec_l14Min.f a b = some (mn a b) := by
  unfold spec_l14Min.f mn
  repeat' split
  all_goals first | rfl | (congr 1; omega)

/-! ### the law -/
/-- The first lost piece from a place on. -/
def fi : Nat → List S85 → Option Nat
  | _, [] => none
  | i, p :: r => if p.f5 = true then some i else fi (i + 1) r
theorem fi_cons (i : Nat) (p : S85) (r : List S85) : fi i (p :: r) = if p.f5 = true then some i else fi (i + 1) r := rfl
theorem fi_bd (r : List S85) : ∀ (i j : Nat), fi i r = some j → i ≤ j ∧ j < i + r.length := by
  induction r with
  | nil =>
    intro i j h
    cases h
  | cons p r ih =>
    intro i j h
    rw [fi_cons] at h
    rw [List.length_cons]
    by_cases c : p.f5 = true
    · rw [if_pos c] at h
      obtain rfl := Option.some.inj h
      omega
    · rw [if_neg c] at h
      have := ih _ _ h
      omega
def tm (p : S85) : Int := mn (wrap64 (p.f3 + 1)) 1000000
def ag (p : S85) (x : Int) : S85 := ⟨p.f0, p.f1, x, tm p, p.f4, false⟩
abbrev Res := Int × Int × List S85 × Int × Int × Int × Int × Bool × Bool × Int
def bad (n : Int) : Res := (0, 0, [], 0, 0, 0, 0, false, false, n)
def hit (a b : Int) (l : List S85) (x : Int) (p : S85) (j : Nat) : Res := (a, b, l.set j (ag p x), p.f0, p.f1, x, tm p, p.f4, false, 0)
def an (a b : Int) (l : List S85) (x : Int) : Option Nat → Res
  | none => bad 13
  | some j => hit a b l x (rd_T85 l (j : Int)) j
theorem sag_l (l : List S85) (hn : l.length ≤ 1048576) (a b x : Int) (d : Nat) : ∀ (k i : Nat), i + d = l.length → d < k → spec_BoardAgain.l0 k x (i : Int) a b l = some (an a b l x (fi i (l.drop i))) := by
  induction d with
  | zero =>
    intro k i hi hk
    obtain ⟨k, rfl⟩ : ∃ m, k = m + 1 := ⟨k - 1, by omega⟩
    rw [spec_BoardAgain.l0, if_neg (by omega), List.drop_eq_nil_of_le (by omega)]
    rfl
  | succ d ih =>
    intro k i hi hk
    obtain ⟨k, rfl⟩ : ∃ m, k = m + 1 := ⟨k - 1, by omega⟩
    have hlt : i < l.length := by omega
    have hrd : rd_T85 l (i : Int) = l[i] := rdP (List.getElem?_eq_getElem hlt)
    rw [spec_BoardAgain.l0, if_pos (by omega), if_pos (by omega), hrd, List.drop_eq_getElem_cons hlt, fi_cons, min_f, Option.bind_some, show wrap64 ((i : Int) + 1) = ((i + 1 : Nat) : Int) from wr_succ hlt (by omega), Int.toNat_natCast]
    by_cases c : l[i].f5 = true
    · rw [if_pos c, if_pos c]
      show _ = some (hit a b l x (rd_T85 l (i : Int)) i)
      rw [hrd]
      rfl
    · rw [if_neg c, if_neg c]
      exact ih k (i + 1) (by omega) (by omega)
def ix : Option Nat → Int
  | none => -1
  | some j => (j : Int)
theorem ilost_l (l : List S85) (hn : l.length ≤ 1048576) (a b : Int) (d : Nat) : ∀ (k i : Nat), i + d = l.length → d < k → impl_board_lost.l0 k (l.length : Int) (i : Int) a b l = some (ix (fi i (l.drop i)), l) := by
  induction d with
  | zero =>
    intro k i hi hk
    obtain ⟨k, rfl⟩ : ∃ m, k = m + 1 := ⟨k - 1, by omega⟩
    rw [impl_board_lost.l0, if_neg (by omega), List.drop_eq_nil_of_le (by omega)]
    rfl
  | succ d ih =>
    intro k i hi hk
    obtain ⟨k, rfl⟩ : ∃ m, k = m + 1 := ⟨k - 1, by omega⟩
    have hlt : i < l.length := by omega
    have hrd : rd_T85 l (i : Int) = l[i] := rdP (List.getElem?_eq_getElem hlt)
    rw [impl_board_lost.l0, if_pos (by omega), if_pos (by omega), if_pos (by omega), hrd, List.drop_eq_getElem_cons hlt, fi_cons, show wrap64 ((i : Int) + 1) = ((i + 1 : Nat) : Int) from wr_succ hlt (by omega)]
    by_cases c : l[i].f5 = true
    · rw [if_pos c, if_pos c]
      rfl
    · rw [if_neg c, if_neg c]
      exact ih k (i + 1) (by omega) (by omega)
def ia (l : List S85) (x : Int) : Option Nat → Int × Int × Int × Int × Bool × Bool × Bool × List S85
  | none => (0, 0, 0, 0, false, false, false, l)
  | some j => ((rd_T85 l (j : Int)).f0, (rd_T85 l (j : Int)).f1, x, tm (rd_T85 l (j : Int)), (rd_T85 l (j : Int)).f4, false, true, l.set j (ag (rd_T85 l (j : Int)) x))
theorem iag_f (a b x : Int) {l : List S85} (hn : l.length ≤ 1048576) {k : Nat} (hk : l.length < k) : impl_board_again.f k a b l x = some (ia l x (fi 0 l)) := by
  unfold impl_board_again.f impl_board_lost.f
  have e : impl_board_lost.l0 k (l.length : Int) 0 a b l = some (ix (fi 0 l), l) := ilost_l l hn a b l.length k 0 (by omega) hk
  rw [e, Option.bind_some]
  show (if ix (fi 0 l) < 0 then _ else _) = _
  cases h : fi 0 l with
  | none => rfl
  | some j =>
    have hj := fi_bd l 0 j h
    have hj2 : j < l.length := by omega
    show (if (j : Int) < 0 then _ else if 0 ≤ (j : Int) then if (j : Int) < (l.length : Int) then _ else _ else _) = _
    rw [if_neg (by omega), if_pos (by omega), if_pos (by omega)]
    have hrd : ∀ (m : List S85) (v : S85), j < m.length → rd_T85 (m.set j v) (j : Int) = v := fun m v hm => rdP (List.getElem?_set_self hm)
    show some ((rd_T85 (((l.set j _).set j _).set j _) (j : Int)).f0, _, _, _, _, _, true, ((l.set j _).set j _).set j _) = _
    have l1 : ∀ v, j < (l.set j v).length := fun v => by rw [List.length_set]; exact hj2
    have l2 : ∀ v w, j < ((l.set j v).set j w).length := fun v w => by rw [List.length_set]; exact l1 v
    simp only [show ix (some j) = (j : Int) from rfl, Int.toNat_natCast, hrd _ _ hj2, hrd _ _ (l1 _), hrd _ _ (l2 _ _), List.set_set]
    rfl
def la (a b : Int) (l : List S85) (x : Int) : Res := if okb a b l = true then (if 0 ≤ x ∧ x ≤ 1000000000 then an a b l x (fi 0 l) else bad 1) else bad 1
theorem sag_f (a b x : Int) {l : List S85} (hn : l.length ≤ 1048576) {k : Nat} (hk : 2 * l.length + 8 ≤ k) : spec_BoardAgain.f k a b l x = some (la a b l x) := by
  obtain ⟨k, rfl⟩ : ∃ m, k = m + 1 := ⟨k - 1, by omega⟩
  unfold spec_BoardAgain.f la
  rw [sokb_f a b hn (by omega), Option.bind_some]
  by_cases c : okb a b l = true
  · rw [if_pos c, if_pos c, in_f, Option.bind_some]
    by_cases cx : 0 ≤ x ∧ x ≤ 1000000000
    · rw [if_pos cx, decide_eq_true cx, spec_BoardAgain.j0, if_neg (by simp), copyB_f a b hn, Option.bind_some]
      exact sag_l l hn a b x l.length k 0 (by omega) (by omega)
    · rw [if_neg cx, decide_eq_false cx, spec_BoardAgain.j0, if_pos (by simp)]
      rfl
  · rw [if_neg c, if_neg c, spec_BoardAgain.j0, if_pos rfl]
    rfl
theorem iagB_f (a b x : Int) {l : List S85} (hn : l.length ≤ 1048576) {k : Nat} (hk : 2 * l.length + 8 ≤ k) : impl_BoardAgain.f k a b l x = some (la a b l x) := by
  obtain ⟨k, rfl⟩ : ∃ m, k = m + 1 := ⟨k - 1, by omega⟩
  have badj : impl_BoardAgain.j0 (k + 1) x true a b l = some (bad 1) := by rw [impl_BoardAgain.j0, if_pos rfl]; rfl
  unfold impl_BoardAgain.f la
  rw [iokb_f a b hn (by omega), Option.bind_some, badj]
  by_cases c : okb a b l = true
  · rw [if_pos c, if_pos c]
    by_cases c1 : x < 0
    · rw [if_pos c1, if_neg (by omega)]
    · rw [if_neg c1]
      by_cases c2 : x > 1000000000
      · rw [decide_eq_true c2, badj, if_neg (by omega)]
      · rw [decide_eq_false c2, if_pos (by omega), impl_BoardAgain.j0, if_neg (by simp), ownB_f a b hn, Option.bind_some]
        show (impl_board_again.f k a b l x).bind _ = _
        rw [iag_f a b x hn (by omega)]
        cases fi 0 l with
        | none => rfl
        | some j => rfl
  · rw [if_neg c, if_neg c]
theorem la_len (a b x : Int) (l : List S85) : (la a b l x).2.2.1.length ≤ l.length := by
  unfold la
  split
  · split
    · cases fi 0 l with
      | none => exact Nat.zero_le _
      | some j => exact Nat.le_of_eq (List.length_set ..)
    · exact Nat.zero_le _
  · exact Nat.zero_le _
theorem FnExactBoardAgain (a b : Int) (l : List S168) (x : Int) (w0 : (Lit.int .i64 a).wf = true) (w1 : (Lit.int .i64 b).wf = true) (hl : l.length ≤ maxLen) (hw : ∀ x ∈ l, ((Lit.int .i64 x.f0).wf = true ∧ (Lit.int .i64 x.f1).wf = true ∧ (Lit.int .i64 x.f2).wf = true ∧ (Lit.int .i64 x.f3).wf = true)) (w2 : (Lit.int .i64 x).wf = true) : ∃ k, laws_FnExactBoardAgain.f k a b l x = some true := by
  have hl2 : l.length ≤ 9223372036854775807 := by unfold maxLen at hl; exact hl
  obtain ⟨r, hr, hc⟩ := szBd_f a b hl2
  by_cases hneg : r < 0
  · refine ⟨0, ?_⟩
    unfold laws_FnExactBoardAgain.f
    rw [hr, Option.bind_some, if_pos hneg]
  · have hn := hc hneg
    have hm : (l.map cvP).length ≤ 1048576 := by rw [List.length_map]; exact hn
    have hs := fun k (hk : 2 * l.length + 8 ≤ k) => sag_f a b x hm (k := k) (by rw [List.length_map]; exact hk)
    have hi := fun k (hk : 2 * l.length + 8 ≤ k) => iagB_f a b x hm (k := k) (by rw [List.length_map]; exact hk)
    have hL := la_len a b x (l.map cvP)
    rw [List.length_map] at hL
    obtain ⟨R, hR⟩ : ∃ R, R = la a b (l.map cvP) x := ⟨_, rfl⟩
    rw [← hR] at hs hi hL
    clear hR
    obtain ⟨ra, rb, rl, q0, q1, q2, q3, q4, q5, rc⟩ := R
    have hL : rl.length ≤ l.length := hL
    have hml : (l.map cvP).length = l.length := List.length_map ..
    have hq : laws_eqPiece.f q0 q1 q2 q3 q4 q5 q0 q1 q2 q3 q4 q5 = some true := eqPc_same ⟨q0, q1, q2, q3, q4, q5⟩
    obtain ⟨k, hk⟩ : ∃ k, k = 2 * l.length + 100 := ⟨_, rfl⟩
    refine ⟨k + 1 + 1 + 1, ?_⟩
    unfold laws_FnExactBoardAgain.f
    rw [hr, Option.bind_some, if_neg hneg, toBd_f a b hn (by omega)]
    simp only [Option.bind_some]
    rw [hs _ (by omega), hi _ (by omega)]
    simp only [Option.bind_some]
    rw [eqBd_same _ _ (by omega) (by omega)]
    simp only [Option.bind_some, hq, if_true, bne_self_eq_false]
    rw [laws_FnExactBoardAgain.j0, if_neg (by simp), toBd_f a b hn (by omega)]
    simp only [Option.bind_some]
    rw [eqBd_same _ _ hm (by omega)]
    simp only [Option.bind_some, if_true]
    rw [markBd_f _ _ hm (by omega)]
    simp only [Option.bind_some]
    rw [if_neg (show ¬ (1 : Int) + 6 * ((l.map cvP).length : Int) < 0 by omega), eqBd_same _ _ (by omega) (by omega)]
    simp only [Option.bind_some, hq, if_true, bne_self_eq_false]
    rw [laws_FnExactBoardAgain.j1, if_neg (by simp), markBd_f _ _ (by omega) (by omega)]
    simp only [Option.bind_some]
    rw [heldBd_f _ _ (by omega) (by omega)]
    simp only [Option.bind_some]
    rw [if_neg (show ¬ (1 : Int) + 6 * (rl.length : Int) < 0 by omega), if_pos (by trivial), toBd_f a b hn (by omega)]
    simp only [Option.bind_some]
    rw [hi _ (by omega)]
    simp only [Option.bind_some]
    rw [eqBd_same _ _ (by omega) (by omega)]
    simp only [Option.bind_some, hq, if_true, bne_self_eq_false]
    rw [laws_FnExactBoardAgain.j2, if_neg (by simp), heldBd_f _ _ (by omega) (by omega)]
    simp only [Option.bind_some]
    rw [if_neg (show ¬ (1 : Int) + 6 * (rl.length : Int) < 0 by omega), if_pos (by trivial)]

end Go.Proofs.Ytkfbcmbemihbnaa.Pure
