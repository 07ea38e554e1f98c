/- Two flows on one road draw nearer: their windows never move apart, a loss halves how far they are apart (rounded up), and a row tells a loss just where the two windows were more than there is room for; without conditions. -/
import Derived.Test.YtkfbcmbemihbnaaPFnFairx4
set_option linter.unusedVariables false
set_option linter.unusedSimpArgs false
namespace Go.Proofs.Ytkfbcmbemihbnaa.Pure
open Go.RowKit Go.Proofs.Ytkfbcmbemihbnaa.PFnFair Go.Proofs.YtkfbcmbemihbnaaW.PrintWords Go.Proofs.YtkfbcmbemihbnaaW.PrintLast

/-! ### base -/
theorem wf64 {a : Int} (h : (Lit.int .i64 a).wf = true) : -9223372036854775808 ≤ a ∧ a ≤ 9223372036854775807 := by
  have h1 : IntKind.i64.min = -9223372036854775808 := by decide
  have h2 : IntKind.i64.max = 9223372036854775807 := by decide
  simp only [Lit.wf, Bool.and_eq_true, decide_eq_true_eq] at h
  omega
theorem tm_pos {a : Int} (n : Int) (h : 0 ≤ a) : Int.tmod a n = a % n := Int.tmod_eq_emod_of_nonneg h
theorem tm_neg {a : Int} (n : Int) (h : a ≤ 0) : Int.tmod a n = -((-a) % n) := by
  have := Int.neg_tmod (-a) n
  rw [Int.neg_neg] at this
  rw [this, Int.tmod_eq_emod_of_nonneg (by omega)]
theorem td_pos {a : Int} (n : Int) (h : 0 ≤ a) : Int.tdiv a n = a / n := Int.tdiv_eq_ediv_of_nonneg h
theorem wr64 {a : Int} (h : -9223372036854775808 ≤ a ∧ a ≤ 9223372036854775807) : wrap64 a = a := by
  unfold wrap64
  omega
theorem dec_eq {p : Prop} [Decidable p] {b : Bool} (h : b = true ↔ p) : some b = some (decide p) := by
  rw [Option.some.injEq, Bool.eq_iff_iff, decide_eq_true_eq]
  exact h
theorem ite_dec (p q : Prop) [Decidable p] [Decidable q] : (if p then some (decide q) else some false) = some (decide (p ∧ q)) := by
  by_cases h : p <;> simp [h]
theorem beq_dec (a b : Int) : (a == b) = decide (a = b) := by
  rw [Bool.eq_iff_iff]
  simp

/-! ### congimpl -/
def okC (m c s n : Int) : Prop := (1 ≤ m ∧ m ≤ 65535) ∧ (m ≤ c ∧ c ≤ 1073741824) ∧ (2 * m ≤ s ∧ s ≤ 1073741824) ∧ (0 ≤ n ∧ n < c)
instance (m c s n : Int) : Decidable (okC m c s n) := by unfold okC; exact inferInstance
theorem okC_impl (m c s n : Int) : impl_okCong.f m c s n = some (decide (okC m c s n)) := by
  unfold impl_okCong.f
  by_cases h1 : 1 ≤ m ∧ m ≤ 65535
  · rw [wr64 (a := 2 * m) (by omega)]
    repeat' split
    all_goals (apply dec_eq; unfold okC; first | (simp only [Bool.false_eq_true, false_iff]; omega) | (rw [decide_eq_true_eq]; omega))
  · by_cases h2 : m ≥ 1
    · rw [if_pos h2, if_neg (by omega)]
      apply dec_eq
      unfold okC
      simp only [Bool.false_eq_true, false_iff]
      omega
    · rw [if_neg h2]
      apply dec_eq
      unfold okC
      simp only [Bool.false_eq_true, false_iff]
      omega

/-! ### lists -/
theorem rd_at {xs : List Int} {i : Nat} (h : i < xs.length) : rd xs (i : Int) = xs[i] := by
  unfold rd
  rw [Int.toNat_natCast, List.getD_eq_getElem?_getD, List.getElem?_eq_getElem h]
  rfl
theorem wr_succ {i n : Nat} (h : i < n) (hn : n ≤ 281474976710656) : wrap64 ((i : Int) + 1) = ((i + 1 : Nat) : Int) := by
  rw [wr64 (by omega)]
  omega
theorem maxLen_le {n : Nat} (h : n ≤ 1048576) : n ≤ 281474976710656 := by omega

/-! ### drawbase -/
theorem u64_nn (y : Int) : 0 ≤ IntKind.u64.wrap y := by simp [IntKind.wrap, IntKind.bits, IntKind.signed]; omega
theorem u64_id {y : Int} (h : 0 ≤ y ∧ y ≤ 9223372036854775807) : IntKind.u64.wrap y = y := by simp [IntKind.wrap, IntKind.bits, IntKind.signed]; omega
theorem xor_nn (a b : Int) : 0 ≤ Go.bits .xor .u64 a b := by
  show 0 ≤ IntKind.u64.wrap _
  exact u64_nn _
theorem mod_in {x n : Int} (hx : 0 ≤ x) (hn : 0 < n) (h2 : n ≤ 4611686018427387904) : 0 ≤ wrap64 (Int.tmod x n) ∧ wrap64 (Int.tmod x n) < n := by
  have e : Int.tmod x n = x % n := tm_pos n hx
  have h0 := Int.emod_nonneg x (show n ≠ 0 by omega)
  have h1 := Int.emod_lt_of_pos x hn
  rw [e, wr64 (by omega)]
  exact ⟨h0, h1⟩

/-! ### lwdraw -/
theorem lwb_l (l : List Int) (hn : l.length ≤ 1048576) (m : List Int) (p : Int) (d : Nat) : ∀ (k i : Nat) (st : Int), i + d = l.length → d < k → ∃ st', laws_lwBegin.l0 k l (i : Int) m p st = some (p, st') := by
  induction d with
  | zero =>
    intro k i st hi hk
    obtain ⟨k, rfl⟩ : ∃ m, k = m + 1 := ⟨k - 1, by omega⟩
    simp only [laws_lwBegin.l0]
    rw [if_neg (by omega)]
    exact ⟨st, rfl⟩
  | succ d ih =>
    intro k i st hi hk
    obtain ⟨k, rfl⟩ : ∃ m, k = m + 1 := ⟨k - 1, by omega⟩
    simp only [laws_lwBegin.l0]
    rw [if_pos (by omega), if_pos (by omega), wr_succ (n := l.length) (by omega) (by omega)]
    exact ih k (i + 1) _ (by omega) (by omega)
theorem lwb_f {l : List Int} (hn : l.length ≤ 1048576) (a : Int) {k : Nat} (hk : l.length < k) : ∃ st, laws_lwBegin.f k l a = some (0, st) := by
  unfold laws_lwBegin.f
  exact lwb_l l hn l 0 l.length k 0 _ (by omega) hk
theorem lwn_f {l : List Int} (hl : l.length ≤ 1048576) {p : Int} (st : Int) {n : Int} (hp : 0 ≤ p) (hn : 0 < n) (h2 : n ≤ 4611686018427387904) : ∃ r p' st', laws_lwNext.f l p st n = some (r, p', st') ∧ 0 ≤ r ∧ r < n ∧ 0 ≤ p' := by
  unfold laws_lwNext.f
  rw [if_neg (show ¬ n ≤ 0 by omega), u64_id (y := n) (by omega)]
  by_cases h : p < (l.length : Int)
  · rw [if_pos h, if_pos hp, if_neg (show ¬ n = 0 by omega)]
    have := mod_in (xor_nn (IntKind.u64.wrap (IntKind.u64.wrap (st * 6364136223846793005) + 1442695040888963407) / 8589934592) (IntKind.u64.wrap (rd l p))) hn h2
    exact ⟨_, _, _, rfl, this.1, this.2, by rw [wr64 (by omega)]; omega⟩
  · rw [if_neg h, if_neg (show ¬ n = 0 by omega)]
    have hq : 0 ≤ IntKind.u64.wrap (IntKind.u64.wrap (st * 6364136223846793005) + 1442695040888963407) / 8589934592 := by
      have := u64_nn (IntKind.u64.wrap (st * 6364136223846793005) + 1442695040888963407)
      omega
    have := mod_in hq hn h2
    exact ⟨_, _, _, rfl, this.1, this.2, hp⟩

/-! ### the law -/
def half (m x : Int) : Int := mx (x / 2) (2 * m)
theorem lossI {m c s n : Int} (h : okC m c s n) : impl_CongLoss.f m c s n c = some (m, half m c, half m c, 0, 0) := by
  have h' := h
  unfold okC at h'
  unfold impl_CongLoss.f half
  rw [okC_impl, decide_eq_true h, Option.bind_some, if_pos rfl, if_neg (by omega), if_neg (by omega), td_pos _ (by omega), wr64 (a := c / 2) (by omega), wr64 (a := 2 * m) (by omega)]
theorem ackI {m c s : Int} (h : okC m c s 0) (hs : s ≤ c) (k : Nat) : impl_CongAck.f (k + 1) m c s 0 c = some (m, mn (c + m) 1073741824, s, 0, 0) := by
  have h' := h
  unfold okC at h'
  unfold impl_CongAck.f
  rw [okC_impl, decide_eq_true h, Option.bind_some, if_pos rfl, if_neg (by omega), impl_CongAck.j0, if_neg (by simp; omega), if_neg (by omega), wr64 (a := 0 + c) (by omega), if_pos (by omega), wr64 (a := c + m) (by omega)]
def inv (m a s : Int) : Prop := (1 ≤ m ∧ m ≤ 65535) ∧ 2 * m ≤ s ∧ s ≤ a ∧ a ≤ 1073741824
theorem inv.ok {m a s : Int} (h : inv m a s) : okC m a s 0 := by
  unfold inv at h
  unfold okC
  omega
def nx (m : Int) (q : Bool) (x : Int) : Int := if q = true then half m x else mn (x + m) 1073741824
def ns (m : Int) (q : Bool) (x s : Int) : Int := if q = true then half m x else s
theorem inv.step {m a s : Int} (h : inv m a s) (q : Bool) : inv m (nx m q a) (ns m q a s) := by
  unfold inv at h
  unfold nx ns half
  cases q with
  | true =>
    simp only [if_true]
    unfold inv mx
    split <;> omega
  | false =>
    simp only [Bool.false_eq_true, if_false]
    unfold inv mn
    split <;> omega
def fl (m a s : Int) : S112 := ⟨m, a, s, 0⟩
theorem loss_fl {m a s : Int} (h : inv m a s) : impl_CongLoss.f (fl m a s).f0 (fl m a s).f1 (fl m a s).f2 (fl m a s).f3 (fl m a s).f1 = some (m, nx m true a, ns m true a s, 0, 0) := lossI h.ok
theorem ack_fl {m a s : Int} (h : inv m a s) (k : Nat) : impl_CongAck.f (k + 1) (fl m a s).f0 (fl m a s).f1 (fl m a s).f2 (fl m a s).f3 (fl m a s).f1 = some (m, nx m false a, ns m false a s, 0, 0) := ackI h.ok h.2.2.1 k
theorem w01 : wrap64 (0 + 1) = 1 := by rw [wr64 (by omega)]; rfl
theorem w11 : wrap64 (1 + 1) = 2 := by rw [wr64 (by omega)]; rfl
theorem clone_f (l : List Int) (h : l.length < 17592186044416) : slices_Clone_int64_int64.f l = some l := by
  unfold slices_Clone_int64_int64.f
  rw [Option.bind_some, if_pos (by simpa using h), List.nil_append]
theorem l3_f {m a b s t : Int} (ha : inv m a s) (hb : inv m b t) (room : Int) (acc : List S35) (hacc : acc.length < 4398046511104) (n i : Int) (q : Bool) (k : Nat) :
    impl_Share.l3 (k + 1 + 1 + 1) room [fl m a s, fl m b t] acc n i 2 0 q [] = impl_Share.l1 k room [fl m (nx m q a) (ns m q a s), fl m (nx m q b) (ns m q b t)] (acc ++ [⟨q, [nx m q a, nx m q b]⟩]) n (wrap64 (i + 1)) := by
  have r0 : ∀ u v : S112, rd_T112 [u, v] 0 = u := fun _ _ => rfl
  have r1 : ∀ u v : S112, rd_T112 [u, v] 1 = v := fun _ _ => rfl
  have s0 : ∀ u v x : S112, [u, v].set (0 : Int).toNat x = [x, v] := fun _ _ _ => rfl
  have s1 : ∀ u v x : S112, [u, v].set (1 : Int).toNat x = [u, x] := fun _ _ _ => rfl
  have c1 : ([] : List Int).length < 17592186044416 := by decide
  have c2 : ∀ x : Int, ([x] : List Int).length < 17592186044416 := fun _ => by simp
  have c3 : ∀ x y : Int, ([x, y] : List Int).length < 17592186044416 := fun _ _ => by simp
  cases q with
  | true =>
    rw [impl_Share.l3, if_pos (by decide), if_pos (by decide), if_pos (by simp), if_pos rfl, r0, loss_fl ha, Option.bind_some, Option.bind_some, if_pos c1, s0, r0, w01]
    rw [impl_Share.l3, if_pos (by decide), if_pos (by decide), if_pos (by simp), if_pos rfl, r1, loss_fl hb, Option.bind_some, Option.bind_some, if_pos (by simp), s1, r1, w11]
    rw [impl_Share.l3, if_neg (by decide), clone_f _ (by simp), Option.bind_some, if_pos hacc]
    rfl
  | false =>
    rw [impl_Share.l3, if_pos (by decide), if_pos (by decide), if_pos (by simp), if_neg (by decide), r0, ack_fl ha, Option.bind_some, Option.bind_some, if_pos c1, s0, r0, w01]
    rw [impl_Share.l3, if_pos (by decide), if_pos (by decide), if_pos (by simp), if_neg (by decide), r1, ack_fl hb, Option.bind_some, Option.bind_some, if_pos (by simp), s1, r1, w11]
    rw [impl_Share.l3, if_neg (by decide), clone_f _ (by simp), Option.bind_some, if_pos hacc]
    rfl
theorem l2_f {m a b s t : Int} (ha : inv m a s) (hb : inv m b t) (room : Int) (acc : List S35) (n i : Int) (k : Nat) :
    impl_Share.l2 (k + 1 + 1 + 1) room [fl m a s, fl m b t] acc 0 n i 2 0 = impl_Share.l3 k room [fl m a s, fl m b t] acc n i 2 0 (decide (a + b > room)) [] := by
  unfold inv at ha hb
  have r0 : ∀ u v : S112, rd_T112 [u, v] 0 = u := fun _ _ => rfl
  have r1 : ∀ u v : S112, rd_T112 [u, v] 1 = v := fun _ _ => rfl
  rw [impl_Share.l2, if_pos (by decide), if_pos (by decide), if_pos (by simp), r0, w01, show wrap64 (0 + (fl m a s).f1) = a from by rw [show (fl m a s).f1 = a from rfl, wr64 (by omega)]; omega]
  rw [impl_Share.l2, if_pos (by decide), if_pos (by decide), if_pos (by simp), r1, w11, show wrap64 (a + (fl m b t).f1) = a + b from by rw [show (fl m b t).f1 = b from rfl, wr64 (by omega)]]
  rw [impl_Share.l2, if_neg (by decide)]
  rfl
def good (m room : Int) : Int → Int → List S35 → Prop
  | _, _, [] => True
  | a, b, r :: rs => r = ⟨decide (a + b > room), [nx m (decide (a + b > room)) a, nx m (decide (a + b > room)) b]⟩ ∧ (1 ≤ m ∧ m ≤ 65535) ∧ (2 * m ≤ a ∧ a ≤ 1073741824) ∧ (2 * m ≤ b ∧ b ≤ 1073741824) ∧ good m room (nx m (decide (a + b > room)) a) (nx m (decide (a + b > room)) b) rs
theorem share_l (m room : Int) (d : Nat) : ∀ (k i : Nat) (acc : List S35) (a b s t : Int), i + d = 150 → 7 * d < k → inv m a s → inv m b t → acc.length = i →
    ∃ rs, impl_Share.l1 k room [fl m a s, fl m b t] acc 150 (i : Int) = some (acc ++ rs, 0) ∧ rs.length = d ∧ good m room a b rs := by
  induction d with
  | zero =>
    intro k i acc a b s t hi hk ha hb hacc
    obtain ⟨k, rfl⟩ : ∃ z, k = z + 1 := ⟨k - 1, by omega⟩
    rw [impl_Share.l1, if_neg (by omega)]
    exact ⟨[], by rw [List.append_nil], rfl, trivial⟩
  | succ d ih =>
    intro k i acc a b s t hi hk ha hb hacc
    obtain ⟨k, rfl⟩ : ∃ z, k = z + 1 + 1 + 1 + 1 + 1 + 1 + 1 := ⟨k - 7, by omega⟩
    rw [impl_Share.l1, if_pos (by omega)]
    show ∃ rs, impl_Share.l2 (k + 1 + 1 + 1 + 1 + 1 + 1) room [fl m a s, fl m b t] acc 0 150 (i : Int) 2 0 = _ ∧ _
    rw [l2_f ha hb, l3_f ha hb room acc (by omega), wr_succ (n := 150) (by omega) (by omega)]
    obtain ⟨rs, e, hl, hg⟩ := ih k (i + 1) (acc ++ [⟨decide (a + b > room), [nx m (decide (a + b > room)) a, nx m (decide (a + b > room)) b]⟩]) _ _ _ _ (by omega) (by omega) (ha.step (decide (a + b > room))) (hb.step (decide (a + b > room))) (by simp; omega)
    refine ⟨⟨decide (a + b > room), [nx m (decide (a + b > room)) a, nx m (decide (a + b > room)) b]⟩ :: rs, ?_, by simp; omega, rfl, ha.1, ?_, ?_, hg⟩
    · rw [e, List.append_assoc]
      rfl
    · unfold inv at ha
      omega
    · unfold inv at hb
      omega
theorem share_f {m room a b : Int} (hm : 1 ≤ m ∧ m ≤ 65535) (hr : 1 ≤ room ∧ room ≤ 1073741824) (ha : 2 * m ≤ a ∧ a ≤ 1073741824) (hb : 2 * m ≤ b ∧ b ≤ 1073741824) {k : Nat} (hk : 1100 ≤ k) :
    ∃ rs, impl_Share.f k m room [a, b] 150 = some (rs, 0) ∧ rs.length = 150 ∧ good m room a b rs := by
  obtain ⟨k, rfl⟩ : ∃ z, k = z + 1 + 1 + 1 + 1 + 1 := ⟨k - 5, by omega⟩
  unfold impl_Share.f
  rw [if_neg (by omega), if_neg (by omega), if_neg (by omega), if_neg (by omega), if_neg (by decide), impl_Share.j0, if_neg (by decide)]
  have r0 : rd [a, b] 0 = a := rfl
  have r1 : rd [a, b] 1 = b := rfl
  show ∃ rs, impl_Share.l0 (k + 1 + 1 + 1 + 1) m room 150 [] [a, b] 2 0 = _ ∧ _
  rw [impl_Share.l0, if_pos (by decide), if_pos (by decide), if_pos (by simp), r0, wr64 (a := 2 * m) (by omega), if_neg (by omega), if_neg (by omega), if_pos (by decide), w01]
  rw [impl_Share.l0, if_pos (by decide), if_pos (by decide), if_pos (by simp), r1, wr64 (a := 2 * m) (by omega), if_neg (by omega), if_neg (by omega), if_pos (by simp), w11]
  rw [impl_Share.l0, if_neg (by decide), if_neg (by simp)]
  show ∃ rs, impl_Share.j2 (k + 1) room 150 [fl m a (2 * m), fl m b (2 * m)] (decide ((2 : Int) > 64)) = _ ∧ _
  rw [impl_Share.j2, if_neg (by decide)]
  obtain ⟨rs, e, h1, h2⟩ := share_l m room 150 k 0 [] a b (2 * m) (2 * m) (by omega) (by omega) ⟨hm, by omega, by omega, by omega⟩ ⟨hm, by omega, by omega, by omega⟩ rfl
  exact ⟨rs, e, h1, h2⟩
def aw (a b : Int) : Int := if a > b then a - b else b - a
theorem away_f {a b : Int} (ha : 0 ≤ a ∧ a ≤ 1073741824) (hb : 0 ≤ b ∧ b ≤ 1073741824) : laws_lwAway.f a b = some (aw a b) := by
  unfold laws_lwAway.f aw
  rw [wr64 (a := a - b) (by omega), wr64 (a := b - a) (by omega)]
  split <;> rfl
theorem aw_in {a b : Int} (ha : 0 ≤ a ∧ a ≤ 1073741824) (hb : 0 ≤ b ∧ b ≤ 1073741824) : 0 ≤ aw a b ∧ aw a b ≤ 1073741824 := by
  unfold aw
  split <;> omega
theorem aw_loss {m a b : Int} (hm : 1 ≤ m) (ha : 2 * m ≤ a) (hb : 2 * m ≤ b) : aw (nx m true a) (nx m true b) ≤ (aw a b + 1) / 2 := by
  unfold nx half
  simp only [if_true]
  unfold mx aw
  repeat' split
  all_goals omega
theorem aw_ack {m a b : Int} : aw (nx m false a) (nx m false b) ≤ aw a b := by
  unfold nx
  simp only [Bool.false_eq_true, if_false]
  unfold mn aw
  repeat' split
  all_goals omega
theorem nx_in {m a : Int} (hm : 1 ≤ m ∧ m ≤ 65535) (ha : 2 * m ≤ a ∧ a ≤ 1073741824) (q : Bool) : 0 ≤ nx m q a ∧ nx m q a ≤ 1073741824 := by
  have := (show inv m a (2 * m) from ⟨hm, by omega, by omega, by omega⟩).step q
  unfold inv at this
  omega
theorem rd35 (pre rs : List S35) (r : S35) : rd_T35 (pre ++ r :: rs) (pre.length : Int) = r := by
  unfold rd_T35
  rw [Int.toNat_natCast, List.getD_eq_getElem?_getD, List.getElem?_append_right (Nat.le_refl _), Nat.sub_self]
  rfl
theorem law_l (m room : Int) (rs : List S35) : ∀ (k : Nat) (pre : List S35) (a b first : Int), 3 * rs.length < k → pre.length + rs.length ≤ 150 → good m room a b rs → aw a b ≤ first → first ≤ 1073741824 →
    laws_FnFair.l0 k room (pre ++ rs) a b first (pre.length : Int) = some true := by
  induction rs with
  | nil =>
    intro k pre a b first hk hp hg h1 h2
    obtain ⟨k, rfl⟩ : ∃ z, k = z + 1 := ⟨k - 1, by simp at hk; omega⟩
    rw [laws_FnFair.l0, if_neg (by simp)]
  | cons r rs ih =>
    intro k pre a b first hk hp hg h1 h2
    simp only [List.length_cons] at hk hp
    obtain ⟨k, rfl⟩ : ∃ z, k = z + 1 + 1 + 1 := ⟨k - 3, by omega⟩
    obtain ⟨er, hm, ha, hb, hg⟩ := hg
    obtain ⟨q, hq⟩ : ∃ q, q = decide (a + b > room) := ⟨_, rfl⟩
    rw [← hq] at er hg
    have ha' := nx_in hm ha q
    have hb' := nx_in hm hb q
    have hA := aw_in (a := a) (b := b) (by omega) (by omega)
    have hA' := aw_in ha' hb'
    have hlen : ((pre ++ r :: rs).length : Int) = (pre.length : Int) + (rs.length : Int) + 1 := by simp; omega
    have e0 : r.f0 = q := by rw [er]
    have e1 : r.f1 = [nx m q a, nx m q b] := by rw [er]
    have g0 : rd [nx m q a, nx m q b] 0 = nx m q a := rfl
    have g1 : rd [nx m q a, nx m q b] 1 = nx m q b := rfl
    have l2 : (([nx m q a, nx m q b] : List Int).length : Int) = 2 := rfl
    have nxt : ∀ f' : Int, aw (nx m q a) (nx m q b) ≤ f' → f' ≤ 1073741824 → laws_FnFair.l0 k room (pre ++ r :: rs) (nx m q a) (nx m q b) f' (wrap64 ((pre.length : Int) + 1)) = some true := by
      intro f' h3 h4
      rw [wr_succ (n := 150) (by omega) (by omega)]
      have := ih k (pre ++ [r]) (nx m q a) (nx m q b) f' (by omega) (by simp; omega) hg h3 h4
      rw [List.append_assoc, List.length_append] at this
      exact this
    rw [laws_FnFair.l0, if_pos (by omega), if_pos (by omega), rd35, e1, if_pos l2, e0, wr64 (a := a + b) (by omega), ← hq, bne_self_eq_false]
    rw [laws_FnFair.j2, if_neg (by decide), away_f (by omega) (by omega), Option.bind_some, if_pos (by omega), if_pos (by omega), rd35, e1, l2, if_pos (by decide), if_pos (by decide), g0, g1, away_f ha' hb', Option.bind_some, e0]
    cases q with
    | true =>
      have hl := aw_loss (m := m) (a := a) (b := b) hm.1 ha.1 hb.1
      rw [if_neg (by omega), if_pos rfl, wr64 (a := aw a b + 1) (by omega), td_pos _ (by omega), wr64 (a := (aw a b + 1) / 2) (by omega), decide_eq_false (show ¬ aw (nx m true a) (nx m true b) > (aw a b + 1) / 2 by omega)]
      rw [laws_FnFair.j3, if_neg (by decide), if_pos (by omega), if_pos (by omega), rd35, e0, if_pos rfl, wr64 (a := first + 1) (by omega), td_pos _ (by omega), wr64 (a := (first + 1) / 2) (by omega), if_neg (by omega)]
      exact nxt _ (by omega) (by omega)
    | false =>
      have hl := aw_ack (m := m) (a := a) (b := b)
      rw [if_neg (by omega), if_neg (by decide)]
      rw [laws_FnFair.j3, if_neg (by decide), if_pos (by omega), if_pos (by omega), rd35, e0, if_neg (by decide), if_neg (by omega)]
      exact nxt _ (by omega) (by omega)
theorem FnFair : laws_FnFair.Pure := by
  intro l _ _ _
  by_cases h : (l.length : Int) > 1048576
  · refine ⟨1, ?_⟩
    unfold laws_FnFair.f
    rw [if_pos h]
  · obtain ⟨k, hk⟩ : ∃ k, k = l.length + 1200 := ⟨_, rfl⟩
    refine ⟨k, ?_⟩
    have hl : l.length ≤ 1048576 := by omega
    unfold laws_FnFair.f
    obtain ⟨st, e⟩ := lwb_f hl 13 (k := k) (by omega)
    rw [if_neg h, e, Option.bind_some]
    obtain ⟨m0, p1, st1, e1, m1, m2, hp1⟩ := lwn_f hl st (p := 0) (n := 1500) (by omega) (by omega) (by omega)
    rw [e1, Option.bind_some]
    obtain ⟨x, p2, st2, e2, x1, x2, hp2⟩ := lwn_f hl st1 (p := p1) (n := 100000) hp1 (by omega) (by omega)
    rw [e2, Option.bind_some]
    obtain ⟨y, p3, st3, e3, y1, y2, hp3⟩ := lwn_f hl st2 (p := p2) (n := 100000) hp2 (by omega) (by omega)
    rw [e3, Option.bind_some, Option.bind_some]
    obtain ⟨z, p4, st4, e4, z1, z2, hp4⟩ := lwn_f hl st3 (p := p3) (n := 150000) hp3 (by omega) (by omega)
    rw [e4, Option.bind_some, Option.bind_some, if_pos (by simp), List.nil_append]
    dsimp only
    rw [wr64 (a := 1 + m0) (by omega), wr64 (a := 2 * (1 + m0)) (by omega), wr64 (a := 4 * (1 + m0)) (by omega), wr64 (a := 2 * (1 + m0) + x) (by omega), wr64 (a := 2 * (1 + m0) + y) (by omega), wr64 (a := 4 * (1 + m0) + z) (by omega)]
    obtain ⟨rs, es, hr, hg⟩ := share_f (m := 1 + m0) (room := 4 * (1 + m0) + z) (a := 2 * (1 + m0) + x) (b := 2 * (1 + m0) + y) (by omega) (by omega) (by omega) (by omega) (k := k) (by omega)
    rw [es, Option.bind_some]
    dsimp only
    rw [if_pos rfl, hr]
    obtain ⟨k, rfl⟩ : ∃ z, k = z + 1 := ⟨k - 1, by omega⟩
    have q0 : rd [2 * (1 + m0) + x, 2 * (1 + m0) + y] 0 = 2 * (1 + m0) + x := rfl
    have q1 : rd [2 * (1 + m0) + x, 2 * (1 + m0) + y] 1 = 2 * (1 + m0) + y := rfl
    rw [laws_FnFair.j0, if_neg (by decide), if_pos (by simp), if_pos (by simp), q0, q1, away_f (by omega) (by omega), Option.bind_some]
    have hA := aw_in (a := 2 * (1 + m0) + x) (b := 2 * (1 + m0) + y) (by omega) (by omega)
    exact law_l (1 + m0) _ rs k [] _ _ _ (by omega) (by simp; omega) hg (by omega) (by omega)

end Go.Proofs.Ytkfbcmbemihbnaa.Pure
