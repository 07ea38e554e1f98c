/- The rounds of several flows on one road are told as the law's own words tell them, for every segment size, room, starts and count of rounds; the rows handed back are the caller's own; without conditions. -/
import Derived.Test.YtkfbcmbemihbnaaPFnExactSharex5
set_option linter.unusedVariables false
set_option linter.unusedSimpArgs false
namespace Go.Proofs.Ytkfbcmbemihbnaa.Pure
open Go.RowKit Go.Proofs.Ytkfbcmbemihbnaa.PFnExactShare Go.Proofs.YtkfbcmbemihbnaaW.PrintWords Go.Proofs.YtkfbcmbemihbnaaW.PrintLast

/-! ### base -/
theorem wf64 {a : Int} (h : (Lit.int .i64 a).wf = true) : -9223372036854775808 ≤ a ∧ a ≤ 9223372036854775807 := by
  have h1 : IntKind.i64.min = -9223372036854775808 := by decide
  have h2 : IntKind.i64.max = 9223372036854775807 := by decide
  simp only [Lit.wf, Bool.and_eq_true, decide_eq_true_eq] at h
  omega
theorem tm_pos {a : Int} (n : Int) (h : 0 ≤ a) : Int.tmod a n = a % n := Int.tmod_eq_emod_of_nonneg h
theorem tm_neg {a : Int} (n : Int) (h : a ≤ 0) : Int.tmod a n = -((-a) % n) := by
  have := Int.neg_tmod (-a) n
  rw [Int.neg_neg] at this
  rw [this, Int.tmod_eq_emod_of_nonneg (by omega)]
theorem td_pos {a : Int} (n : Int) (h : 0 ≤ a) : Int.tdiv a n = a / n := Int.tdiv_eq_ediv_of_nonneg h
theorem wr64 {a : Int} (h : -9223372036854775808 ≤ a ∧ a ≤ 9223372036854775807) : wrap64 a = a := by
  unfold wrap64
  omega
theorem dec_eq {p : Prop} [Decidable p] {b : Bool} (h : b = true ↔ p) : some b = some (decide p) := by
  rw [Option.some.injEq, Bool.eq_iff_iff, decide_eq_true_eq]
  exact h
theorem ite_dec (p q : Prop) [Decidable p] [Decidable q] : (if p then some (decide q) else some false) = some (decide (p ∧ q)) := by
  by_cases h : p <;> simp [h]
theorem beq_dec (a b : Int) : (a == b) = decide (a = b) := by
  rw [Bool.eq_iff_iff]
  simp

/-! ### addr0 -/
theorem in_f (a l h : Int) : spec_l01In.f a l h = some (decide (l ≤ a ∧ a ≤ h)) := by
  unfold spec_l01In.f
  by_cases h1 : a ≥ l
  · rw [if_pos h1]; congr 1; rw [decide_eq_decide]; omega
  · rw [if_neg h1]; congr 1; rw [eq_comm, decide_eq_false_iff_not]; omega

/-! ### congimpl -/
def okC (m c s n : Int) : Prop := (1 ≤ m ∧ m ≤ 65535) ∧ (m ≤ c ∧ c ≤ 1073741824) ∧ (2 * m ≤ s ∧ s ≤ 1073741824) ∧ (0 ≤ n ∧ n < c)
instance (m c s n : Int) : Decidable (okC m c s n) := by unfold okC; exact inferInstance
theorem okC_impl (m c s n : Int) : impl_okCong.f m c s n = some (decide (okC m c s n)) := by
  unfold impl_okCong.f
  by_cases h1 : 1 ≤ m ∧ m ≤ 65535
  · rw [wr64 (a := 2 * m) (by omega)]
    repeat' split
    all_goals (apply dec_eq; unfold okC; first | (simp only [Bool.false_eq_true, false_iff]; omega) | (rw [decide_eq_true_eq]; omega))
  · by_cases h2 : m ≥ 1
    · rw [if_pos h2, if_neg (by omega)]
      apply dec_eq
      unfold okC
      simp only [Bool.false_eq_true, false_iff]
      omega
    · rw [if_neg h2]
      apply dec_eq
      unfold okC
      simp only [Bool.false_eq_true, false_iff]
      omega

/-! ### lists -/
theorem rd_at {xs : List Int} {i : Nat} (h : i < xs.length) : rd xs (i : Int) = xs[i] := by
  unfold rd
  rw [Int.toNat_natCast, List.getD_eq_getElem?_getD, List.getElem?_eq_getElem h]
  rfl
theorem wr_succ {i n : Nat} (h : i < n) (hn : n ≤ 281474976710656) : wrap64 ((i : Int) + 1) = ((i + 1 : Nat) : Int) := by
  rw [wr64 (by omega)]
  omega
theorem maxLen_le {n : Nat} (h : n ≤ 1048576) : n ≤ 281474976710656 := by omega

/-! ### cmax -/
theorem max_f (a b : Int) : spec_l14Max.f a b = some (mx a b) := by
  unfold spec_l14Max.f mx
  repeat' split
  all_goals first | rfl | (congr 1; omega)

/-! ### cmin -/
theorem min_f (a b : Int) : spec_l14Min.f a b = some (mn a b) := by
  unfold spec_l14Min.f mn
  repeat' split
  all_goals first | rfl | (congr 1; omega)

/-! ### the law -/
theorem w01 : wrap64 (0 + 1) = 1 := by rw [wr64 (by omega)]; rfl
theorem mid_rd (pre suf : List Int) (x : Int) : rd (pre ++ x :: suf) (pre.length : Int) = x := by
  unfold rd
  rw [Int.toNat_natCast, List.getD_eq_getElem?_getD, List.getElem?_append_right (Nat.le_refl _), Nat.sub_self]
  rfl
theorem mid_35 (pre rs : List S35) (r : S35) : rd_T35 (pre ++ r :: rs) (pre.length : Int) = r := by
  unfold rd_T35
  rw [Int.toNat_natCast, List.getD_eq_getElem?_getD, List.getElem?_append_right (Nat.le_refl _), Nat.sub_self]
  rfl
theorem mid_112 (pre rs : List S112) (r : S112) : rd_T112 (pre ++ r :: rs) (pre.length : Int) = r := by
  unfold rd_T112
  rw [Int.toNat_natCast, List.getD_eq_getElem?_getD, List.getElem?_append_right (Nat.le_refl _), Nat.sub_self]
  rfl
theorem mid_set {α : Type} (pre suf : List α) (x y : α) : (pre ++ x :: suf).set (pre.length : Int).toNat y = pre ++ y :: suf := by
  rw [Int.toNat_natCast, List.set_append_right _ _ (Nat.le_refl _), Nat.sub_self]
  rfl
theorem mid_len {α : Type} (pre suf : List α) (x : α) : ((pre ++ x :: suf).length : Int) = (pre.length : Int) + (suf.length : Int) + 1 := by
  simp
  omega
theorem mid_next {α : Type} (pre suf : List α) (x : α) : pre ++ x :: suf = (pre ++ [x]) ++ suf := by simp
theorem mid_one {α : Type} (pre : List α) (x : α) (n : Nat) (h : pre.length < n) (hn : n ≤ 281474976710656) : wrap64 ((pre.length : Int) + 1) = ((pre ++ [x]).length : Int) := by
  rw [wr_succ h hn]
  simp
/-! rows of numbers -/
theorem toI_l (suf : List Int) : ∀ (k : Nat) (pre : List Int), suf.length < k → pre.length + suf.length ≤ 1048576 → laws_toInt64S.l0 k (pre ++ suf) (pre ++ List.replicate suf.length 0) (pre.length : Int) = some (pre ++ suf) := by
  induction suf with
  | nil =>
    intro k pre hk hp
    obtain ⟨k, rfl⟩ : ∃ z, k = z + 1 := ⟨k - 1, by simp at hk; omega⟩
    rw [laws_toInt64S.l0, if_neg (by simp)]
    rfl
  | cons x suf ih =>
    intro k pre hk hp
    simp only [List.length_cons] at hk hp
    obtain ⟨k, rfl⟩ : ∃ z, k = z + 1 := ⟨k - 1, by omega⟩
    have hl := mid_len pre suf x
    have hr : pre ++ List.replicate (x :: suf).length 0 = pre ++ (0 : Int) :: List.replicate suf.length 0 := rfl
    rw [hr, laws_toInt64S.l0, if_pos (by omega), if_pos (by omega), if_pos (by rw [mid_len]; simp; omega), mid_rd, mid_set, mid_one pre x 1048576 (by omega) (by omega), mid_next pre suf x, mid_next pre (List.replicate suf.length 0) x]
    exact ih k (pre ++ [x]) (by omega) (by simp; omega)
theorem toI_f {l : List Int} (h : l.length ≤ 1048576) {k : Nat} (hk : l.length < k) : laws_toInt64S.f k l = some l := by
  unfold laws_toInt64S.f
  rw [if_pos (by omega), if_pos (by rw [Int.toNat_natCast]; omega), Int.toNat_natCast]
  exact toI_l l k [] hk (by simpa using h)
theorem eqI_l (suf : List Int) : ∀ (k : Nat) (pre : List Int), suf.length < k → pre.length + suf.length ≤ 1048576 → laws_eqInt64S.l0 k (pre ++ suf) (pre ++ suf) (pre.length : Int) = some true := by
  induction suf with
  | nil =>
    intro k pre hk hp
    obtain ⟨k, rfl⟩ : ∃ z, k = z + 1 := ⟨k - 1, by simp at hk; omega⟩
    rw [laws_eqInt64S.l0, if_neg (by simp)]
  | cons x suf ih =>
    intro k pre hk hp
    simp only [List.length_cons] at hk hp
    obtain ⟨k, rfl⟩ : ∃ z, k = z + 1 := ⟨k - 1, by omega⟩
    have hl := mid_len pre suf x
    rw [laws_eqInt64S.l0, if_pos (by omega), if_pos (by omega), if_pos (by omega), if_pos rfl, mid_one pre x 1048576 (by omega) (by omega), mid_next pre suf x]
    exact ih k (pre ++ [x]) (by omega) (by simp; omega)
theorem eqI_f {l : List Int} (h : l.length ≤ 1048576) {k : Nat} (hk : l.length < k) : laws_eqInt64S.f k l l = some true := by
  unfold laws_eqInt64S.f
  rw [if_pos rfl]
  exact eqI_l l k [] hk (by simpa using h)
def mkI : Int → Nat → List Int
  | _, 0 => []
  | a, n + 1 => a :: mkI (a + 1) n
theorem mkI_len (n : Nat) : ∀ a, (mkI a n).length = n := by
  induction n with
  | zero => intro a; rfl
  | succ n ih => intro a; simp [mkI, ih]
theorem markI_l (suf : List Int) : ∀ (k : Nat) (pre : List Int) (a : Int), suf.length < k → pre.length + suf.length ≤ 1048576 → 0 ≤ a → a ≤ 1073741824 - suf.length → laws_markInt64S.l0 k (pre ++ suf) a (pre.length : Int) = some (a + (suf.length : Int), pre ++ mkI a suf.length) := by
  induction suf with
  | nil =>
    intro k pre a hk hp h1 h2
    obtain ⟨k, rfl⟩ : ∃ z, k = z + 1 := ⟨k - 1, by simp at hk; omega⟩
    rw [laws_markInt64S.l0, if_neg (by simp)]
    simp [mkI]
  | cons x suf ih =>
    intro k pre a hk hp h1 h2
    simp only [List.length_cons] at hk hp h2
    obtain ⟨k, rfl⟩ : ∃ z, k = z + 1 := ⟨k - 1, by omega⟩
    have hl := mid_len pre suf x
    rw [laws_markInt64S.l0, if_pos (by omega), if_pos (by omega), mid_set, wr64 (a := a + 1) (by omega), mid_one pre a 1048576 (by omega) (by omega), mid_next pre suf a, ih k (pre ++ [a]) (a + 1) (by omega) (by simp; omega) (by omega) (by omega)]
    simp only [List.length_cons, mkI, List.append_assoc, List.singleton_append]
    congr 2
    omega
theorem markI_f {l : List Int} (h : l.length ≤ 1048576) {a : Int} (h1 : 0 ≤ a) (h2 : a ≤ 1073741824 - l.length) {k : Nat} (hk : l.length < k) : laws_markInt64S.f k l a = some (a + (l.length : Int), mkI a l.length) := by
  unfold laws_markInt64S.f
  exact markI_l l k [] a hk (by simpa using h) h1 h2
theorem heldI_l (n : Nat) : ∀ (k : Nat) (pre : List Int) (a : Int), n < k → pre.length + n ≤ 1048576 → 0 ≤ a → a ≤ 1073741824 - n → laws_heldInt64S.l0 k (pre ++ mkI a n) a (pre.length : Int) = some (a + (n : Int)) := by
  induction n with
  | zero =>
    intro k pre a hk hp h1 h2
    obtain ⟨k, rfl⟩ : ∃ z, k = z + 1 := ⟨k - 1, by omega⟩
    rw [laws_heldInt64S.l0, if_neg (by simp [mkI])]
    simp
  | succ n ih =>
    intro k pre a hk hp h1 h2
    obtain ⟨k, rfl⟩ : ∃ z, k = z + 1 := ⟨k - 1, by omega⟩
    have hl := mid_len pre (mkI (a + 1) n) a
    have hm := mkI_len n (a + 1)
    rw [mkI, laws_heldInt64S.l0, if_pos (by omega), if_pos (by omega), mid_rd, if_pos rfl, wr64 (a := a + 1) (by omega), mid_one pre a 1048576 (by omega) (by omega), mid_next pre _ a, ih k (pre ++ [a]) (a + 1) (by omega) (by simp; omega) (by omega) (by omega)]
    congr 1
    omega
theorem heldI_f {n : Nat} (h : n ≤ 1048576) {a : Int} (h1 : 0 ≤ a) (h2 : a ≤ 1073741824 - n) {k : Nat} (hk : n < k) : laws_heldInt64S.f k (mkI a n) a = some (a + (n : Int)) := by
  unfold laws_heldInt64S.f
  exact heldI_l n k [] a hk (by simpa using h) h1 h2
/-! rows of rows -/
def small (R : List S35) : Prop := ∀ r, r ∈ R → r.f1.length ≤ 64
theorem eqR_f (q : Bool) {l : List Int} (h : l.length ≤ 64) {k : Nat} (hk : 64 < k) : laws_eqShareRow.f k q l q l = some true := by
  unfold laws_eqShareRow.f
  rw [bne_self_eq_false, if_neg (by decide), eqI_f (by omega) (by omega), Option.bind_some, if_pos rfl]
theorem eqS_l (suf : List S35) : ∀ (k : Nat) (pre : List S35), suf.length + 65 < k → pre.length + suf.length ≤ 2000 → small suf → laws_eqShareRowS.l0 k (pre ++ suf) (pre ++ suf) (pre.length : Int) = some true := by
  induction suf with
  | nil =>
    intro k pre hk hp hs
    obtain ⟨k, rfl⟩ : ∃ z, k = z + 1 := ⟨k - 1, by simp at hk; omega⟩
    rw [laws_eqShareRowS.l0, if_neg (by simp)]
  | cons x suf ih =>
    intro k pre hk hp hs
    simp only [List.length_cons] at hk hp
    obtain ⟨k, rfl⟩ : ∃ z, k = z + 1 := ⟨k - 1, by omega⟩
    have hl := mid_len pre suf x
    rw [laws_eqShareRowS.l0, if_pos (by omega), if_pos (by omega), if_pos (by omega), mid_35, eqR_f _ (hs x (List.mem_cons_self ..)) (by omega), Option.bind_some, if_pos rfl, mid_one pre x 2000 (by omega) (by omega), mid_next pre suf x]
    exact ih k (pre ++ [x]) (by omega) (by simp; omega) (fun r hr => hs r (List.mem_cons_of_mem _ hr))
theorem eqS_f {R : List S35} (hs : small R) (h : R.length ≤ 2000) {k : Nat} (hk : 2100 < k) : laws_eqShareRowS.f k R R = some true := by
  unfold laws_eqShareRowS.f
  rw [if_pos rfl]
  exact eqS_l R k [] (by omega) (by simpa using h) hs
def mkR : Int → List S35 → List S35
  | _, [] => []
  | a, r :: R => ⟨(Int.tmod a 3) == 0, mkI (a + 1) r.f1.length⟩ :: mkR (a + 1 + (r.f1.length : Int)) R
def endR : Int → List S35 → Int
  | a, [] => a
  | a, r :: R => endR (a + 1 + (r.f1.length : Int)) R
theorem mkR_len (R : List S35) : ∀ a, (mkR a R).length = R.length := by
  induction R with
  | nil => intro a; rfl
  | cons r R ih => intro a; simp [mkR, ih]
theorem endR_le (R : List S35) : ∀ a, a ≤ endR a R := by
  induction R with
  | nil => intro a; exact Int.le_refl _
  | cons r R ih =>
    intro a
    have := ih (a + 1 + (r.f1.length : Int))
    unfold endR
    omega
theorem markS_l (suf : List S35) : ∀ (k : Nat) (pre : List S35) (a : Int), suf.length + 65 < k → pre.length + suf.length ≤ 2000 → small suf → 0 ≤ a → a + 65 * (suf.length : Int) ≤ 1000000 → laws_markShareRowS.l0 k (pre ++ suf) a (pre.length : Int) = some (endR a suf, pre ++ mkR a suf) := by
  induction suf with
  | nil =>
    intro k pre a hk hp hs h1 h2
    obtain ⟨k, rfl⟩ : ∃ z, k = z + 1 := ⟨k - 1, by simp at hk; omega⟩
    rw [laws_markShareRowS.l0, if_neg (by simp)]
    rfl
  | cons x suf ih =>
    intro k pre a hk hp hs h1 h2
    simp only [List.length_cons] at hk hp h2
    obtain ⟨k, rfl⟩ : ∃ z, k = z + 1 := ⟨k - 1, by omega⟩
    have hl := mid_len pre suf x
    have hx := hs x (List.mem_cons_self ..)
    rw [laws_markShareRowS.l0, if_pos (by omega), if_pos (by omega), mid_35, wr64 (a := a + 1) (by omega), markI_f (by omega) (by omega) (by omega) (by omega), Option.bind_some, mid_set, mid_one pre (⟨(Int.tmod a 3) == 0, mkI (a + 1) x.f1.length⟩ : S35) 2000 (by omega) (by omega), mid_next pre suf _, ih k _ (a + 1 + (x.f1.length : Int)) (by omega) (by simp; omega) (fun r hr => hs r (List.mem_cons_of_mem _ hr)) (by omega) (by omega)]
    simp only [endR, mkR, List.append_assoc, List.singleton_append]
theorem markS_f {R : List S35} (hs : small R) (h : R.length ≤ 2000) {k : Nat} (hk : 2100 < k) : laws_markShareRowS.f k R 1 = some (endR 1 R, mkR 1 R) := by
  unfold laws_markShareRowS.f
  exact markS_l R k [] 1 (by omega) (by simpa using h) hs (by omega) (by omega)
theorem heldS_l (suf : List S35) : ∀ (k : Nat) (pre : List S35) (a : Int), suf.length + 65 < k → pre.length + suf.length ≤ 2000 → small suf → 0 ≤ a → a + 65 * (suf.length : Int) ≤ 1000000 → laws_heldShareRowS.l0 k (pre ++ mkR a suf) a (pre.length : Int) = some (endR a suf) := by
  induction suf with
  | nil =>
    intro k pre a hk hp hs h1 h2
    obtain ⟨k, rfl⟩ : ∃ z, k = z + 1 := ⟨k - 1, by simp at hk; omega⟩
    rw [laws_heldShareRowS.l0, if_neg (by simp [mkR])]
    rfl
  | cons x suf ih =>
    intro k pre a hk hp hs h1 h2
    simp only [List.length_cons] at hk hp h2
    obtain ⟨k, rfl⟩ : ∃ z, k = z + 1 := ⟨k - 1, by omega⟩
    have hx := hs x (List.mem_cons_self ..)
    have hm := mkR_len suf (a + 1 + (x.f1.length : Int))
    have hl := mid_len pre (mkR (a + 1 + (x.f1.length : Int)) suf) (⟨(Int.tmod a 3) == 0, mkI (a + 1) x.f1.length⟩ : S35)
    rw [mkR, laws_heldShareRowS.l0, if_pos (by omega), if_pos (by omega), mid_35, bne_self_eq_false, if_neg (by decide), wr64 (a := a + 1) (by omega), heldI_f (by omega) (by omega) (by omega) (by omega), Option.bind_some, if_neg (by omega), mid_one pre (⟨(Int.tmod a 3) == 0, mkI (a + 1) x.f1.length⟩ : S35) 2000 (by omega) (by omega), mid_next pre _ _, ih k _ (a + 1 + (x.f1.length : Int)) (by omega) (by simp; omega) (fun r hr => hs r (List.mem_cons_of_mem _ hr)) (by omega) (by omega)]
    rfl
theorem heldS_f {R : List S35} (hs : small R) (h : R.length ≤ 2000) {k : Nat} (hk : 2100 < k) : laws_heldShareRowS.f k (mkR 1 R) 1 = some (endR 1 R) := by
  unfold laws_heldShareRowS.f
  exact heldS_l R k [] 1 (by omega) (by simpa using h) hs (by omega) (by omega)
/-! the rounds -/
def half (m x : Int) : Int := mx (x / 2) (2 * m)
def nx (m : Int) (q : Bool) (x : Int) : Int := if q = true then half m x else mn (x + m) 1073741824
def ns (m : Int) (q : Bool) (x s : Int) : Int := if q = true then half m x else s
def inv (m a s : Int) : Prop := (1 ≤ m ∧ m ≤ 65535) ∧ 2 * m ≤ s ∧ s ≤ a ∧ a ≤ 1073741824
theorem inv.ok {m a s : Int} (h : inv m a s) : okC m a s 0 := by
  unfold inv at h
  unfold okC
  omega
theorem inv.step {m a s : Int} (h : inv m a s) (q : Bool) : inv m (nx m q a) (ns m q a s) := by
  unfold inv at h
  unfold nx ns half
  cases q with
  | true =>
    simp only [if_true]
    unfold inv mx
    split <;> omega
  | false =>
    simp only [Bool.false_eq_true, if_false]
    unfold inv mn
    split <;> omega
theorem lossI {m c s n : Int} (h : okC m c s n) : impl_CongLoss.f m c s n c = some (m, half m c, half m c, 0, 0) := by
  have h' := h
  unfold okC at h'
  unfold impl_CongLoss.f half
  rw [okC_impl, decide_eq_true h, Option.bind_some, if_pos rfl, if_neg (by omega), if_neg (by omega), td_pos _ (by omega), wr64 (a := c / 2) (by omega), wr64 (a := 2 * m) (by omega)]
theorem ackI {m c s : Int} (h : okC m c s 0) (hs : s ≤ c) (k : Nat) : impl_CongAck.f (k + 1) m c s 0 c = some (m, mn (c + m) 1073741824, s, 0, 0) := by
  have h' := h
  unfold okC at h'
  unfold impl_CongAck.f
  rw [okC_impl, decide_eq_true h, Option.bind_some, if_pos rfl, if_neg (by omega), impl_CongAck.j0, if_neg (by simp; omega), if_neg (by omega), wr64 (a := 0 + c) (by omega), if_pos (by omega), wr64 (a := c + m) (by omega)]
theorem clone_f (l : List Int) (h : l.length < 17592186044416) : slices_Clone_int64_int64.f l = some l := by
  unfold slices_Clone_int64_int64.f
  rw [Option.bind_some, if_pos (by simpa using h), List.nil_append]
def okF (m : Int) (F : List S112) : Prop := ∀ c, c ∈ F → c.f0 = m ∧ c.f3 = 0 ∧ inv m c.f1 c.f2
def stF (m : Int) (q : Bool) (c : S112) : S112 := ⟨m, nx m q c.f1, ns m q c.f1 c.f2, 0⟩
def sumI : List Int → Int
  | [] => 0
  | x :: l => x + sumI l
def rowsOf (m room : Int) : Nat → List Int → List S35
  | 0, _ => []
  | d + 1, l => ⟨decide (sumI l > room), l.map (nx m (decide (sumI l > room)))⟩ :: rowsOf m room d (l.map (nx m (decide (sumI l > room))))
theorem okF_tail {m : Int} {c : S112} {F : List S112} (h : okF m (c :: F)) : okF m F := fun x hx => h x (List.mem_cons_of_mem _ hx)
theorem okF_step {m : Int} {F : List S112} (h : okF m F) (q : Bool) : okF m (F.map (stF m q)) := by
  intro c hc
  obtain ⟨d, hd, rfl⟩ := List.mem_map.1 hc
  exact ⟨rfl, rfl, (h d hd).2.2.step q⟩
theorem l2_f {m : Int} (suf : List S112) : ∀ (k : Nat) (pre : List S112) (room s n i : Int) (acc : List S35), okF m suf → pre.length + suf.length ≤ 64 → 0 ≤ s → s ≤ 1073741824 * (pre.length : Int) →
    impl_Share.l2 (k + (suf.length + 1)) room (pre ++ suf) acc s n i ((pre ++ suf).length : Int) (pre.length : Int) = impl_Share.l3 k room (pre ++ suf) acc n i ((pre ++ suf).length : Int) 0 (decide (s + sumI (suf.map (·.f1)) > room)) [] := by
  induction suf with
  | nil =>
    intro k pre room s n i acc hF hp h1 h2
    show impl_Share.l2 (k + 1) _ _ _ _ _ _ _ _ = _
    rw [impl_Share.l2, if_neg (by simp)]
    simp [sumI]
  | cons x suf ih =>
    intro k pre room s n i acc hF hp h1 h2
    simp only [List.length_cons] at hp
    have hl := mid_len pre suf x
    obtain ⟨-, -, hx⟩ := hF x (List.mem_cons_self ..)
    unfold inv at hx
    show impl_Share.l2 ((k + (suf.length + 1)) + 1) _ _ _ _ _ _ _ _ = _
    rw [impl_Share.l2, if_pos (by omega), if_pos (by omega), if_pos (by omega), mid_112, wr64 (a := s + x.f1) (by omega), mid_one pre x 64 (by omega) (by omega), mid_next pre suf x, ih k (pre ++ [x]) room (s + x.f1) n i acc (okF_tail hF) (by simp; omega) (by omega) (by simp; omega)]
    simp only [List.map_cons, sumI]
    rw [show s + x.f1 + sumI (suf.map (·.f1)) = s + (x.f1 + sumI (suf.map (·.f1))) from by omega]
theorem l3_f {m : Int} (q : Bool) (suf : List S112) : ∀ (k : Nat) (pre : List S112) (room n i : Int) (acc : List S35) (done : List Int), okF m suf → pre.length + suf.length ≤ 64 → acc.length < 4398046511104 → done.length = pre.length →
    impl_Share.l3 (k + (suf.length + 1)) room (pre ++ suf) acc n i ((pre ++ suf).length : Int) (pre.length : Int) q done = impl_Share.l1 k room (pre ++ suf.map (stF m q)) (acc ++ [⟨q, done ++ (suf.map (·.f1)).map (nx m q)⟩]) n (wrap64 (i + 1)) := by
  induction suf with
  | nil =>
    intro k pre room n i acc done hF hp hacc hd
    show impl_Share.l3 (k + 1) _ _ _ _ _ _ _ _ _ = _
    rw [impl_Share.l3, if_neg (by simp), clone_f _ (by simp at hp; omega), Option.bind_some, if_pos hacc]
    simp
  | cons x suf ih =>
    intro k pre room n i acc done hF hp hacc hd
    simp only [List.length_cons] at hp
    have hl := mid_len pre suf x
    obtain ⟨e0, e3, hx⟩ := hF x (List.mem_cons_self ..)
    show impl_Share.l3 ((k + (suf.length + 1)) + 1) _ _ _ _ _ _ _ _ _ = _
    have fin : impl_Share.l3 (k + (suf.length + 1)) room (pre ++ stF m q x :: suf) acc n i ((pre ++ x :: suf).length : Int) (wrap64 ((pre.length : Int) + 1)) q (done ++ [(stF m q x).f1]) = impl_Share.l1 k room (pre ++ (x :: suf).map (stF m q)) (acc ++ [⟨q, done ++ ((x :: suf).map (·.f1)).map (nx m q)⟩]) n (wrap64 (i + 1)) := by
      have := ih k (pre ++ [stF m q x]) room n i acc (done ++ [(stF m q x).f1]) (okF_tail hF) (by simp; omega) hacc (by simp [hd])
      rw [mid_one pre (stF m q x) 64 (by omega) (by omega), mid_next pre suf (stF m q x), show ((pre ++ x :: suf).length : Int) = (((pre ++ [stF m q x]) ++ suf).length : Int) from by simp, this]
      simp [stF]
    cases q with
    | true =>
      have hc : impl_CongLoss.f x.f0 x.f1 x.f2 x.f3 x.f1 = some (m, nx m true x.f1, ns m true x.f1 x.f2, 0, 0) := by
        rw [e0, e3]
        exact lossI hx.ok
      rw [impl_Share.l3, if_pos (by omega), if_pos (by omega), if_pos (by omega), if_pos rfl, mid_112, hc, Option.bind_some, mid_set, Option.bind_some, if_pos (by omega), mid_112]
      exact fin
    | false =>
      have hc : impl_CongAck.f (k + (suf.length + 1)) x.f0 x.f1 x.f2 x.f3 x.f1 = some (m, nx m false x.f1, ns m false x.f1 x.f2, 0, 0) := by
        rw [e0, e3]
        exact ackI hx.ok hx.2.2.1 (k + suf.length)
      rw [impl_Share.l3, if_pos (by omega), if_pos (by omega), if_pos (by omega), if_neg (by decide), mid_112, hc, Option.bind_some, mid_set, Option.bind_some, if_pos (by omega), mid_112]
      exact fin
theorem l1_f {m : Int} (room : Int) (n : Nat) (hn : n ≤ 2000) (d : Nat) : ∀ (k i : Nat) (F : List S112) (acc : List S35), i + d = n → 132 * d < k → okF m F → F.length ≤ 64 → acc.length = i →
    impl_Share.l1 k room F acc (n : Int) (i : Int) = some (acc ++ rowsOf m room d (F.map (·.f1)), 0) := by
  induction d with
  | zero =>
    intro k i F acc hi hk hF hl hacc
    obtain ⟨k, rfl⟩ : ∃ z, k = z + 1 := ⟨k - 1, by omega⟩
    rw [impl_Share.l1, if_neg (by omega)]
    simp [rowsOf]
  | succ d ih =>
    intro k i F acc hi hk hF hl hacc
    obtain ⟨k, rfl⟩ : ∃ z, k = z + (F.length + 1) + (F.length + 1) + 1 := ⟨k - (2 * F.length + 3), by omega⟩
    rw [impl_Share.l1, if_pos (by omega)]
    have h2 := l2_f F (k + (F.length + 1)) [] room 0 n i acc hF (by simpa using hl) (by omega) (by simp)
    simp only [List.nil_append, List.length_nil, Int.zero_add] at h2
    rw [show ((0 : Nat) : Int) = 0 from rfl] at h2
    rw [h2]
    have h3 := l3_f (m := m) (decide (sumI (F.map (·.f1)) > room)) F k [] room n i acc [] hF (by simpa using hl) (by omega) rfl
    simp only [List.nil_append, List.length_nil] at h3
    rw [show ((0 : Nat) : Int) = 0 from rfl] at h3
    rw [h3, wr_succ (n := n) (by omega) (by omega), ih k (i + 1) _ _ (by omega) (by omega) (okF_step hF _) (by simpa using hl) (by simp; omega)]
    simp [rowsOf, stF, Function.comp_def]
def okb (m : Int) (l : List Int) : Bool := l.all (fun x => decide (2 * m ≤ x ∧ x ≤ 1073741824))
def nF (m s : Int) : S112 := ⟨m, s, 2 * m, 0⟩
theorem l0_f {m : Int} (hm : 1 ≤ m ∧ m ≤ 65535) (room n : Int) (suf : List Int) : ∀ (k : Nat) (pre : List Int), pre.length + suf.length ≤ 1048576 →
    impl_Share.l0 (k + (suf.length + 1)) m room n (pre.map (nF m)) (pre ++ suf) ((pre ++ suf).length : Int) (pre.length : Int) = if okb m suf = true then impl_Share.j2 k room n ((pre ++ suf).map (nF m)) (decide (¬ (1 ≤ (pre ++ suf).length ∧ (pre ++ suf).length ≤ 64))) else some ([], 1) := by
  induction suf with
  | nil =>
    intro k pre hp
    show impl_Share.l0 (k + 1) _ _ _ _ _ _ _ = _
    rw [impl_Share.l0, if_neg (by simp)]
    simp only [okb, List.all_nil, if_true, List.append_nil, List.length_map]
    by_cases h : (pre.length : Int) < 1
    · rw [if_pos h, decide_eq_true (by omega)]
    · rw [if_neg h]
      congr 1
      rw [decide_eq_decide]
      omega
  | cons x suf ih =>
    intro k pre hp
    simp only [List.length_cons] at hp
    have hl := mid_len pre suf x
    show impl_Share.l0 ((k + (suf.length + 1)) + 1) _ _ _ _ _ _ _ = _
    rw [impl_Share.l0, if_pos (by omega), if_pos (by omega), if_pos (by omega), mid_rd, wr64 (a := 2 * m) (by omega)]
    by_cases h : 2 * m ≤ x ∧ x ≤ 1073741824
    · rw [if_neg (by omega), if_neg (by omega), if_pos (by simp; omega)]
      have := ih k (pre ++ [x]) (by simp; omega)
      rw [List.map_append] at this
      rw [mid_one pre x 1048576 (by omega) (by omega), mid_next pre suf x]
      have hb : okb m (x :: suf) = okb m suf := by simp only [okb, List.all_cons, h, and_self, decide_true, Bool.true_and]
      rw [hb]
      exact this
    · have hb : okb m (x :: suf) = false := by simp only [okb, List.all_cons, h, decide_false, Bool.false_and]
      rw [hb]
      simp only [Bool.false_eq_true, if_false]
      by_cases h2 : x < 2 * m
      · rw [if_pos h2]
      · rw [if_neg h2, if_pos (by omega)]
/-! the law's own words -/
theorem sum_l (suf : List Int) : ∀ (k : Nat) (pre : List Int) (s : Int), suf.length < k → pre.length + suf.length ≤ 64 → (∀ x ∈ suf, 0 ≤ x ∧ x ≤ 1073741824) → 0 ≤ s → s ≤ 1073741824 * (pre.length : Int) → spec_l14Sum.l0 k (pre ++ suf) s (pre.length : Int) = some (s + sumI suf) := by
  induction suf with
  | nil =>
    intro k pre s hk hp hs h1 h2
    obtain ⟨k, rfl⟩ : ∃ z, k = z + 1 := ⟨k - 1, by simp at hk; omega⟩
    rw [spec_l14Sum.l0, if_neg (by simp)]
    simp [sumI]
  | cons x suf ih =>
    intro k pre s hk hp hs h1 h2
    simp only [List.length_cons] at hk hp
    obtain ⟨k, rfl⟩ : ∃ z, k = z + 1 := ⟨k - 1, by omega⟩
    have hl := mid_len pre suf x
    have hx := hs x (List.mem_cons_self ..)
    rw [spec_l14Sum.l0, if_pos (by omega), if_pos (by omega), mid_rd, wr64 (a := s + x) (by omega), mid_one pre x 64 (by omega) (by omega), mid_next pre suf x, ih k (pre ++ [x]) (s + x) (by omega) (by simp; omega) (fun y hy => hs y (List.mem_cons_of_mem _ hy)) (by omega) (by simp; omega)]
    simp only [sumI]
    rw [Int.add_assoc]
def okL (m : Int) (l : List Int) : Prop := ∀ x, x ∈ l → 2 * m ≤ x ∧ x ≤ 1073741824
theorem okL_step {m : Int} (hm : 1 ≤ m ∧ m ≤ 65535) {l : List Int} (h : okL m l) (q : Bool) : okL m (l.map (nx m q)) := by
  intro y hy
  obtain ⟨x, hx, rfl⟩ := List.mem_map.1 hy
  have h1 := h x hx
  have h2 := (show inv m x (2 * m) from ⟨hm, by omega, by omega, by omega⟩).step q
  unfold inv at h2
  omega
theorem p2_f {m : Int} (hm : 1 ≤ m ∧ m ≤ 65535) (q : Bool) (room n i : Int) (acc : List S35) (hacc : acc.length < 4398046511104) (suf : List Int) : ∀ (k : Nat) (pre done : List Int), okL m suf → pre.length + suf.length ≤ 64 → done.length = pre.length →
    spec_Share.l2 (k + (suf.length + 1)) m room n (pre ++ suf) acc i done (pre.length : Int) q done = spec_Share.l1 k m room n (done ++ suf.map (nx m q)) (acc ++ [⟨q, done ++ suf.map (nx m q)⟩]) (wrap64 (i + 1)) := by
  induction suf with
  | nil =>
    intro k pre done hF hp hd
    show spec_Share.l2 (k + 1) _ _ _ _ _ _ _ _ _ _ = _
    rw [spec_Share.l2, if_neg (by simp), if_pos hacc]
    simp
  | cons x suf ih =>
    intro k pre done hF hp hd
    simp only [List.length_cons] at hp
    have hl := mid_len pre suf x
    have hx := hF x (List.mem_cons_self ..)
    show spec_Share.l2 ((k + (suf.length + 1)) + 1) _ _ _ _ _ _ _ _ _ _ = _
    have fin : spec_Share.l2 (k + (suf.length + 1)) m room n (pre ++ x :: suf) acc i (done ++ [nx m q x]) (wrap64 ((pre.length : Int) + 1)) q (done ++ [nx m q x]) = spec_Share.l1 k m room n (done ++ (x :: suf).map (nx m q)) (acc ++ [⟨q, done ++ (x :: suf).map (nx m q)⟩]) (wrap64 (i + 1)) := by
      have := ih k (pre ++ [x]) (done ++ [nx m q x]) (fun y hy => hF y (List.mem_cons_of_mem _ hy)) (by simp; omega) (by simp [hd])
      rw [mid_one pre x 64 (by omega) (by omega), mid_next pre suf x, this]
      simp
    rw [spec_Share.l2, if_pos (by omega), if_pos (by omega), mid_rd, wr64 (a := x + m) (by omega), min_f, Option.bind_some]
    cases q with
    | true =>
      rw [if_pos rfl, td_pos _ (by omega), wr64 (a := x / 2) (by omega), wr64 (a := 2 * m) (by omega), max_f, Option.bind_some, if_pos (by omega), if_pos (by omega)]
      exact fin
    | false =>
      rw [if_neg (by decide), if_pos (by omega), if_pos (by omega)]
      exact fin
theorem p1_f {m : Int} (hm : 1 ≤ m ∧ m ≤ 65535) (room : Int) (n : Nat) (hn : n ≤ 2000) (d : Nat) : ∀ (k i : Nat) (l : List Int) (acc : List S35), i + d = n → 66 * d < k → okL m l → l.length ≤ 64 → acc.length = i →
    spec_Share.l1 k m room (n : Int) l acc (i : Int) = some (acc ++ rowsOf m room d l, 0) := by
  induction d with
  | zero =>
    intro k i l acc hi hk hF hl hacc
    obtain ⟨k, rfl⟩ : ∃ z, k = z + 1 := ⟨k - 1, by omega⟩
    rw [spec_Share.l1, if_neg (by omega)]
    simp [rowsOf]
  | succ d ih =>
    intro k i l acc hi hk hF hl hacc
    obtain ⟨k, rfl⟩ : ∃ z, k = z + (l.length + 1) + 1 := ⟨k - (l.length + 2), by omega⟩
    have hs := sum_l l (k + (l.length + 1)) [] 0 (by omega) (by simpa using hl) (fun x hx => by have := hF x hx; omega) (by omega) (by simp)
    simp only [List.nil_append, List.length_nil, Int.zero_add] at hs
    rw [show ((0 : Nat) : Int) = 0 from rfl] at hs
    rw [spec_Share.l1, if_pos (by omega), show spec_l14Sum.f (k + (l.length + 1)) l = some (sumI l) from hs, Option.bind_some]
    have h2 := p2_f hm (decide (sumI l > room)) room n i acc (by omega) l k [] [] hF (by simpa using hl) rfl
    simp only [List.nil_append, List.length_nil] at h2
    rw [show ((0 : Nat) : Int) = 0 from rfl] at h2
    rw [h2, wr_succ (n := n) (by omega) (by omega), ih k (i + 1) _ _ (by omega) (by omega) (okL_step hm hF _) (by simpa using hl) (by simp; omega)]
    simp [rowsOf]
theorem p0_f {m : Int} (hm : 1 ≤ m ∧ m ≤ 65535) (room n : Int) (suf : List Int) : ∀ (k : Nat) (pre : List Int), pre.length + suf.length ≤ 1048576 →
    spec_Share.l0 (k + (suf.length + 1)) m room (pre ++ suf) n (pre.length : Int) = if okb m suf = true then spec_Share.j2 k m room (pre ++ suf) n (decide (¬ (1 ≤ (pre ++ suf).length ∧ (pre ++ suf).length ≤ 64))) else some ([], 1) := by
  induction suf with
  | nil =>
    intro k pre hp
    show spec_Share.l0 (k + 1) _ _ _ _ _ = _
    rw [spec_Share.l0, if_neg (by simp)]
    simp only [okb, List.all_nil, if_true, List.append_nil]
    by_cases h : (pre.length : Int) = 0
    · rw [if_pos h, decide_eq_true (by omega)]
    · rw [if_neg h]
      congr 1
      rw [decide_eq_decide]
      omega
  | cons x suf ih =>
    intro k pre hp
    simp only [List.length_cons] at hp
    have hl := mid_len pre suf x
    show spec_Share.l0 ((k + (suf.length + 1)) + 1) _ _ _ _ _ = _
    rw [spec_Share.l0, if_pos (by omega), if_pos (by omega), mid_rd, wr64 (a := 2 * m) (by omega), in_f, Option.bind_some]
    by_cases h : 2 * m ≤ x ∧ x ≤ 1073741824
    · rw [decide_eq_true h, if_pos rfl]
      have := ih k (pre ++ [x]) (by simp; omega)
      rw [mid_one pre x 1048576 (by omega) (by omega), mid_next pre suf x]
      have hb : okb m (x :: suf) = okb m suf := by simp only [okb, List.all_cons, h, and_self, decide_true, Bool.true_and]
      rw [hb]
      exact this
    · have hb : okb m (x :: suf) = false := by simp only [okb, List.all_cons, h, decide_false, Bool.false_and]
      rw [hb, decide_eq_false h]
      simp only [Bool.false_eq_true, if_false]
theorem rows_len (m room : Int) (d : Nat) : ∀ l, (rowsOf m room d l).length = d := by
  induction d with
  | zero => intro l; rfl
  | succ d ih => intro l; simp [rowsOf, ih]
theorem rows_small (m room : Int) (d : Nat) : ∀ l, l.length ≤ 64 → small (rowsOf m room d l) := by
  induction d with
  | zero => intro l _ r hr; cases hr
  | succ d ih =>
    intro l hl r hr
    rw [rowsOf] at hr
    rcases List.mem_cons.1 hr with rfl | hr
    · simpa using hl
    · exact ih _ (by simpa using hl) r hr
theorem impl_bad {k : Nat} {m room n : Int} (l : List Int) (h : ¬ ((1 ≤ m ∧ m ≤ 65535) ∧ (1 ≤ room ∧ room ≤ 1073741824) ∧ 0 ≤ n ∧ n ≤ 2000)) : impl_Share.f (k + 1) m room l n = some ([], 1) := by
  unfold impl_Share.f
  have j : impl_Share.j0 (k + 1) m room l n true = some ([], 1) := by rw [impl_Share.j0, if_pos rfl]
  rw [j]
  by_cases c : n > 2000
  · rw [decide_eq_true c, j]
    simp only [ite_self]
  · repeat' split
    all_goals first | rfl | (exfalso; omega)
theorem spec_bad {k : Nat} {m room n : Int} (l : List Int) (h : ¬ ((1 ≤ m ∧ m ≤ 65535) ∧ (1 ≤ room ∧ room ≤ 1073741824) ∧ 0 ≤ n ∧ n ≤ 2000)) : spec_Share.f (k + 1) m room l n = some ([], 1) := by
  unfold spec_Share.f
  have j : spec_Share.j0 (k + 1) m room l n true = some ([], 1) := by rw [spec_Share.j0, if_pos rfl]
  rw [in_f, Option.bind_some]
  by_cases c1 : 1 ≤ m ∧ m ≤ 65535
  · rw [decide_eq_true c1, if_pos rfl, in_f, Option.bind_some]
    by_cases c2 : 1 ≤ room ∧ room ≤ 1073741824
    · rw [decide_eq_true c2, if_pos rfl, in_f, Option.bind_some, decide_eq_false (by omega)]
      exact j
    · rw [decide_eq_false c2, if_neg (by decide)]
      exact j
  · rw [decide_eq_false c1, if_neg (by decide)]
    exact j
theorem both (m room : Int) (l : List Int) (n : Int) (hl : l.length ≤ 1048576) (k : Nat) : ∃ R c, small R ∧ R.length ≤ 2000 ∧ spec_Share.f (k + 300000 + (l.length + 1) + 1) m room l n = some (R, c) ∧ impl_Share.f (k + 300000 + (l.length + 1) + 1) m room l n = some (R, c) := by
  by_cases h : (1 ≤ m ∧ m ≤ 65535) ∧ (1 ≤ room ∧ room ≤ 1073741824) ∧ 0 ≤ n ∧ n ≤ 2000
  · obtain ⟨hm, hr, hn⟩ := h
    obtain ⟨n, rfl⟩ : ∃ z : Nat, n = (z : Int) := ⟨n.toNat, by omega⟩
    have hi : impl_Share.f (k + 300000 + (l.length + 1) + 1) m room l n = if okb m l = true then impl_Share.j2 (k + 300000) room n (l.map (nF m)) (decide (¬ (1 ≤ l.length ∧ l.length ≤ 64))) else some ([], 1) := by
      unfold impl_Share.f
      rw [if_neg (by omega), if_neg (by omega), if_neg (by omega), if_neg (by omega), if_neg (by omega), decide_eq_false (by omega), impl_Share.j0, if_neg (by decide)]
      exact l0_f hm room n l (k + 300000) [] (by simpa using hl)
    have hp : spec_Share.f (k + 300000 + (l.length + 1) + 1) m room l n = if okb m l = true then spec_Share.j2 (k + 300000) m room l n (decide (¬ (1 ≤ l.length ∧ l.length ≤ 64))) else some ([], 1) := by
      unfold spec_Share.f
      rw [in_f, Option.bind_some, decide_eq_true hm, if_pos rfl, in_f, Option.bind_some, decide_eq_true hr, if_pos rfl, in_f, Option.bind_some, decide_eq_true (show 0 ≤ (n : Int) ∧ (n : Int) ≤ 2000 by omega), Bool.not_true, spec_Share.j0, if_neg (by decide)]
      exact p0_f hm room n l (k + 300000) [] (by simpa using hl)
    rw [hi, hp]
    by_cases c : okb m l = true
    · rw [if_pos c, if_pos c]
      by_cases c2 : 1 ≤ l.length ∧ l.length ≤ 64
      · rw [decide_eq_false (by simpa using c2)]
        have hL : okL m l := by
          intro x hx
          have := List.all_eq_true.1 c x hx
          simpa using this
        have hF : okF m (l.map (nF m)) := by
          intro x hx
          obtain ⟨y, hy, rfl⟩ := List.mem_map.1 hx
          have := hL y hy
          exact ⟨rfl, rfl, hm, Int.le_refl _, this.1, this.2⟩
        refine ⟨rowsOf m room n l, 0, rows_small m room n l c2.2, by rw [rows_len]; omega, ?_, ?_⟩
        · show spec_Share.j2 ((k + 299999) + 1) _ _ _ _ _ = _
          rw [spec_Share.j2, if_neg (by decide), Option.bind_some, if_pos (by simp; omega), List.nil_append]
          have := p1_f hm room n (by omega) n (k + 299999) 0 l [] (by omega) (by omega) hL c2.2 rfl
          simpa using this
        · show impl_Share.j2 ((k + 299999) + 1) _ _ _ _ = _
          rw [impl_Share.j2, if_neg (by decide)]
          have := l1_f (m := m) room n (by omega) n (k + 299999) 0 (l.map (nF m)) [] (by omega) (by omega) hF (by simpa using c2.2) rfl
          simp only [List.map_map, List.nil_append] at this
          rw [show ((·.f1) ∘ nF m : Int → Int) = id from rfl, List.map_id] at this
          exact this
      · rw [decide_eq_true (by simpa using c2)]
        refine ⟨[], 8, fun r hr => by (cases hr), by simp, ?_, ?_⟩
        · show spec_Share.j2 ((k + 299999) + 1) _ _ _ _ _ = _
          rw [spec_Share.j2, if_pos rfl]
        · show impl_Share.j2 ((k + 299999) + 1) _ _ _ _ = _
          rw [impl_Share.j2, if_pos rfl]
    · rw [if_neg c, if_neg c]
      exact ⟨[], 1, fun r hr => by (cases hr), by simp, rfl, rfl⟩
  · exact ⟨[], 1, fun r hr => by (cases hr), by simp, spec_bad l h, impl_bad l h⟩
theorem FnExactShare : laws_FnExactShare.Pure := by
  intro a0 a1 l2 a3 _ _ _ _ _ _ hl
  have hl' : l2.length ≤ 1048576 := by omega
  obtain ⟨R, c, hs, hr, e1, e2⟩ := both a0 a1 l2 a3 hl' 0
  refine ⟨_, l2, R, R, c, 1 + (l2.length : Int), mkI 1 l2.length, endR 1 R, mkR 1 R, toI_f hl' (by omega), e1, e2, eqS_f hs hr (by omega), eqI_f hl' (by omega), markI_f hl' (by omega) (by omega) (by omega), by omega, markS_f hs hr (by omega), heldS_f hs hr (by omega), by have := endR_le R 1; omega⟩

end Go.Proofs.Ytkfbcmbemihbnaa.Pure
