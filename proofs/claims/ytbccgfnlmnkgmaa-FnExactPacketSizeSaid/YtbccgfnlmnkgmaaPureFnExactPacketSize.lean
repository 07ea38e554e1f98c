/- PacketSize of the program returns what PacketSize of the reference returns, for all packets, and leaves its argument as it was; without conditions. -/
import Derived.Test.YtbccgfnlmnkgmaaPFnExactPacketSizex2
set_option linter.unusedVariables false
set_option linter.unusedSimpArgs false
namespace Go.Proofs.Ytbccgfnlmnkgmaa.Pure
open Go.RowKit Go.Proofs.Ytbccgfnlmnkgmaa.PFnExactPacketSize Go.Proofs.YtbccgfnlmnkgmaaW.PrintWords Go.Proofs.YtbccgfnlmnkgmaaW.PrintLast

/-! ### base -/
theorem wf64 {a : Int} (h : (Lit.int .i64 a).wf = true) : -9223372036854775808 ≤ a ∧ a ≤ 9223372036854775807 := by
  have h1 : IntKind.i64.min = -9223372036854775808 := by decide
  have h2 : IntKind.i64.max = 9223372036854775807 := by decide
  simp only [Lit.wf, Bool.and_eq_true, decide_eq_true_eq] at h
  omega
theorem tm_pos {a : Int} (n : Int) (h : 0 ≤ a) : Int.tmod a n = a % n := Int.tmod_eq_emod_of_nonneg h
theorem tm_neg {a : Int} (n : Int) (h : a ≤ 0) : Int.tmod a n = -((-a) % n) := by
  have := Int.neg_tmod (-a) n
  rw [Int.neg_neg] at this
  rw [this, Int.tmod_eq_emod_of_nonneg (by omega)]
theorem td_pos {a : Int} (n : Int) (h : 0 ≤ a) : Int.tdiv a n = a / n := Int.tdiv_eq_ediv_of_nonneg h
theorem wr64 {a : Int} (h : -9223372036854775808 ≤ a ∧ a ≤ 9223372036854775807) : wrap64 a = a := by
  unfold wrap64
  omega
theorem dec_eq {p : Prop} [Decidable p] {b : Bool} (h : b = true ↔ p) : some b = some (decide p) := by
  rw [Option.some.injEq, Bool.eq_iff_iff, decide_eq_true_eq]
  exact h
theorem ite_dec (p q : Prop) [Decidable p] [Decidable q] : (if p then some (decide q) else some false) = some (decide (p ∧ q)) := by
  by_cases h : p <;> simp [h]
theorem beq_dec (a b : Int) : (a == b) = decide (a = b) := by
  rw [Bool.eq_iff_iff]
  simp

/-! ### addr0 -/
theorem in_f (a l h : Int) : spec_l01In.f a l h = some (decide (l ≤ a ∧ a ≤ h)) := by
  unfold spec_l01In.f
  by_cases h1 : a ≥ l
  · rw [if_pos h1]; congr 1; rw [decide_eq_decide]; omega
  · rw [if_neg h1]; congr 1; rw [eq_comm, decide_eq_false_iff_not]; omega

/-! ### addr -/
theorem addrOK_f (a : Int) : spec_l02AddrOK.f a = some (decide (0 ≤ a ∧ a ≤ 4294967295)) := by
  unfold spec_l02AddrOK.f
  rw [in_f]
  rfl
theorem isAddr_f (a : Int) : impl_isAddr.f a = some (decide (0 ≤ a ∧ a ≤ 4294967295)) := by
  unfold impl_isAddr.f
  by_cases h1 : a ≥ 0
  · rw [if_pos h1]; congr 1; rw [decide_eq_decide]; omega
  · rw [if_neg h1]; congr 1; rw [eq_comm, decide_eq_false_iff_not]; omega

/-! ### ip -/
theorem tm8 (a : Int) : (Int.tmod a 8 = 0) ↔ a % 8 = 0 := by
  rcases Int.le_total 0 a with h | h
  · rw [tm_pos _ h]
  · rw [tm_neg _ h]
    omega
def okI (tos id off ttl proto src dst : Int) (o : List Int) : Prop := (0 ≤ tos ∧ tos ≤ 255) ∧ (0 ≤ ttl ∧ ttl ≤ 255) ∧ (0 ≤ proto ∧ proto ≤ 255) ∧ (0 ≤ id ∧ id ≤ 65535) ∧ (0 ≤ off ∧ off ≤ 65528) ∧ off % 8 = 0 ∧ (0 ≤ src ∧ src ≤ 4294967295) ∧ (0 ≤ dst ∧ dst ≤ 4294967295) ∧ (o.length : Int) ≤ 40 ∧ (o.length : Int) % 4 = 0
instance (tos id off ttl proto src dst : Int) (o : List Int) : Decidable (okI tos id off ttl proto src dst o) := by unfold okI; exact inferInstance
theorem okI_spec (tos id : Int) (df mf : Bool) (off ttl proto src dst : Int) (o p : List Int) : spec_l05OK.f tos id df mf off ttl proto src dst o p = some (decide (okI tos id off ttl proto src dst o)) := by
  unfold spec_l05OK.f
  simp only [in_f, addrOK_f, Option.bind_some, decide_eq_true_eq, tm8, beq_dec, ite_dec]
  apply dec_eq
  rw [decide_eq_true_eq]
  unfold okI
  omega
theorem okI_impl (tos id : Int) (df mf : Bool) (off ttl proto src dst : Int) (o p : List Int) : impl_okIP.f tos id df mf off ttl proto src dst o p = some (decide (okI tos id off ttl proto src dst o)) := by
  unfold impl_okIP.f
  simp only [isAddr_f, Option.bind_some, decide_eq_true_eq, tm8, beq_dec, ite_dec]
  apply dec_eq
  rw [decide_eq_true_eq]
  unfold okI
  omega

/-! ### lists -/
theorem rd_at {xs : List Int} {i : Nat} (h : i < xs.length) : rd xs (i : Int) = xs[i] := by
  unfold rd
  rw [Int.toNat_natCast, List.getD_eq_getElem?_getD, List.getElem?_eq_getElem h]
  rfl
theorem wr_succ {i n : Nat} (h : i < n) (hn : n ≤ 281474976710656) : wrap64 ((i : Int) + 1) = ((i + 1 : Nat) : Int) := by
  rw [wr64 (by omega)]
  omega
theorem maxLen_le {n : Nat} (h : n ≤ 1048576) : n ≤ 281474976710656 := by omega

/-! ### tobytes -/
theorem toB_l (x0 : List Int) (hn : x0.length ≤ 281474976710656) (d : Nat) : ∀ (k i : Nat) (x3 : List Int), i + d = x0.length → d < k → x3.length = x0.length → (∀ j, j < i → x3[j]? = x0[j]?) → laws_toByteS.l0 k x0 x3 (i : Int) = some x0 := by
  induction d with
  | zero =>
    intro k i x3 hi hk hl he
    obtain ⟨k, rfl⟩ : ∃ m, k = m + 1 := ⟨k - 1, by omega⟩
    simp only [laws_toByteS.l0]
    rw [if_neg (by omega)]
    congr 1
    apply List.ext_getElem?
    intro j
    by_cases hj : j < i
    · exact he j hj
    · rw [List.getElem?_eq_none (by omega), List.getElem?_eq_none (by omega)]
  | succ d ih =>
    intro k i x3 hi hk hl he
    obtain ⟨k, rfl⟩ : ∃ m, k = m + 1 := ⟨k - 1, by omega⟩
    simp only [laws_toByteS.l0]
    rw [if_pos (by omega), if_pos (by omega), if_pos (by omega), wr_succ (n := x0.length) (by omega) hn]
    refine ih k (i + 1) _ (by omega) (by omega) (by simp [hl]) ?_
    intro j hj
    rw [Int.toNat_natCast]
    by_cases e : j = i
    · subst e
      rw [List.getElem?_set_self (by omega), rd_at (by omega), List.getElem?_eq_getElem (by omega)]
    · rw [List.getElem?_set_ne (by omega)]
      exact he j (by omega)
theorem toB_f {l : List Int} (hn : l.length ≤ 281474976710656) {k : Nat} (hk : l.length < k) : laws_toByteS.f k l = some l := by
  unfold laws_toByteS.f
  rw [if_pos (by omega), if_pos (by simpa using hn), Int.toNat_natCast]
  exact toB_l l hn l.length k 0 _ (by omega) hk (by simp) (fun j hj => absurd hj (by omega))

/-! ### eqbytes -/
theorem eqB_l (x0 x1 : List Int) (hn : x0.length ≤ 281474976710656) (hl : x0.length = x1.length) (d : Nat) : ∀ (k i : Nat), i + d = x0.length → d < k → (∀ j, j < i → x0[j]? = x1[j]?) → laws_eqByteS.l0 k x0 x1 (i : Int) = some (decide (x0 = x1)) := by
  induction d with
  | zero =>
    intro k i hi hk he
    obtain ⟨k, rfl⟩ : ∃ m, k = m + 1 := ⟨k - 1, by omega⟩
    simp only [laws_eqByteS.l0]
    rw [if_neg (by omega)]
    have : x0 = x1 := by
      apply List.ext_getElem?
      intro j
      by_cases hj : j < i
      · exact he j hj
      · rw [List.getElem?_eq_none (by omega), List.getElem?_eq_none (by omega)]
    simp [this]
  | succ d ih =>
    intro k i hi hk he
    obtain ⟨k, rfl⟩ : ∃ m, k = m + 1 := ⟨k - 1, by omega⟩
    simp only [laws_eqByteS.l0]
    rw [if_pos (by omega), if_pos (by omega), if_pos (by omega), wr_succ (n := x0.length) (by omega) hn, rd_at (by omega), rd_at (by omega)]
    by_cases e : x0[i] = x1[i]
    · rw [if_pos e]
      refine ih k (i + 1) (by omega) (by omega) ?_
      intro j hj
      by_cases ej : j = i
      · subst ej
        rw [List.getElem?_eq_getElem (by omega), List.getElem?_eq_getElem (by omega), e]
      · exact he j (by omega)
    · rw [if_neg e]
      have : x0 ≠ x1 := fun h => by
        subst h
        exact e rfl
      simp [this]
theorem eqB_f {l m : List Int} (hn : l.length ≤ 281474976710656) {k : Nat} (hk : l.length < k) : laws_eqByteS.f k l m = some (decide (l = m)) := by
  unfold laws_eqByteS.f
  by_cases h : l.length = m.length
  · rw [if_pos (by omega)]
    exact eqB_l l m hn h l.length k 0 (by omega) hk (fun j hj => absurd hj (by omega))
  · rw [if_neg (by omega)]
    have : l ≠ m := fun e => h (by rw [e])
    simp [this]

/-! ### szbytes -/
theorem szB_f {l : List Int} {a : Int} (ha : 0 ≤ a ∧ a ≤ 1048576) (hl : l.length ≤ 9223372036854775807) : laws_szByteS.f l a = some (if (l.length : Int) > a then -1 else a - (l.length : Int)) := by
  unfold laws_szByteS.f
  rw [wr64 (by omega)]
  by_cases h : (l.length : Int) > a
  · rw [if_pos (by omega), if_pos h]
  · rw [if_neg (by omega), if_neg h]
theorem len_of {l : List Int} (h : l.length ≤ maxLen) : l.length ≤ 9223372036854775807 := by
  unfold maxLen at h
  exact h

/-! ### szpacket -/
theorem szP_f (tos id : Int) (df mf : Bool) (off ttl proto src dst : Int) (o p : List Int) (ho : o.length ≤ 9223372036854775807) (hp : p.length ≤ 9223372036854775807) : ∃ r, laws_szPacket.f tos id df mf off ttl proto src dst o p 1048576 = some r ∧ (¬ r < 0 → o.length + p.length ≤ 1048576) := by
  unfold laws_szPacket.f
  rw [szB_f (by omega) ho]
  simp only [Option.bind_some]
  by_cases h1 : (o.length : Int) > 1048576
  · simp only [h1, if_true]
    exact ⟨_, rfl, fun h => absurd h (by omega)⟩
  · rw [if_neg h1]
    rw [if_neg (by omega), szB_f (by omega) hp]
    simp only [Option.bind_some]
    by_cases h2 : (p.length : Int) > 1048576 - (o.length : Int)
    · simp only [h2, if_true]
      exact ⟨_, rfl, fun h => absurd h (by omega)⟩
    · rw [if_neg h2, if_neg (by omega)]
      exact ⟨_, rfl, fun _ => by omega⟩

/-! ### topacket -/
theorem toP_f (tos id : Int) (df mf : Bool) (off ttl proto src dst : Int) (o p : List Int) {k : Nat} (h : o.length + p.length ≤ 1048576) (hk : o.length + p.length < k) : laws_toPacket.f k tos id df mf off ttl proto src dst o p = some (tos, id, df, mf, off, ttl, proto, src, dst, o, p) := by
  unfold laws_toPacket.f
  rw [toB_f (by omega) (by omega), toB_f (by omega) (by omega)]
  rfl
theorem eqP_same (tos id : Int) (df mf : Bool) (off ttl proto src dst : Int) (o p : List Int) {k : Nat} (h : o.length + p.length ≤ 1048576) (hk : o.length + p.length < k) : laws_eqPacket.f k tos id df mf off ttl proto src dst o p tos id df mf off ttl proto src dst o p = some true := by
  unfold laws_eqPacket.f
  rw [eqB_f (by omega) (by omega), eqB_f (by omega) (by omega)]
  simp

/-! ### the law -/
theorem FnExactPacketSize : ∀ (tos id : Int) (df mf : Bool) (off ttl proto src dst : Int) (o p : List Int), (Lit.int .i64 tos).wf = true → (Lit.int .i64 id).wf = true → (Lit.int .i64 off).wf = true → (Lit.int .i64 ttl).wf = true → (Lit.int .i64 proto).wf = true → (Lit.int .i64 src).wf = true → (Lit.int .i64 dst).wf = true →
    o.length ≤ maxLen → (∀ x ∈ o, (Lit.int .u8 x).wf = true) → p.length ≤ maxLen → (∀ x ∈ p, (Lit.int .u8 x).wf = true) → ∃ k, laws_FnExactPacketSize.f k tos id df mf off ttl proto src dst o p = some true := by
  intro tos id df mf off ttl proto src dst o p _ _ _ _ _ _ _ ho _ hp _
  obtain ⟨r, hr, hs⟩ := szP_f tos id df mf off ttl proto src dst o p (len_of ho) (len_of hp)
  refine ⟨o.length + p.length + 1, ?_⟩
  unfold laws_FnExactPacketSize.f
  rw [hr]
  simp only [Option.bind_some]
  by_cases h : r < 0
  · rw [if_pos h]
  · have hl := hs h
    rw [if_neg h, toP_f _ _ _ _ _ _ _ _ _ _ _ hl (by omega)]
    simp only [Option.bind_some]
    have e : spec_PacketSize.f tos id df mf off ttl proto src dst o p = impl_PacketSize.f tos id df mf off ttl proto src dst o p := by
      unfold spec_PacketSize.f impl_PacketSize.f
      rw [okI_spec, okI_impl]
    obtain ⟨q, hq⟩ : ∃ q, impl_PacketSize.f tos id df mf off ttl proto src dst o p = some q := by
      unfold impl_PacketSize.f
      rw [okI_impl]
      simp only [Option.bind_some]
      split <;> exact ⟨_, rfl⟩
    rw [e, hq]
    simp only [Option.bind_some, if_true]
    rw [eqP_same _ _ _ _ _ _ _ _ _ _ _ hl (by omega)]
    simp

end Go.Proofs.Ytbccgfnlmnkgmaa.Pure
