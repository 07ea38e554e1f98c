-- Written for this claim by a program of this session (wip/mkprint.py: the print, turned at a few places). Not trusted: Lean checks it.
import Derived.Test.YtkfbcmbemihbnaaPFnExactBoardTimeoutx0
import Derived.Test.YtkfbcmbemihbnaaPFnExactBoardTimeoutx1
namespace Go.Proofs.Ytkfbcmbemihbnaa.PFnExactBoardTimeout
open Go.RowKit Go.Proofs.YtkfbcmbemihbnaaW.PrintWords Go.Proofs.YtkfbcmbemihbnaaW.PrintLast Go.Proofs.YtkfbcmbemihbnaaW.PrintMore
attribute [local go_sem] max2_int min2_int max_two min_two max_three min_three max_four min_four   -- for this text's walks alone
set_option linter.unusedVariables false
set_option linter.unusedSimpArgs false

/-! ### laws_toPieceS: function 85 -/
def laws_toPieceS.l0 : Nat → List (S168) → List (S85) → Int → Option ((List (S85)))
  | 0, _, _, _ => none
  | k + 1, x0, x3, x4 => if x4 < (x0.length : Int) then (if 0 ≤ x4 then ((laws_toPiece.f ((rd_T168 x0 x4).f0) ((rd_T168 x0 x4).f1) ((rd_T168 x0 x4).f2) ((rd_T168 x0 x4).f3) ((rd_T168 x0 x4).f4) ((rd_T168 x0 x4).f5)).bind fun bt133 => (if x4 < (x3.length : Int) then (laws_toPieceS.l0 k x0 (x3.set (x4 : Int).toNat (⟨bt133.1, bt133.2.1, bt133.2.2.1, bt133.2.2.2.1, bt133.2.2.2.2.1, bt133.2.2.2.2.2⟩ : S85)) (wrap64 (x4 + 1))) else (none))) else (none)) else (some x3)
def laws_toPieceS.f (k : Nat) (l0 : List (S168)) : Option ((List (S85))) := if 0 ≤ (l0.length : Int) then (if ((l0.length : Int) : Int).toNat ≤ 7036874417766 then (laws_toPieceS.l0 k l0 (List.replicate ((l0.length : Int) : Int).toNat z85) 0) else (none)) else (none)
theorem laws_toPieceS.mono_l : ∀ k, (∀ y0 y1 y2, LeO (laws_toPieceS.l0 k y0 y1 y2) (laws_toPieceS.l0 (k + 1) y0 y1 y2))
  | 0 => fun _ _ _ r h => by simp [laws_toPieceS.l0] at h
  | k + 1 => by
    have ih0 := laws_toPieceS.mono_l k
    · intro y0 y1 y2
      unfold laws_toPieceS.l0
      repeat' first
      | (with_reducible exact ih0 _ _ _)
      | (with_reducible exact LeO.refl _)
      | (with_reducible exact LeO.none _)
      | (with_reducible refine LeO.ite ?_ ?_)
      | (with_reducible refine LeO.bind ?_ (fun _ => ?_))
      | exact ih0 _ _ _
      | exact LeO.none _
      | refine LeO.ite ?_ ?_
      | refine LeO.bind ?_ (fun _ => ?_)
theorem laws_toPieceS.mono : ∀ a0 k, LeO (laws_toPieceS.f k a0) (laws_toPieceS.f (k + 1) a0) := by
  intro a0 k
  have ih0 := laws_toPieceS.mono_l k
  unfold laws_toPieceS.f
  repeat' first
      | (with_reducible exact ih0 _ _ _)
      | (with_reducible exact LeO.refl _)
      | (with_reducible exact LeO.none _)
      | (with_reducible refine LeO.ite ?_ ?_)
      | (with_reducible refine LeO.bind ?_ (fun _ => ?_))
      | exact ih0 _ _ _
      | exact LeO.none _
      | refine LeO.ite ?_ ?_
      | refine LeO.bind ?_ (fun _ => ?_)
set_option maxHeartbeats 60000000 in
set_option maxRecDepth 100000 in
theorem laws_toPieceS.calls (k : Nat) (A0 : Option Addr) (c0 : Nat) (l0 : List (S168)) (r : List (S85)) (w : World) (hr0 : Kd.C k168 w A0 l0.length l0) (hc0 : l0.length ≤ c0) (h : laws_toPieceS.f k l0 = some r) :
    Calls Try.prog 85 #[.slice A0 l0.length c0] w fun e w' => ∃ v0_ : Value, e = .returned (v0_) ∧ Kd.R k85 85 w' w.heap.size (fun _ => True) v0_ r ∧ Below w.heap.size w w' := by
  have hu168 := Try.underlying168
  have hu85 := Try.underlying85
  have HR0 := Aside0.mk hr0
  have HC0 := Aside0.mk hc0
  clear hr0 hc0
  have HB := Aside0.mk (Below.refl w.heap.size w)
  have H : (if 0 ≤ (l0.length : Int) then (if ((l0.length : Int) : Int).toNat ≤ 7036874417766 then (laws_toPieceS.l0 k l0 (List.replicate ((l0.length : Int) : Int).toNat z85) 0) else (none)) else (none)) = some r := h
  clear h
  by_cases c2 : 0 ≤ (l0.length : Int)
  · rw [if_pos c2] at H
    have c2b0 := eq_true c2
    have c2b1 : decide (0 ≤ (l0.length : Int)) = true := decide_eq_true c2
    clear c2
    by_cases c3 : ((l0.length : Int) : Int).toNat ≤ 7036874417766
    · rw [if_pos c3] at H
      have c3b0 := eq_true c3
      have c3b1 : decide (((l0.length : Int) : Int).toNat ≤ 7036874417766) = true := decide_eq_true c3
      clear c3
      obtain ⟨y129, hy129⟩ : ∃ y_ : List (S85), y_ = (List.replicate ((l0.length : Int) : Int).toNat z85) := ⟨_, rfl⟩
      replace H : (laws_toPieceS.l0 k l0 y129 0) = some r := by first | (rw [hy129]; with_reducible exact H) | (have H2_ := (Option.bind_some _ _).symm.trans H; rw [hy129]; with_reducible exact H2_) | (have H2_ := (Option.bind_some _ _).symm.trans H; with_reducible exact H2_) | with_reducible exact H | (rw [hy129]; exact H) | exact H
      have Ny129 := Aside0.mk hy129
      clear hy129
      have H' := Aside0.mk H
      clear H
      go_enter Try.func85, Try.ntmps85
      go_wp2_with (first | ((with_reducible refine gate_dst (N := 7) rfl ?_); refine Kd.R_make k85 _ 85 rfl (N := 7) rfl 61 _ _ rfl (l0.length : Int) rfl rfl Try.underlying61 (.agg #[(.int .i64 0), (.int .i64 0), (.int .i64 0), (.int .i64 0), (.bool false), (.bool false)]) 40 info85 rfl (by decide) (by omega) z85 (ok := fun _ => True) (okp := fun _ => True) (k85_mkM _ _ _ z85 ) (fun _ hk => hk) trivial (of_decide_eq_true (by first | (with_reducible assumption) | assumption)) (Nat.le_trans (Nat.mul_le_mul_right _ (of_decide_eq_true (by first | (with_reducible assumption) | assumption) : (l0.length : Int).toNat ≤ 7036874417766)) (by omega)) (Below.refl _ _) (Nat.le_refl _) ?_; intro v130 w1001 ho1002 hb hg_ hnew_; clear hg_ hnew_; (first | rw [← Ny129.out] at ho1002 | (simp only [Int.reduceToNat] at ho1002; rw [← Ny129.out] at ho1002)); have n0_ := Aside0.mk (Kd.R_lower ho1002 (below_size wB)); have n1_ := Aside0.mk (below_step wB hb); clear HB; have HO131 := n0_; have HB := n1_; clear n0_ n1_; clear hb ho1002))
      go_loopg [4] k (fun kq v4 w' => ∃ (x3_1 : List (S85)) (x4_1 : Int), v4 = .int .i64 x4_1 ∧ Aside0 (laws_toPieceS.l0 kq l0 x3_1 x4_1 = some r) ∧ Aside0 (kq ≤ k) ∧ Aside0 (Kd.R k85 85 w' w.heap.size (fun _ => True) v130 x3_1) ∧ Aside0 (Below w.heap.size w w'))
      case atStart => exact ⟨(y129), (0), (by first | rfl | (simp; done) | (simp [*]; done)), H', ⟨Nat.le_refl _⟩, ⟨Rh HO131⟩, ⟨wB⟩⟩
      case round =>
        clear H'
        try clear c2
        try clear c2b0
        try clear c2b1
        try clear p2
        try clear c3
        try clear c3b0
        try clear c3b1
        obtain ⟨x3_1, x4_1, rfl, HA, HK1, HO_3, HB⟩ := hrel
        cases gk with
        | zero => exact absurd HA.out (by simp [laws_toPieceS.l0])
        | succ k1 =>
          have H := HA.out
          clear HA
          simp only [laws_toPieceS.l0] at H
          by_cases c1003 : x4_1 < (l0.length : Int)
          · rw [if_pos c1003] at H
            have c1003b0 : decide (x4_1 < (l0.length : Int)) = true := decide_eq_true c1003
            clear c1003
            by_cases c1004 : 0 ≤ x4_1
            · rw [if_pos c1004] at H
              have c1004b0 : decide (0 ≤ x4_1) = true := decide_eq_true c1004
              clear c1004
              replace H := Option.bind_eq_some_iff.mp H
              obtain ⟨⟨t133, t134, t135, t136, t137, t138⟩, A10050, H⟩ := H
              replace H : (if x4_1 < (x3_1.length : Int) then (laws_toPieceS.l0 k1 l0 (x3_1.set (x4_1 : Int).toNat (⟨t133, t134, t135, t136, t137, t138⟩ : S85)) (wrap64 (x4_1 + 1))) else (none)) = some r := H
              have A1005 := Aside0.mk A10050
              clear A10050
              by_cases c1006 : x4_1 < (x3_1.length : Int)
              · rw [if_pos c1006] at H
                have c1006b0 : decide (x4_1 < (x3_1.length : Int)) = true := decide_eq_true c1006
                clear c1006
                obtain ⟨y139, hy139⟩ : ∃ y_ : List (S85), y_ = (x3_1.set (x4_1 : Int).toNat (⟨t133, t134, t135, t136, t137, t138⟩ : S85)) := ⟨_, rfl⟩
                replace H : (laws_toPieceS.l0 k1 l0 y139 (wrap64 (x4_1 + 1))) = some r := by first | (rw [hy139]; with_reducible exact H) | (have H2_ := (Option.bind_some _ _).symm.trans H; rw [hy139]; with_reducible exact H2_) | (have H2_ := (Option.bind_some _ _).symm.trans H; with_reducible exact H2_) | with_reducible exact H | (rw [hy139]; exact H) | exact H
                have Ny139 := Aside0.mk hy139
                clear hy139
                have H' := Aside0.mk H
                clear H
                have p132 : 0 ≤ (x4_1 : Int) := of_decide_eq_true (by first | (with_reducible assumption) | assumption)
                have q132 : x4_1 < (l0.length : Int) := of_decide_eq_true (by first | (with_reducible assumption) | assumption)
                obtain ⟨ad132, e132, hx132_0, hx132_1, hx132_2, hx132_3, hx132_4, hx132_5⟩ := at_T168 HR0.out x4_1 p132 q132
                cases e132
                replace hx132_0 := (HB.out.cell (World.block_lt_of_cell? w _ hx132_0)).trans hx132_0
                replace hx132_1 := (HB.out.cell (World.block_lt_of_cell? w _ hx132_1)).trans hx132_1
                replace hx132_2 := (HB.out.cell (World.block_lt_of_cell? w _ hx132_2)).trans hx132_2
                replace hx132_3 := (HB.out.cell (World.block_lt_of_cell? w _ hx132_3)).trans hx132_3
                replace hx132_4 := (HB.out.cell (World.block_lt_of_cell? w _ hx132_4)).trans hx132_4
                replace hx132_5 := (HB.out.cell (World.block_lt_of_cell? w _ hx132_5)).trans hx132_5
                replace p132 := eq_true p132
                replace q132 := eq_true q132
                go_wp2_with (first | ((with_reducible refine gate_callee (f := 133) rfl ?_); refine goesL_ (some 20) rfl rfl Try.func133 (by kernel_rfl) rfl #[.agg #[.int .i64 ((rd_T168 l0 x4_1).f0), .int .i64 ((rd_T168 l0 x4_1).f1), .int .i64 ((rd_T168 l0 x4_1).f2), .int .i64 ((rd_T168 l0 x4_1).f3), .bool ((rd_T168 l0 x4_1).f4), .bool ((rd_T168 l0 x4_1).f5)]] rfl wT ?_; (with_reducible refine (laws_toPiece.calls ((rd_T168 l0 x4_1).f0) ((rd_T168 l0 x4_1).f1) ((rd_T168 l0 x4_1).f2) ((rd_T168 l0 x4_1).f3) ((rd_T168 l0 x4_1).f4) ((rd_T168 l0 x4_1).f5) t133 t134 t135 t136 t137 t138 _ A1005.out).mono ?_); rintro e w2001 ⟨rfl, hb⟩; refine ⟨_, rfl, ?_⟩; have n0_ := Aside0.mk (Kd.R_below (Rh HO_3) hb); have n1_ := Aside0.mk (below_step wB hb); clear HO_3; clear HB; have HO_3 := n0_; have HB := n1_; clear n0_ n1_; (try clear hb); (try clear hb2); (try clear hk); (try clear hi); have p1007 : 0 ≤ (x4_1 : Int) := of_decide_eq_true (by first | (with_reducible assumption) | assumption); have q1007 : (x4_1 : Int) < ((x3_1.length : Int) : Int) := of_decide_eq_true (by first | (with_reducible assumption) | assumption); obtain ⟨go1007, co1007, eo1007, gb1007, gl1007, cl1007, HG1007⟩ := Kd.R_form HO_3.out (by omega); (first | cases eo1007 | (injection eo1007 with ea_ en_ ec_; (first | subst ea_ | (injection ea_ with ea_; subst ea_)); subst ec_; clear en_)); have GB1007 := Aside0.mk gb1007; have GG1007 := Aside0.mk HG1007; clear gb1007 gl1007 HG1007; obtain ⟨ce1007, hcl1007, hM1007, hcc1007, hfr1007⟩ := Kd.R_elem HO_3.out z85 (x4_1 : Int) p1007 q1007; obtain rfl := k85_openM hM1007; have hx1007_0 : w2001.cell? ⟨go1007, (x4_1 : Int).toNat * 6, none⟩ = some (.int .i64 ((rd_T85 x3_1 x4_1).f0)) := hcc1007 0 _ rfl; have hx1007_1 : w2001.cell? ⟨go1007, (x4_1 : Int).toNat * 6 + 1, none⟩ = some (.int .i64 ((rd_T85 x3_1 x4_1).f1)) := hcc1007 1 _ rfl; have hx1007_2 : w2001.cell? ⟨go1007, (x4_1 : Int).toNat * 6 + 2, none⟩ = some (.int .i64 ((rd_T85 x3_1 x4_1).f2)) := hcc1007 2 _ rfl; have hx1007_3 : w2001.cell? ⟨go1007, (x4_1 : Int).toNat * 6 + 3, none⟩ = some (.int .i64 ((rd_T85 x3_1 x4_1).f3)) := hcc1007 3 _ rfl; have hx1007_4 : w2001.cell? ⟨go1007, (x4_1 : Int).toNat * 6 + 4, none⟩ = some (.bool ((rd_T85 x3_1 x4_1).f4)) := hcc1007 4 _ rfl; have hx1007_5 : w2001.cell? ⟨go1007, (x4_1 : Int).toNat * 6 + 5, none⟩ = some (.bool ((rd_T85 x3_1 x4_1).f5)) := hcc1007 5 _ rfl; have hf1007_0 : w2001.frozen? ⟨go1007, (x4_1 : Int).toNat * 6, none⟩ = false := hfr1007 0; have hf1007_1 : w2001.frozen? ⟨go1007, (x4_1 : Int).toNat * 6 + 1, none⟩ = false := hfr1007 1; have hf1007_2 : w2001.frozen? ⟨go1007, (x4_1 : Int).toNat * 6 + 2, none⟩ = false := hfr1007 2; have hf1007_3 : w2001.frozen? ⟨go1007, (x4_1 : Int).toNat * 6 + 3, none⟩ = false := hfr1007 3; have hf1007_4 : w2001.frozen? ⟨go1007, (x4_1 : Int).toNat * 6 + 4, none⟩ = false := hfr1007 4; have hf1007_5 : w2001.frozen? ⟨go1007, (x4_1 : Int).toNat * 6 + 5, none⟩ = false := hfr1007 5; clear hcl1007 hcc1007 hfr1007 hM1007; replace p1007 := eq_true p1007; replace q1007 := eq_true q1007; have HX2002 := Aside0.mk (show Kd.R k85 85 w2001 w.heap.size (fun _ => True) (.slice (some ⟨go1007, 0, none⟩) x3_1.length co1007) x3_1 from (Rh HO_3)); obtain ⟨ce2002, hcl2002, hM2002, hcc2002, hfr2002⟩ := Kd.R_elem HX2002.out z85 (x4_1 : Int) (of_decide_eq_true (by first | (with_reducible assumption) | assumption)) (by have h_ : (x4_1 : Int) < ((x3_1.length : Int) : Int) := of_decide_eq_true (by first | (with_reducible assumption) | assumption); first | exact h_ | (have e_ := (Kd.R_reads' HO_3.out).1; omega) | simpa using h_); obtain rfl := k85_openM hM2002; have HP2002 := Kd.R_seg HX2002.out (x4_1 : Int) (of_decide_eq_true (by first | (with_reducible assumption) | assumption)) (by have h_ : (x4_1 : Int) < ((x3_1.length : Int) : Int) := of_decide_eq_true (by first | (with_reducible assumption) | assumption); first | exact h_ | (have e_ := (Kd.R_reads' HO_3.out).1; omega) | simpa using h_) (seg := [.int .i64 t133, .int .i64 t134, .int .i64 t135, .int .i64 t136, .bool t137, .bool t138]) (j := 0) hcl2002 hcc2002 (show 6 ≤ 6 from by decide) (x' := (⟨t133, t134, t135, t136, t137, t138⟩ : S85)) (k85_mkM _ _ _ (⟨t133, t134, t135, t136, t137, t138⟩ : S85) ) (fun _ hk => hk); have hx2002_0 := hcc2002 0 _ rfl; (try simp only [show (k85).sz = 6 from rfl, Nat.mul_one, Nat.add_zero] at hx2002_0); have hf2002_0 := hfr2002 0; (try simp only [show (k85).sz = 6 from rfl, Nat.mul_one, Nat.add_zero] at hf2002_0); have hx2002_1 := hcc2002 1 _ rfl; (try simp only [show (k85).sz = 6 from rfl, Nat.mul_one, Nat.add_zero] at hx2002_1); have hf2002_1 := hfr2002 1; (try simp only [show (k85).sz = 6 from rfl, Nat.mul_one, Nat.add_zero] at hf2002_1); have hx2002_2 := hcc2002 2 _ rfl; (try simp only [show (k85).sz = 6 from rfl, Nat.mul_one, Nat.add_zero] at hx2002_2); have hf2002_2 := hfr2002 2; (try simp only [show (k85).sz = 6 from rfl, Nat.mul_one, Nat.add_zero] at hf2002_2); have hx2002_3 := hcc2002 3 _ rfl; (try simp only [show (k85).sz = 6 from rfl, Nat.mul_one, Nat.add_zero] at hx2002_3); have hf2002_3 := hfr2002 3; (try simp only [show (k85).sz = 6 from rfl, Nat.mul_one, Nat.add_zero] at hf2002_3); have hx2002_4 := hcc2002 4 _ rfl; (try simp only [show (k85).sz = 6 from rfl, Nat.mul_one, Nat.add_zero] at hx2002_4); have hf2002_4 := hfr2002 4; (try simp only [show (k85).sz = 6 from rfl, Nat.mul_one, Nat.add_zero] at hf2002_4); have hx2002_5 := hcc2002 5 _ rfl; (try simp only [show (k85).sz = 6 from rfl, Nat.mul_one, Nat.add_zero] at hx2002_5); have hf2002_5 := hfr2002 5; (try simp only [show (k85).sz = 6 from rfl, Nat.mul_one, Nat.add_zero] at hf2002_5); clear hcl2002 hcc2002 hfr2002 hM2002) | ((with_reducible refine gate_store (t := 85) (p := 21) rfl ?_); refine store_event (t := 85) (p := 21) (v := ?_) (w1 := ((((((w2001.setCell ⟨go1007, (x4_1 : Int).toNat * 6, none⟩ (.int .i64 t133)).setCell ⟨go1007, (x4_1 : Int).toNat * 6 + 1, none⟩ (.int .i64 t134)).setCell ⟨go1007, (x4_1 : Int).toNat * 6 + 2, none⟩ (.int .i64 t135)).setCell ⟨go1007, (x4_1 : Int).toNat * 6 + 3, none⟩ (.int .i64 t136)).setCell ⟨go1007, (x4_1 : Int).toNat * 6 + 4, none⟩ (.bool t137)).setCell ⟨go1007, (x4_1 : Int).toNat * 6 + 5, none⟩ (.bool t138))) ?hg ?ho ?hn ?hr ?_; (case ho => rfl); (case hg => rfl); (case hn => rfl); (case hr => first | (go_simp; done) | (go_simp; rfl)); intro w2003 hw; have hg : w2001.grownBy w2003 (some go1007) := (by rw [hw]; exact HP2002.2); have hp_ : Kd.R k85 85 w2003 w.heap.size (fun _ => True) (.slice (some ⟨go1007, 0, none⟩) x3_1.length co1007) y139 := (by rw [hw, Ny139.out]; exact HP2002.1); clear HP2002; have n0_ := Aside0.mk (hp_); have n1_ := Aside0.mk ((by rw [hw]; exact below_set (below_set (below_set (below_set (below_set (below_set (HB.out) GB1007.out) GB1007.out) GB1007.out) GB1007.out) GB1007.out) GB1007.out : Below w.heap.size w w2003)); clear HO_3; clear HB; have HO_3 := n0_; have HB := n1_; clear n0_ n1_; clear hg hw hp_))
                go_roundg k1
                case measure => have := HK1.out; omega
                case rel => exact ⟨(y139), (wrap64 (x4_1 + 1)), (by first | rfl | (simp; done) | (simp [*]; done)), H', ⟨by have := HK1.out; omega⟩, ⟨Rh HO_3⟩, ⟨wB⟩⟩
              · rw [if_neg c1006] at H
                exact absurd H (by simp)
            · rw [if_neg c1004] at H
              exact absurd H (by simp)
          · rw [if_neg c1003] at H
            have c1003b0 : decide (x4_1 < (l0.length : Int)) = false := decide_eq_false c1003
            clear c1003
            obtain rfl := Option.some.inj H
            go_wp2
            go_ret
            exact ⟨_, by first | rfl | (simp [errW_none, errW_some] <;> rfl) | (simp [*, errW_none, errW_some] <;> rfl), by (with_reducible repeat (first | apply Kd.R_alloc | apply Kd.R_drewN | apply Kd.R_drew)); exact HO_3.out, wB⟩
    · rw [if_neg c3] at H
      exact absurd H (by simp)
  · rw [if_neg c2] at H
    exact absurd H (by simp)

/-! ### laws_toBoard: function 38 -/
def laws_toBoard.f (k : Nat) (a0_0 : Int) (a0_1 : Int) (l0_2 : List (S168)) : Option (Int × Int × (List (S85))) := (laws_toPieceS.f k l0_2).bind fun t143 => (some (a0_0, a0_1, t143))
theorem laws_toBoard.mono : ∀ a0 a1 a2 k, LeO (laws_toBoard.f k a0 a1 a2) (laws_toBoard.f (k + 1) a0 a1 a2) := by
  intro a0 a1 a2 k
  unfold laws_toBoard.f
  repeat' first
      | (with_reducible exact laws_toPieceS.mono _ _)
      | (with_reducible exact LeO.refl _)
      | (with_reducible exact LeO.none _)
      | (with_reducible refine LeO.ite ?_ ?_)
      | (with_reducible refine LeO.bind ?_ (fun _ => ?_))
      | exact laws_toPieceS.mono _ _
      | exact LeO.none _
      | refine LeO.ite ?_ ?_
      | refine LeO.bind ?_ (fun _ => ?_)
set_option maxHeartbeats 60000000 in
set_option maxRecDepth 100000 in
theorem laws_toBoard.calls (k : Nat) (a0_0 : Int) (a0_1 : Int) (A0_2 : Option Addr) (c0_2 : Nat) (l0_2 : List (S168)) (r1 : Int) (r2 : Int) (r3 : List (S85)) (w : World) (hr0_2 : Kd.C k168 w A0_2 l0_2.length l0_2) (hc0_2 : l0_2.length ≤ c0_2) (h : laws_toBoard.f k a0_0 a0_1 l0_2 = some (r1, r2, r3)) :
    Calls Try.prog 38 #[.agg #[.int .i64 a0_0, .int .i64 a0_1, .slice A0_2 l0_2.length c0_2]] w fun e w' => ∃ v2_ : Value, e = .returned (.agg #[.int .i64 r1, .int .i64 r2, v2_]) ∧ Kd.R k85 85 w' w.heap.size (fun _ => True) v2_ r3 ∧ Below w.heap.size w w' := by
  have hu59 := Try.underlying59
  have hu63 := Try.underlying63
  have HR0_2 := Aside0.mk hr0_2
  have HC0_2 := Aside0.mk hc0_2
  clear hr0_2 hc0_2
  have HB := Aside0.mk (Below.refl w.heap.size w)
  have H : ((laws_toPieceS.f k l0_2).bind fun t143 => (some (a0_0, a0_1, t143))) = some (r1, r2, r3) := h
  clear h
  replace H := Option.bind_eq_some_iff.mp H
  obtain ⟨t143, A20, H⟩ := H
  replace H : (some (a0_0, a0_1, t143)) = some (r1, r2, r3) := H
  have A2 := Aside0.mk A20
  clear A20
  simp only [Option.some.injEq, Prod.mk.injEq] at H
  obtain ⟨rfl, rfl, rfl⟩ := H
  go_enter Try.func38, Try.ntmps38
  go_wp2_with (first | ((with_reducible refine gate_dst (N := 1) rfl ?_); refine box_event ?hg (N := 1) ?hd (cs := #[.int .i64 a0_0, .int .i64 a0_1, .slice A0_2 l0_2.length c0_2]) (t := 59) ?hr ?_; (case hd => rfl); (case hg => rfl); (case hr => first | (go_simp; done) | (go_simp; rfl)); intro gb140 hg w1001 hbox hb; have n0_ := Aside0.mk (below_step wB hb); have n1_ := Aside0.mk (hbox); have n2_ := Aside0.mk ((by rw [hg]; exact (below_size wB) : w.heap.size ≤ gb140)); have n3_ := Aside0.mk ((by rw [hg]; exact (below_size wB) : w.heap.size ≤ gb140)); clear HB; have HB := n0_; have BK140 := n1_; have GW140 := n2_; have GE140 := n3_; clear n0_ n1_ n2_ n3_; clear hb hbox hg) | ((with_reducible refine gate_dst (N := 2) rfl ?_); refine box_event ?hg (N := 2) ?hd (cs := #[.int .i64 0, .int .i64 0, .slice none 0 0]) (t := 63) ?hr ?_; (case hd => rfl); (case hg => rfl); (case hr => first | (go_simp; done) | (go_simp; rfl)); intro gb141 hg w1002 hbox hb; have n0_ := Aside0.mk (blk_below (Bh BK140) hb); have n1_ := Aside0.mk (below_step wB hb); have n2_ := Aside0.mk (hbox); have n3_ := Aside0.mk ((by rw [hg]; exact (below_size wB) : w.heap.size ≤ gb141)); have n4_ := Aside0.mk ((by rw [hg]; exact (below_size wB) : w.heap.size ≤ gb141)); have n5_ := Aside0.mk ((by rw [hg]; exact Nat.ne_of_lt (blk_lt (Bh BK140)) : gb140 ≠ gb141)); have n6_ := Aside0.mk ((by rw [hg]; exact Nat.ne_of_gt (blk_lt (Bh BK140)) : gb141 ≠ gb140)); clear BK140; clear HB; have BK140 := n0_; have HB := n1_; have BK141 := n2_; have GW141 := n3_; have GE141 := n4_; have NB140_141 := n5_; have NB141_140 := n6_; clear n0_ n1_ n2_ n3_ n4_ n5_ n6_; clear hb hbox hg) | ((with_reducible refine gate_dst (N := 3) rfl ?_); refine box_event ?hg (N := 3) ?hd (cs := #[.int .i64 0, .int .i64 0, .slice none 0 0]) (t := 63) ?hr ?_; (case hd => rfl); (case hg => rfl); (case hr => first | (go_simp; done) | (go_simp; rfl)); intro gb142 hg w1003 hbox hb; have n0_ := Aside0.mk (blk_below (Bh BK140) hb); have n1_ := Aside0.mk (blk_below (Bh BK141) hb); have n2_ := Aside0.mk (below_step wB hb); have n3_ := Aside0.mk (hbox); have n4_ := Aside0.mk ((by rw [hg]; exact (below_size wB) : w.heap.size ≤ gb142)); have n5_ := Aside0.mk ((by rw [hg]; exact (below_size wB) : w.heap.size ≤ gb142)); have n6_ := Aside0.mk ((by rw [hg]; exact Nat.ne_of_lt (blk_lt (Bh BK140)) : gb140 ≠ gb142)); have n7_ := Aside0.mk ((by rw [hg]; exact Nat.ne_of_gt (blk_lt (Bh BK140)) : gb142 ≠ gb140)); have n8_ := Aside0.mk ((by rw [hg]; exact Nat.ne_of_lt (blk_lt (Bh BK141)) : gb141 ≠ gb142)); have n9_ := Aside0.mk ((by rw [hg]; exact Nat.ne_of_gt (blk_lt (Bh BK141)) : gb142 ≠ gb141)); clear BK140; clear BK141; clear HB; have BK140 := n0_; have BK141 := n1_; have HB := n2_; have BK142 := n3_; have GW142 := n4_; have GE142 := n5_; have NB140_142 := n6_; have NB142_140 := n7_; have NB141_142 := n8_; have NB142_141 := n9_; clear n0_ n1_ n2_ n3_ n4_ n5_ n6_ n7_ n8_ n9_; clear hb hbox hg; have hnb1004 := NB140_141.out; have hnc1004 := NB141_140.out; have hnb1005 := NB140_142.out; have hnc1005 := NB142_140.out; obtain ⟨⟨hcz1006_0, hcz1006_1, hcz1006_2⟩, hfz1006_0, hfz1006_1, hfz1006_2⟩ := cells3 BK140.out; have hnb1007 := NB142_141.out; have hnc1007 := NB141_142.out; obtain ⟨⟨hcz1008_0, hcz1008_1, hcz1008_2⟩, hfz1008_0, hfz1008_1, hfz1008_2⟩ := cells3 BK142.out) | ((with_reducible refine gate_store (t := 2) (p := 9) rfl ?_); refine store_event (t := 2) (p := 9) (v := ?_) (w1 := ((w1003.setCell ⟨gb142, 0, none⟩ (.int .i64 a0_0)).setCell ⟨gb142, 1, none⟩ (.int .i64 a0_1))) ?hg ?ho ?hn ?hr ?_; (case ho => rfl); (case hg => rfl); (case hn => rfl); (case hr => first | (go_simp; done) | (go_simp; rfl)); intro w1009 hw; have n0_ : Aside0 (w1009.heap[gb140]? = some (.cells #[.int .i64 a0_0, .int .i64 a0_1, .slice A0_2 l0_2.length c0_2] 59 (0, 0))) := ⟨(by rw [hw]; exact (by (with_reducible repeat (first | refine blk_drewN ?_ _ | refine blk_drew ?_ | refine blk_alloc ?_ _)); refine blk_far ?_ NB140_142.out _; (with_reducible repeat (first | refine blk_drewN ?_ _ | refine blk_drew ?_ | refine blk_alloc ?_ _)); refine blk_far ?_ NB140_142.out _; (with_reducible repeat (first | refine blk_drewN ?_ _ | refine blk_drew ?_ | refine blk_alloc ?_ _)); exact BK140.out))⟩; have n1_ : Aside0 (w1009.heap[gb141]? = some (.cells #[.int .i64 0, .int .i64 0, .slice none 0 0] 63 (0, 0))) := ⟨(by rw [hw]; exact (by (with_reducible repeat (first | refine blk_drewN ?_ _ | refine blk_drew ?_ | refine blk_alloc ?_ _)); refine blk_far ?_ NB141_142.out _; (with_reducible repeat (first | refine blk_drewN ?_ _ | refine blk_drew ?_ | refine blk_alloc ?_ _)); refine blk_far ?_ NB141_142.out _; (with_reducible repeat (first | refine blk_drewN ?_ _ | refine blk_drew ?_ | refine blk_alloc ?_ _)); exact BK141.out))⟩; have n2_ : Aside0 (w1009.heap[gb142]? = some (.cells #[.int .i64 a0_0, .int .i64 a0_1, .slice none 0 0] 63 (0, 0))) := ⟨(by rw [hw]; exact (by (with_reducible repeat (first | refine blk_drewN ?_ _ | refine blk_drew ?_ | refine blk_alloc ?_ _)); refine blk_put (cs := #[.int .i64 a0_0, .int .i64 0, .slice none 0 0]) ?_ 1 _ rfl; (with_reducible repeat (first | refine blk_drewN ?_ _ | refine blk_drew ?_ | refine blk_alloc ?_ _)); refine blk_put (cs := #[.int .i64 0, .int .i64 0, .slice none 0 0]) ?_ 0 _ rfl; (with_reducible repeat (first | refine blk_drewN ?_ _ | refine blk_drew ?_ | refine blk_alloc ?_ _)); exact BK142.out))⟩; have n3_ : Aside0 (Below w.heap.size w w1009) := ⟨(by rw [hw]; exact wB)⟩; clear hw; clear BK140; clear BK141; clear BK142; clear HB; have BK140 := n0_; have BK141 := n1_; have BK142 := n2_; have HB := n3_; clear n0_ n1_ n2_ n3_; obtain ⟨⟨hcz1010_0, hcz1010_1, hcz1010_2⟩, hfz1010_0, hfz1010_1, hfz1010_2⟩ := cells3 BK140.out) | ((with_reducible refine gate_callee (f := 85) rfl ?_); refine goesL_ (some 12) rfl rfl Try.func85 (by kernel_rfl) rfl #[.slice A0_2 l0_2.length c0_2] rfl wT ?_; (with_reducible refine (laws_toPieceS.calls k _ _ l0_2 t143 _ ?side1 ?side2 A2.out).mono ?_); (case side1 => exact Kd.C_below HR0_2.out wB); (case side2 => exact HC0_2.out); rintro e w1011 ⟨v144, rfl, ho0, hb⟩; refine ⟨_, rfl, ?_⟩; have n0_ := Aside0.mk (Kd.R_lower ho0 (below_size wB)); have n1_ := Aside0.mk (blk_below (Bh BK140) hb); have n2_ := Aside0.mk (blk_below (Bh BK141) hb); have n3_ := Aside0.mk (blk_below (Bh BK142) hb); have n4_ := Aside0.mk (below_step wB hb); clear BK140; clear BK141; clear BK142; clear HB; have HO145 := n0_; have BK140 := n1_; have BK141 := n2_; have BK142 := n3_; have HB := n4_; clear n0_ n1_ n2_ n3_ n4_; (try clear hb); (try clear hb2); (try clear hk); (try clear hi); (try clear ho0); obtain ⟨Ao1012, co1012, eo1012⟩ := Kd.R_slice HO145.out; subst eo1012; obtain ⟨⟨hcz1013_0, hcz1013_1, hcz1013_2⟩, hfz1013_0, hfz1013_1, hfz1013_2⟩ := cells3 BK142.out; obtain ⟨⟨hcz1014_0, hcz1014_1, hcz1014_2⟩, hfz1014_0, hfz1014_1, hfz1014_2⟩ := cells3 BK141.out) | ((with_reducible refine gate_store (t := 63) (p := 2) rfl ?_); refine store_event (t := 63) (p := 2) (v := ?_) (w1 := ((((w1011.setCell ⟨gb142, 2, none⟩ (.slice Ao1012 t143.length co1012)).setCell ⟨gb141, 0, none⟩ (.int .i64 a0_0)).setCell ⟨gb141, 1, none⟩ (.int .i64 a0_1)).setCell ⟨gb141, 2, none⟩ (.slice Ao1012 t143.length co1012))) ?hg ?ho ?hn ?hr ?_; (case ho => rfl); (case hg => rfl); (case hn => rfl); (case hr => first | (go_simp; done) | (go_simp; rfl)); intro w1015 hw; have n0_ : Aside0 (Kd.R k85 85 w1015 w.heap.size (fun _ => True) (.slice Ao1012 t143.length co1012) t143) := ⟨(by rw [hw]; exact (by (with_reducible repeat (first | apply Kd.R_alloc | apply Kd.R_drewN | apply Kd.R_drew)); exact Kd.R_mono (Kd.R_far (p := ⟨gb141, 2, none⟩) (Kd.R_far (p := ⟨gb141, 1, none⟩) (Kd.R_far (p := ⟨gb141, 0, none⟩) (Kd.R_far (p := ⟨gb142, 2, none⟩) (Kd.R_types (Kd.R_types HO145.out BK142.out (by decide)) BK141.out (by decide)) (fun _ hk => hk.1.2) (.slice Ao1012 t143.length co1012)) (fun _ hk => hk.2) (.int .i64 a0_0)) (fun _ hk => hk.2) (.int .i64 a0_1)) (fun _ hk => hk.2) (.slice Ao1012 t143.length co1012)) (fun _ hk => trivial)))⟩; have n1_ : Aside0 (w1015.heap[gb140]? = some (.cells #[.int .i64 a0_0, .int .i64 a0_1, .slice A0_2 l0_2.length c0_2] 59 (0, 0))) := ⟨(by rw [hw]; exact (by (with_reducible repeat (first | refine blk_drewN ?_ _ | refine blk_drew ?_ | refine blk_alloc ?_ _)); refine blk_far ?_ NB140_141.out _; (with_reducible repeat (first | refine blk_drewN ?_ _ | refine blk_drew ?_ | refine blk_alloc ?_ _)); refine blk_far ?_ NB140_141.out _; (with_reducible repeat (first | refine blk_drewN ?_ _ | refine blk_drew ?_ | refine blk_alloc ?_ _)); refine blk_far ?_ NB140_141.out _; (with_reducible repeat (first | refine blk_drewN ?_ _ | refine blk_drew ?_ | refine blk_alloc ?_ _)); refine blk_far ?_ NB140_142.out _; (with_reducible repeat (first | refine blk_drewN ?_ _ | refine blk_drew ?_ | refine blk_alloc ?_ _)); exact BK140.out))⟩; have n2_ : Aside0 (w1015.heap[gb141]? = some (.cells #[.int .i64 a0_0, .int .i64 a0_1, .slice Ao1012 t143.length co1012] 63 (0, 0))) := ⟨(by rw [hw]; exact (by (with_reducible repeat (first | refine blk_drewN ?_ _ | refine blk_drew ?_ | refine blk_alloc ?_ _)); refine blk_put (cs := #[.int .i64 a0_0, .int .i64 a0_1, .slice none 0 0]) ?_ 2 _ rfl; (with_reducible repeat (first | refine blk_drewN ?_ _ | refine blk_drew ?_ | refine blk_alloc ?_ _)); refine blk_put (cs := #[.int .i64 a0_0, .int .i64 0, .slice none 0 0]) ?_ 1 _ rfl; (with_reducible repeat (first | refine blk_drewN ?_ _ | refine blk_drew ?_ | refine blk_alloc ?_ _)); refine blk_put (cs := #[.int .i64 0, .int .i64 0, .slice none 0 0]) ?_ 0 _ rfl; (with_reducible repeat (first | refine blk_drewN ?_ _ | refine blk_drew ?_ | refine blk_alloc ?_ _)); refine blk_far ?_ NB141_142.out _; (with_reducible repeat (first | refine blk_drewN ?_ _ | refine blk_drew ?_ | refine blk_alloc ?_ _)); exact BK141.out))⟩; have n3_ : Aside0 (w1015.heap[gb142]? = some (.cells #[.int .i64 a0_0, .int .i64 a0_1, .slice Ao1012 t143.length co1012] 63 (0, 0))) := ⟨(by rw [hw]; exact (by (with_reducible repeat (first | refine blk_drewN ?_ _ | refine blk_drew ?_ | refine blk_alloc ?_ _)); refine blk_far ?_ NB142_141.out _; (with_reducible repeat (first | refine blk_drewN ?_ _ | refine blk_drew ?_ | refine blk_alloc ?_ _)); refine blk_far ?_ NB142_141.out _; (with_reducible repeat (first | refine blk_drewN ?_ _ | refine blk_drew ?_ | refine blk_alloc ?_ _)); refine blk_far ?_ NB142_141.out _; (with_reducible repeat (first | refine blk_drewN ?_ _ | refine blk_drew ?_ | refine blk_alloc ?_ _)); refine blk_put (cs := #[.int .i64 a0_0, .int .i64 a0_1, .slice none 0 0]) ?_ 2 _ rfl; (with_reducible repeat (first | refine blk_drewN ?_ _ | refine blk_drew ?_ | refine blk_alloc ?_ _)); exact BK142.out))⟩; have n4_ : Aside0 (Below w.heap.size w w1015) := ⟨(by rw [hw]; exact wB)⟩; clear hw; clear HO145; clear BK140; clear BK141; clear BK142; clear HB; have HO145 := n0_; have BK140 := n1_; have BK141 := n2_; have BK142 := n3_; have HB := n4_; clear n0_ n1_ n2_ n3_ n4_))
  refine bodyPost_ret (results_cell_row rfl _ _ gb141 63 #[.int .i64 a0_0, .int .i64 a0_1, .slice Ao1012 t143.length co1012] (0, 0) _ rfl (Bh BK141) Try.underlying63 rfl (by kernel_rfl)) rfl ?_
  exact ⟨_, by first | rfl | (simp [errW_none, errW_some] <;> rfl) | (simp [*, errW_none, errW_some] <;> rfl), by (with_reducible repeat (first | apply Kd.R_alloc | apply Kd.R_drewN | apply Kd.R_drew)); exact HO145.out, wB⟩

/-! ### impl_okBoard: function 86 -/
mutual
def impl_okBoard.j0 : Nat → Bool → Int → Int → List (S85) → Option (Bool)
  | 0, _, _, _, _ => none
  | k + 1, x26, x147000, x147001, x147002 => if x26 = true then (some false) else (impl_okBoard.l0 k x147000 x147002 (x147002.length : Int) 0 x147000 x147001 x147002)
def impl_okBoard.l0 : Nat → Int → List (S85) → Int → Int → Int → Int → List (S85) → Option (Bool)
  | 0, _, _, _, _, _, _, _ => none
  | k + 1, x3, x30, x31, x32, x147000, x147001, x147002 => if x32 < x31 then (if 0 ≤ x32 then (if x32 < (x30.length : Int) then (if ((rd_T85 x30 x32).f0) = x3 then (if ((rd_T85 x30 x32).f1) ≤ ((rd_T85 x30 x32).f0) then (some false) else (if ((rd_T85 x30 x32).f2) < 0 then (some false) else (if ((rd_T85 x30 x32).f2) > 1000000000 then (some false) else (if ((rd_T85 x30 x32).f3) < 1 then (some false) else (if ((rd_T85 x30 x32).f3) > 1000000 then (some false) else (if (rd_T85 x30 x32).f4 = true then (if (rd_T85 x30 x32).f5 = true then (some false) else (impl_okBoard.l0 k ((rd_T85 x30 x32).f1) x30 x31 (wrap64 (x32 + 1)) x147000 x147001 x147002)) else (impl_okBoard.l0 k ((rd_T85 x30 x32).f1) x30 x31 (wrap64 (x32 + 1)) x147000 x147001 x147002))))))) else (some false)) else (none)) else (none)) else (some (x3 == x147001))
end
def impl_okBoard.f (k : Nat) (a0_0 : Int) (a0_1 : Int) (l0_2 : List (S85)) : Option (Bool) := if a0_0 < 0 then (impl_okBoard.j0 k true a0_0 a0_1 l0_2) else (if a0_0 > a0_1 then (impl_okBoard.j0 k true a0_0 a0_1 l0_2) else (if a0_1 > 1099511627776 then (impl_okBoard.j0 k true a0_0 a0_1 l0_2) else (impl_okBoard.j0 k (decide ((l0_2.length : Int) > 4096)) a0_0 a0_1 l0_2)))
theorem impl_okBoard.mono_l : ∀ k, (∀ y0 y1 y2 y3, LeO (impl_okBoard.j0 k y0 y1 y2 y3) (impl_okBoard.j0 (k + 1) y0 y1 y2 y3)) ∧ (∀ y0 y1 y2 y3 y4 y5 y6, LeO (impl_okBoard.l0 k y0 y1 y2 y3 y4 y5 y6) (impl_okBoard.l0 (k + 1) y0 y1 y2 y3 y4 y5 y6))
  | 0 => ⟨fun _ _ _ _ r h => by simp [impl_okBoard.j0] at h, fun _ _ _ _ _ _ _ r h => by simp [impl_okBoard.l0] at h⟩
  | k + 1 => by
    obtain ⟨ih0, ih1⟩ := impl_okBoard.mono_l k
    refine ⟨?_, ?_⟩
    · intro y0 y1 y2 y3
      unfold impl_okBoard.j0
      repeat' first
      | (with_reducible exact ih0 _ _ _ _)
      | (with_reducible exact ih1 _ _ _ _ _ _ _)
      | (with_reducible exact LeO.refl _)
      | (with_reducible exact LeO.none _)
      | (with_reducible refine LeO.ite ?_ ?_)
      | (with_reducible refine LeO.bind ?_ (fun _ => ?_))
      | exact ih0 _ _ _ _
      | exact ih1 _ _ _ _ _ _ _
      | exact LeO.none _
      | refine LeO.ite ?_ ?_
      | refine LeO.bind ?_ (fun _ => ?_)
    · intro y0 y1 y2 y3 y4 y5 y6
      unfold impl_okBoard.l0
      repeat' first
      | (with_reducible exact ih0 _ _ _ _)
      | (with_reducible exact ih1 _ _ _ _ _ _ _)
      | (with_reducible exact LeO.refl _)
      | (with_reducible exact LeO.none _)
      | (with_reducible refine LeO.ite ?_ ?_)
      | (with_reducible refine LeO.bind ?_ (fun _ => ?_))
      | exact ih0 _ _ _ _
      | exact ih1 _ _ _ _ _ _ _
      | exact LeO.none _
      | refine LeO.ite ?_ ?_
      | refine LeO.bind ?_ (fun _ => ?_)
theorem impl_okBoard.mono : ∀ a0 a1 a2 k, LeO (impl_okBoard.f k a0 a1 a2) (impl_okBoard.f (k + 1) a0 a1 a2) := by
 intro a0 a1 a2 k
 obtain ⟨ih0, ih1⟩ := impl_okBoard.mono_l k
 unfold impl_okBoard.f
 repeat' first
     | (with_reducible exact ih0 _ _ _ _)
     | (with_reducible exact ih1 _ _ _ _ _ _ _)
     | (with_reducible exact LeO.refl _)
     | (with_reducible exact LeO.none _)
     | (with_reducible refine LeO.ite ?_ ?_)
     | (with_reducible refine LeO.bind ?_ (fun _ => ?_))
     | exact ih0 _ _ _ _
     | exact ih1 _ _ _ _ _ _ _
     | exact LeO.none _
     | refine LeO.ite ?_ ?_
     | refine LeO.bind ?_ (fun _ => ?_)
set_option maxHeartbeats 60000000 in
set_option maxRecDepth 100000 in
theorem impl_okBoard.calls (k : Nat) (a0_0 : Int) (a0_1 : Int) (A0_2 : Option Addr) (c0_2 : Nat) (l0_2 : List (S85)) (r : Bool) (w : World) (hr0_2 : Kd.C k85 w A0_2 l0_2.length l0_2) (hc0_2 : l0_2.length ≤ c0_2) (h : impl_okBoard.f k a0_0 a0_1 l0_2 = some r) :
 Calls Try.prog 86 #[.agg #[.int .i64 a0_0, .int .i64 a0_1, .slice A0_2 l0_2.length c0_2]] w fun e w' => e = .returned (.bool r) ∧ Below w.heap.size w w' := by
 have hu63 := Try.underlying63
 have hu85 := Try.underlying85
 have HR0_2 := Aside0.mk hr0_2
 have HC0_2 := Aside0.mk hc0_2
 clear hr0_2 hc0_2
 have HB := Aside0.mk (Below.refl w.heap.size w)
 have H : (if a0_0 < 0 then (impl_okBoard.j0 k true a0_0 a0_1 l0_2) else (if a0_0 > a0_1 then (impl_okBoard.j0 k true a0_0 a0_1 l0_2) else (if a0_1 > 1099511627776 then (impl_okBoard.j0 k true a0_0 a0_1 l0_2) else (impl_okBoard.j0 k (decide ((l0_2.length : Int) > 4096)) a0_0 a0_1 l0_2)))) = some r := h
 clear h
 have HC2 := Aside0.mk H
 clear H
 go_enter Try.func86, Try.ntmps86
 go_upto_region 1 with (first | ((with_reducible refine gate_dst (N := 1) rfl ?_); (try (refine gate_guard (by rfl) ?_; dsimp only)); refine box_event ?hg (N := 1) ?hd (cs := #[.int .i64 a0_0, .int .i64 a0_1, .slice A0_2 l0_2.length c0_2]) (t := 63) ?hr ?_; (case hd => rfl); (case hg => rfl); (case hr => first | (go_simp; done) | (go_simp; rfl)); intro gb146 hg w1001 hbox hb; have n0_ := Aside0.mk (below_step wB hb); have n1_ := Aside0.mk (hbox); have n2_ := Aside0.mk ((by rw [hg]; exact (below_size wB) : w.heap.size ≤ gb146)); have n3_ := Aside0.mk ((by rw [hg]; exact (below_size wB) : w.heap.size ≤ gb146)); clear HB; have HB := n0_; have BK146 := n1_; have GW146 := n2_; have GE146 := n3_; clear n0_ n1_ n2_ n3_; clear hb hbox hg))
 (try simp only [Act.put, List.setIfInBounds_toArray, List.set_cons_zero, List.set_cons_succ])
 go_cut [26] (fun v26 wc => ∃ (kq : Nat) (x26_1 : Bool), v26 = .bool x26_1 ∧ Aside0 (impl_okBoard.j0 kq x26_1 a0_0 a0_1 l0_2 = some r) ∧ Aside0 (kq ≤ k) ∧ Aside0 (wc.heap[gb146]? = some (.cells #[.int .i64 a0_0, .int .i64 a0_1, (.slice A0_2 l0_2.length c0_2)] 63 (0, 0))) ∧ Aside0 (Below w.heap.size w wc))
 case first => (
 have H := HC2.out
 clear HC2
 by_cases c1002 : a0_0 < 0
 rw [if_pos c1002] at H
 have c1002b0 : decide (a0_0 < 0) = true := decide_eq_true c1002
 clear c1002
 (first | rw [c1002b0] | (simp only [i64_w, i32_w]; rw [c1002b0]) | skip)
 have H' := Aside0.mk H
 clear H
 rotate_left
 rw [if_neg c1002] at H
 have c1002b0 : decide (a0_0 < 0) = false := decide_eq_false c1002
 clear c1002
 (first | rw [c1002b0] | (simp only [i64_w, i32_w]; rw [c1002b0]) | skip)
 by_cases c1003 : a0_0 > a0_1
 rw [if_pos c1003] at H
 have c1003b0 : decide (a0_1 < a0_0) = true := decide_eq_true c1003
 clear c1003
 have H' := Aside0.mk H
 clear H
 rotate_left
 rw [if_neg c1003] at H
 have c1003b0 : decide (a0_1 < a0_0) = false := decide_eq_false c1003
 clear c1003
 by_cases c1004 : a0_1 > 1099511627776
 rw [if_pos c1004] at H
 have c1004b0 : decide (1099511627776 < a0_1) = true := decide_eq_true c1004
 clear c1004
 have H' := Aside0.mk H
 clear H
 rotate_left
 rw [if_neg c1004] at H
 have c1004b0 : decide (1099511627776 < a0_1) = false := decide_eq_false c1004
 clear c1004
 have H' := Aside0.mk H
 clear H
 rotate_left
 all_goals (
 obtain ⟨⟨hcz2001_0, hcz2001_1, hcz2001_2⟩, hfz2001_0, hfz2001_1, hfz2001_2⟩ := cells3 BK146.out
 go_wp2
 all_goals (try (rename_i h_; exfalso; cases h_; done))
 all_goals (try (rename_i h_ h2_; exfalso; cases h_; done))
 go_meet
 )
 iterate 3 (
 focus (
 case rel => exact ⟨_, (true), (by first | rfl | (simp; done) | (simp [*]; done)), H', ⟨by first | omega | exact Nat.le_refl _⟩, ⟨Bh BK146⟩, ⟨wB⟩⟩
 )
 )
 {
 case rel => exact ⟨_, (decide ((l0_2.length : Int) > 4096)), (by first | rfl | (simp; done) | (simp [*]; done)), H', ⟨by first | omega | exact Nat.le_refl _⟩, ⟨Bh BK146⟩, ⟨wB⟩⟩
 }
 )
 case rest => (
 clear HC2
 try clear c0
 try clear c1002
 try clear c1002b0
 try clear c1003
 try clear c1003b0
 try clear c1004
 try clear c1004b0
 try clear hcz2001_0 hcz2001_1 hcz2001_2 hfz2001_0 hfz2001_1 hfz2001_2
 obtain ⟨kq, x26_1, rfl, HA, HJ1, BK146, HB⟩ := hcut
 cases kq with
 | zero => exact absurd HA.out (by simp [impl_okBoard.j0])
 | succ kj1 => {
 have H := HA.out
 clear HA
 simp only [impl_okBoard.j0] at H
 by_cases c1005 : x26_1 = true
 {
 subst c1005
 have H1 : (some false) = some r := by rw [if_pos rfl] at H; exact H
 clear H
 have H := H1
 clear H1
 obtain rfl := Option.some.inj H
 go_wp2
 all_goals (try (rename_i h_; exfalso; cases h_; done))
 all_goals (try (rename_i h_ h2_; exfalso; cases h_; done))
 go_ret
 exact ⟨by first | rfl | (simp [errW_none, errW_some] <;> rfl) | (simp [*, errW_none, errW_some] <;> rfl), wB⟩
 }
 {
 replace c1005 := Bool.eq_false_iff.mpr c1005
 subst c1005
 have H1 : (impl_okBoard.l0 kj1 a0_0 l0_2 (l0_2.length : Int) 0 a0_0 a0_1 l0_2) = some r := by rw [if_neg (show ¬ (false = true) by decide)] at H; exact H
 clear H
 have H := H1
 clear H1
 have H' := Aside0.mk H
 clear H
 obtain ⟨⟨hcz2001_0, hcz2001_1, hcz2001_2⟩, hfz2001_0, hfz2001_1, hfz2001_2⟩ := cells3 BK146.out
 go_wp2
 all_goals (try (rename_i h_; exfalso; cases h_; done))
 all_goals (try (rename_i h_ h2_; exfalso; cases h_; done))
 go_loopg [3, 32] kj1 (fun kq v3 v32 w' => ∃ (x3_2 : Int) (x32_2 : Int), v3 = .int .i64 x3_2 ∧ v32 = .int .i64 x32_2 ∧ Aside0 (impl_okBoard.l0 kq x3_2 l0_2 (l0_2.length : Int) x32_2 a0_0 a0_1 l0_2 = some r) ∧ Aside0 (kq ≤ kj1) ∧ Aside0 (w'.heap[gb146]? = some (.cells #[.int .i64 a0_0, .int .i64 a0_1, (.slice A0_2 l0_2.length c0_2)] 63 (0, 0))) ∧ Aside0 (Below w.heap.size w w'))
 case atStart => exact ⟨(a0_0), (0), (by first | rfl | (simp; done) | (simp [*]; done)), (by first | rfl | (simp; done) | (simp [*]; done)), H', ⟨Nat.le_refl _⟩, ⟨Bh BK146⟩, ⟨wB⟩⟩
 case round => (
 clear H'
 try clear c0
 try clear c1002
 try clear c1002b0
 try clear c1003
 try clear c1003b0
 try clear c1004
 try clear c1004b0
 try clear c1005
 try clear hcz2001_0 hcz2001_1 hcz2001_2 hfz2001_0 hfz2001_1 hfz2001_2
 obtain ⟨x3_2, x32_2, rfl, rfl, HA, HK2, BK146, HB⟩ := hrel
 cases gk with
 | zero => exact absurd HA.out (by simp [impl_okBoard.l0])
 | succ k2 => {
 have H := HA.out
 clear HA
 simp only [impl_okBoard.l0] at H
 by_cases c2002 : x32_2 < (l0_2.length : Int)
 rw [if_pos c2002] at H
 have c2002b0 : decide (x32_2 < (l0_2.length : Int)) = true := decide_eq_true c2002
 clear c2002
 by_cases c2003 : 0 ≤ x32_2
 rw [if_pos c2003] at H
 have c2003b0 : decide (0 ≤ x32_2) = true := decide_eq_true c2003
 clear c2003
 by_cases c2004 : x32_2 < (l0_2.length : Int)
 rw [if_pos c2004] at H
 have c2004b0 : decide (x32_2 < (l0_2.length : Int)) = true := decide_eq_true c2004
 clear c2004
 by_cases c2005 : ((rd_T85 l0_2 x32_2).f0) = x3_2
 rw [if_pos c2005] at H
 have c2005b0 : (((rd_T85 l0_2 x32_2).f0) == x3_2) = true := beq_iff_eq.mpr c2005
 have c2005b1 : (((rd_T85 l0_2 x32_2).f0) != x3_2) = false := bne_eq_false_iff_eq.mpr c2005
 clear c2005
 by_cases c2006 : ((rd_T85 l0_2 x32_2).f1) ≤ ((rd_T85 l0_2 x32_2).f0)
 rw [if_pos c2006] at H
 have c2006b0 : decide (((rd_T85 l0_2 x32_2).f1) ≤ ((rd_T85 l0_2 x32_2).f0)) = true := decide_eq_true c2006
 clear c2006
 obtain rfl := Option.some.inj H
 rotate_left
 rw [if_neg c2006] at H
 have c2006b0 : decide (((rd_T85 l0_2 x32_2).f1) ≤ ((rd_T85 l0_2 x32_2).f0)) = false := decide_eq_false c2006
 clear c2006
 by_cases c2007 : ((rd_T85 l0_2 x32_2).f2) < 0
 rw [if_pos c2007] at H
 have c2007b0 : decide (((rd_T85 l0_2 x32_2).f2) < 0) = true := decide_eq_true c2007
 clear c2007
 obtain rfl := Option.some.inj H
 rotate_left
 rw [if_neg c2007] at H
 have c2007b0 : decide (((rd_T85 l0_2 x32_2).f2) < 0) = false := decide_eq_false c2007
 clear c2007
 by_cases c2008 : ((rd_T85 l0_2 x32_2).f2) > 1000000000
 rw [if_pos c2008] at H
 have c2008b0 : decide (1000000000 < ((rd_T85 l0_2 x32_2).f2)) = true := decide_eq_true c2008
 clear c2008
 obtain rfl := Option.some.inj H
 rotate_left
 rw [if_neg c2008] at H
 have c2008b0 : decide (1000000000 < ((rd_T85 l0_2 x32_2).f2)) = false := decide_eq_false c2008
 clear c2008
 by_cases c2009 : ((rd_T85 l0_2 x32_2).f3) < 1
 rw [if_pos c2009] at H
 have c2009b0 : decide (((rd_T85 l0_2 x32_2).f3) < 1) = true := decide_eq_true c2009
 clear c2009
 obtain rfl := Option.some.inj H
 rotate_left
 rw [if_neg c2009] at H
 have c2009b0 : decide (((rd_T85 l0_2 x32_2).f3) < 1) = false := decide_eq_false c2009
 clear c2009
 by_cases c2010 : ((rd_T85 l0_2 x32_2).f3) > 1000000
 rw [if_pos c2010] at H
 have c2010b0 : decide (1000000 < ((rd_T85 l0_2 x32_2).f3)) = true := decide_eq_true c2010
 clear c2010
 obtain rfl := Option.some.inj H
 rotate_left
 rw [if_neg c2010] at H
 have c2010b0 : decide (1000000 < ((rd_T85 l0_2 x32_2).f3)) = false := decide_eq_false c2010
 clear c2010
 obtain ⟨bq2011, hbq2011⟩ : ∃ b_ : Bool, b_ = ((rd_T85 l0_2 x32_2).f4) := ⟨_, rfl⟩
 replace H : (if bq2011 = true then (if (rd_T85 l0_2 x32_2).f5 = true then (some false) else (impl_okBoard.l0 k2 ((rd_T85 l0_2 x32_2).f1) l0_2 (l0_2.length : Int) (wrap64 (x32_2 + 1)) a0_0 a0_1 l0_2)) else (impl_okBoard.l0 k2 ((rd_T85 l0_2 x32_2).f1) l0_2 (l0_2.length : Int) (wrap64 (x32_2 + 1)) a0_0 a0_1 l0_2)) = some r := by rw [← hbq2011] at H; exact H
 have Nbq2011 := Aside0.mk hbq2011
 clear hbq2011
 by_cases c2012 : bq2011 = true
 subst c2012
 have H1 : (if (rd_T85 l0_2 x32_2).f5 = true then (some false) else (impl_okBoard.l0 k2 ((rd_T85 l0_2 x32_2).f1) l0_2 (l0_2.length : Int) (wrap64 (x32_2 + 1)) a0_0 a0_1 l0_2)) = some r := by rw [if_pos rfl] at H; exact H
 clear H
 have H := H1
 clear H1
 obtain ⟨bq2013, hbq2013⟩ : ∃ b_ : Bool, b_ = ((rd_T85 l0_2 x32_2).f5) := ⟨_, rfl⟩
 replace H : (if bq2013 = true then (some false) else (impl_okBoard.l0 k2 ((rd_T85 l0_2 x32_2).f1) l0_2 (l0_2.length : Int) (wrap64 (x32_2 + 1)) a0_0 a0_1 l0_2)) = some r := by rw [← hbq2013] at H; exact H
 have Nbq2013 := Aside0.mk hbq2013
 clear hbq2013
 by_cases c2014 : bq2013 = true
 subst c2014
 have H1 : (some false) = some r := by rw [if_pos rfl] at H; exact H
 clear H
 have H := H1
 clear H1
 obtain rfl := Option.some.inj H
 have bq1_ : True := trivial
 rotate_left
 replace c2014 := Bool.eq_false_iff.mpr c2014
 subst c2014
 have H1 : (impl_okBoard.l0 k2 ((rd_T85 l0_2 x32_2).f1) l0_2 (l0_2.length : Int) (wrap64 (x32_2 + 1)) a0_0 a0_1 l0_2) = some r := by rw [if_neg (show ¬ (false = true) by decide)] at H; exact H
 clear H
 have H := H1
 clear H1
 have H' := Aside0.mk H
 clear H
 rotate_left
 replace c2012 := Bool.eq_false_iff.mpr c2012
 subst c2012
 have H1 : (impl_okBoard.l0 k2 ((rd_T85 l0_2 x32_2).f1) l0_2 (l0_2.length : Int) (wrap64 (x32_2 + 1)) a0_0 a0_1 l0_2) = some r := by rw [if_neg (show ¬ (false = true) by decide)] at H; exact H
 clear H
 have H := H1
 clear H1
 have H' := Aside0.mk H
 clear H
 rotate_left
 rw [if_neg c2005] at H
 have c2005b0 : (((rd_T85 l0_2 x32_2).f0) == x3_2) = false := beq_eq_false_iff_ne.mpr c2005
 have c2005b1 : (((rd_T85 l0_2 x32_2).f0) != x3_2) = true := bne_iff_ne.mpr c2005
 obtain rfl := Option.some.inj H
 rotate_left
 rw [if_neg c2004] at H
 exact absurd H (by simp)
 rw [if_neg c2003] at H
 exact absurd H (by simp)
 rw [if_neg c2002] at H
 have c2002b0 : decide (x32_2 < (l0_2.length : Int)) = false := decide_eq_false c2002
 clear c2002
 obtain rfl := Option.some.inj H
 rotate_left
 iterate 9 (
 focus (
 have p147 : 0 ≤ (x32_2 : Int) := of_decide_eq_true (by first | (with_reducible assumption) | assumption)
 have q147 : x32_2 < (l0_2.length : Int) := of_decide_eq_true (by first | (with_reducible assumption) | assumption)
 obtain ⟨ad147, e147, hx147_0, hx147_1, hx147_2, hx147_3, hx147_4, hx147_5⟩ := at_T85 HR0_2.out x32_2 p147 q147
 )
 rotate_left
 )
 rotate_right 9
 iterate 5 (
 focus (
 cases e147
 replace hx147_0 := (HB.out.cell (World.block_lt_of_cell? w _ hx147_0)).trans hx147_0
 replace hx147_1 := (HB.out.cell (World.block_lt_of_cell? w _ hx147_1)).trans hx147_1
 replace hx147_2 := (HB.out.cell (World.block_lt_of_cell? w _ hx147_2)).trans hx147_2
 replace hx147_3 := (HB.out.cell (World.block_lt_of_cell? w _ hx147_3)).trans hx147_3
 replace hx147_4 := (HB.out.cell (World.block_lt_of_cell? w _ hx147_4)).trans hx147_4
 replace hx147_5 := (HB.out.cell (World.block_lt_of_cell? w _ hx147_5)).trans hx147_5
 replace p147 := eq_true p147
 replace q147 := eq_true q147
 go_wp2_with (first | ((with_reducible refine gate_dst (N := 5) rfl ?_); (try (refine gate_guard (by rfl) ?_; dsimp only)); refine box_event ?hg (N := 5) ?hd (cs := #[.int .i64 0, .int .i64 0, .int .i64 0, .int .i64 0, .bool false, .bool false]) (t := 85) ?hr ?_; (case hd => rfl); (case hg => rfl); (case hr => first | (go_simp; done) | (go_simp; rfl)); intro gb148 hg w3001 hbox hb; have n0_ := Aside0.mk (blk_below (Bh BK146) hb); have n1_ := Aside0.mk (below_step wB hb); have n2_ := Aside0.mk (hbox); have n3_ := Aside0.mk ((by rw [hg]; exact (below_size wB) : w.heap.size ≤ gb148)); have n4_ := Aside0.mk ((by rw [hg]; exact (below_size wB) : w.heap.size ≤ gb148)); have n5_ := Aside0.mk ((by rw [hg]; exact Nat.ne_of_lt (blk_lt (Bh BK146)) : gb146 ≠ gb148)); have n6_ := Aside0.mk ((by rw [hg]; exact Nat.ne_of_gt (blk_lt (Bh BK146)) : gb148 ≠ gb146)); clear BK146; clear HB; have BK146 := n0_; have HB := n1_; have BK148 := n2_; have GW148 := n3_; have GE148 := n4_; have NB146_148 := n5_; have NB148_146 := n6_; clear n0_ n1_ n2_ n3_ n4_ n5_ n6_; clear hb hbox hg; have hnb3002 := NB148_146.out; have hnc3002 := NB146_148.out; obtain ⟨⟨hcz3003_0, hcz3003_1, hcz3003_2, hcz3003_3, hcz3003_4, hcz3003_5⟩, hfz3003_0, hfz3003_1, hfz3003_2, hfz3003_3, hfz3003_4, hfz3003_5⟩ := cells6 BK148.out) | ((with_reducible refine gate_store (t := 85) (p := 5) rfl ?_); refine store_event (t := 85) (p := 5) (v := ?_) (w1 := ((((((w3001.setCell ⟨gb148, 0, none⟩ (.int .i64 ((rd_T85 l0_2 x32_2).f0))).setCell ⟨gb148, 1, none⟩ (.int .i64 ((rd_T85 l0_2 x32_2).f1))).setCell ⟨gb148, 2, none⟩ (.int .i64 ((rd_T85 l0_2 x32_2).f2))).setCell ⟨gb148, 3, none⟩ (.int .i64 ((rd_T85 l0_2 x32_2).f3))).setCell ⟨gb148, 4, none⟩ (.bool ((rd_T85 l0_2 x32_2).f4))).setCell ⟨gb148, 5, none⟩ (.bool ((rd_T85 l0_2 x32_2).f5)))) ?hg ?ho ?hn ?hr ?_; (case ho => rfl); (case hg => rfl); (case hn => rfl); (case hr => first | (go_simp; done) | (go_simp; rfl)); intro w3004 hw; have n0_ : Aside0 (w3004.heap[gb146]? = some (.cells #[.int .i64 a0_0, .int .i64 a0_1, .slice (some ad147) l0_2.length c0_2] 63 (0, 0))) := ⟨(by rw [hw]; exact (by (with_reducible repeat (first | refine blk_drewN ?_ _ | refine blk_drew ?_ | refine blk_alloc ?_ _)); refine blk_far ?_ NB146_148.out _; (with_reducible repeat (first | refine blk_drewN ?_ _ | refine blk_drew ?_ | refine blk_alloc ?_ _)); refine blk_far ?_ NB146_148.out _; (with_reducible repeat (first | refine blk_drewN ?_ _ | refine blk_drew ?_ | refine blk_alloc ?_ _)); refine blk_far ?_ NB146_148.out _; (with_reducible repeat (first | refine blk_drewN ?_ _ | refine blk_drew ?_ | refine blk_alloc ?_ _)); refine blk_far ?_ NB146_148.out _; (with_reducible repeat (first | refine blk_drewN ?_ _ | refine blk_drew ?_ | refine blk_alloc ?_ _)); refine blk_far ?_ NB146_148.out _; (with_reducible repeat (first | refine blk_drewN ?_ _ | refine blk_drew ?_ | refine blk_alloc ?_ _)); refine blk_far ?_ NB146_148.out _; (with_reducible repeat (first | refine blk_drewN ?_ _ | refine blk_drew ?_ | refine blk_alloc ?_ _)); exact BK146.out))⟩; have n1_ : Aside0 (w3004.heap[gb148]? = some (.cells #[.int .i64 ((rd_T85 l0_2 x32_2).f0), .int .i64 ((rd_T85 l0_2 x32_2).f1), .int .i64 ((rd_T85 l0_2 x32_2).f2), .int .i64 ((rd_T85 l0_2 x32_2).f3), .bool ((rd_T85 l0_2 x32_2).f4), .bool ((rd_T85 l0_2 x32_2).f5)] 85 (0, 0))) := ⟨(by rw [hw]; exact (by (with_reducible repeat (first | refine blk_drewN ?_ _ | refine blk_drew ?_ | refine blk_alloc ?_ _)); refine blk_put (cs := #[.int .i64 ((rd_T85 l0_2 x32_2).f0), .int .i64 ((rd_T85 l0_2 x32_2).f1), .int .i64 ((rd_T85 l0_2 x32_2).f2), .int .i64 ((rd_T85 l0_2 x32_2).f3), .bool ((rd_T85 l0_2 x32_2).f4), .bool false]) ?_ 5 _ rfl; (with_reducible repeat (first | refine blk_drewN ?_ _ | refine blk_drew ?_ | refine blk_alloc ?_ _)); refine blk_put (cs := #[.int .i64 ((rd_T85 l0_2 x32_2).f0), .int .i64 ((rd_T85 l0_2 x32_2).f1), .int .i64 ((rd_T85 l0_2 x32_2).f2), .int .i64 ((rd_T85 l0_2 x32_2).f3), .bool false, .bool false]) ?_ 4 _ rfl; (with_reducible repeat (first | refine blk_drewN ?_ _ | refine blk_drew ?_ | refine blk_alloc ?_ _)); refine blk_put (cs := #[.int .i64 ((rd_T85 l0_2 x32_2).f0), .int .i64 ((rd_T85 l0_2 x32_2).f1), .int .i64 ((rd_T85 l0_2 x32_2).f2), .int .i64 0, .bool false, .bool false]) ?_ 3 _ rfl; (with_reducible repeat (first | refine blk_drewN ?_ _ | refine blk_drew ?_ | refine blk_alloc ?_ _)); refine blk_put (cs := #[.int .i64 ((rd_T85 l0_2 x32_2).f0), .int .i64 ((rd_T85 l0_2 x32_2).f1), .int .i64 0, .int .i64 0, .bool false, .bool false]) ?_ 2 _ rfl; (with_reducible repeat (first | refine blk_drewN ?_ _ | refine blk_drew ?_ | refine blk_alloc ?_ _)); refine blk_put (cs := #[.int .i64 ((rd_T85 l0_2 x32_2).f0), .int .i64 0, .int .i64 0, .int .i64 0, .bool false, .bool false]) ?_ 1 _ rfl; (with_reducible repeat (first | refine blk_drewN ?_ _ | refine blk_drew ?_ | refine blk_alloc ?_ _)); refine blk_put (cs := #[.int .i64 0, .int .i64 0, .int .i64 0, .int .i64 0, .bool false, .bool false]) ?_ 0 _ rfl; (with_reducible repeat (first | refine blk_drewN ?_ _ | refine blk_drew ?_ | refine blk_alloc ?_ _)); exact BK148.out))⟩; have n2_ : Aside0 (Below w.heap.size w w3004) := ⟨(by rw [hw]; exact wB)⟩; clear hw; clear BK146; clear BK148; clear HB; have BK146 := n0_; have BK148 := n1_; have HB := n2_; clear n0_ n1_ n2_; obtain ⟨⟨hcz3005_0, hcz3005_1, hcz3005_2, hcz3005_3, hcz3005_4, hcz3005_5⟩, hfz3005_0, hfz3005_1, hfz3005_2, hfz3005_3, hfz3005_4, hfz3005_5⟩ := cells6 BK148.out))
 all_goals (try (rename_i h_; exfalso; cases h_; done))
 all_goals (try (rename_i h_ h2_; exfalso; cases h_; done))
 go_ret
 exact ⟨by first | rfl | (simp [errW_none, errW_some] <;> rfl) | (simp [*, errW_none, errW_some] <;> rfl), wB⟩
 )
 )
 iterate 3 (
 focus (
 (try rw [← Nbq2011.out] at hx147_4)
 )
 rotate_left
 )
 rotate_right 3
 iterate 2 (
 focus (
 (try rw [← Nbq2013.out] at hx147_4)
 (try rw [← Nbq2011.out] at hx147_5)
 (try rw [← Nbq2013.out] at hx147_5)
 cases e147
 replace hx147_0 := (HB.out.cell (World.block_lt_of_cell? w _ hx147_0)).trans hx147_0
 replace hx147_1 := (HB.out.cell (World.block_lt_of_cell? w _ hx147_1)).trans hx147_1
 replace hx147_2 := (HB.out.cell (World.block_lt_of_cell? w _ hx147_2)).trans hx147_2
 replace hx147_3 := (HB.out.cell (World.block_lt_of_cell? w _ hx147_3)).trans hx147_3
 replace hx147_4 := (HB.out.cell (World.block_lt_of_cell? w _ hx147_4)).trans hx147_4
 replace hx147_5 := (HB.out.cell (World.block_lt_of_cell? w _ hx147_5)).trans hx147_5
 replace p147 := eq_true p147
 replace q147 := eq_true q147
 go_wp2_with (first | ((with_reducible refine gate_dst (N := 5) rfl ?_); (try (refine gate_guard (by rfl) ?_; dsimp only)); refine box_event ?hg (N := 5) ?hd (cs := #[.int .i64 0, .int .i64 0, .int .i64 0, .int .i64 0, .bool false, .bool false]) (t := 85) ?hr ?_; (case hd => rfl); (case hg => rfl); (case hr => first | (go_simp; done) | (go_simp; rfl)); intro gb148 hg w3001 hbox hb; have n0_ := Aside0.mk (blk_below (Bh BK146) hb); have n1_ := Aside0.mk (below_step wB hb); have n2_ := Aside0.mk (hbox); have n3_ := Aside0.mk ((by rw [hg]; exact (below_size wB) : w.heap.size ≤ gb148)); have n4_ := Aside0.mk ((by rw [hg]; exact (below_size wB) : w.heap.size ≤ gb148)); have n5_ := Aside0.mk ((by rw [hg]; exact Nat.ne_of_lt (blk_lt (Bh BK146)) : gb146 ≠ gb148)); have n6_ := Aside0.mk ((by rw [hg]; exact Nat.ne_of_gt (blk_lt (Bh BK146)) : gb148 ≠ gb146)); clear BK146; clear HB; have BK146 := n0_; have HB := n1_; have BK148 := n2_; have GW148 := n3_; have GE148 := n4_; have NB146_148 := n5_; have NB148_146 := n6_; clear n0_ n1_ n2_ n3_ n4_ n5_ n6_; clear hb hbox hg; have hnb3002 := NB148_146.out; have hnc3002 := NB146_148.out; obtain ⟨⟨hcz3003_0, hcz3003_1, hcz3003_2, hcz3003_3, hcz3003_4, hcz3003_5⟩, hfz3003_0, hfz3003_1, hfz3003_2, hfz3003_3, hfz3003_4, hfz3003_5⟩ := cells6 BK148.out) | ((with_reducible refine gate_store (t := 85) (p := 5) rfl ?_); refine store_event (t := 85) (p := 5) (v := ?_) (w1 := ((((((w3001.setCell ⟨gb148, 0, none⟩ (.int .i64 ((rd_T85 l0_2 x32_2).f0))).setCell ⟨gb148, 1, none⟩ (.int .i64 ((rd_T85 l0_2 x32_2).f1))).setCell ⟨gb148, 2, none⟩ (.int .i64 ((rd_T85 l0_2 x32_2).f2))).setCell ⟨gb148, 3, none⟩ (.int .i64 ((rd_T85 l0_2 x32_2).f3))).setCell ⟨gb148, 4, none⟩ (.bool true)).setCell ⟨gb148, 5, none⟩ (.bool (by first | (clear bq1_; exact true) | exact false)))) ?hg ?ho ?hn ?hr ?_; (case ho => rfl); (case hg => rfl); (case hn => rfl); (case hr => first | (go_simp; done) | (go_simp; rfl)); intro w3004 hw; have n0_ : Aside0 (w3004.heap[gb146]? = some (.cells #[.int .i64 a0_0, .int .i64 a0_1, .slice (some ad147) l0_2.length c0_2] 63 (0, 0))) := ⟨(by rw [hw]; exact (by (with_reducible repeat (first | refine blk_drewN ?_ _ | refine blk_drew ?_ | refine blk_alloc ?_ _)); refine blk_far ?_ NB146_148.out _; (with_reducible repeat (first | refine blk_drewN ?_ _ | refine blk_drew ?_ | refine blk_alloc ?_ _)); refine blk_far ?_ NB146_148.out _; (with_reducible repeat (first | refine blk_drewN ?_ _ | refine blk_drew ?_ | refine blk_alloc ?_ _)); refine blk_far ?_ NB146_148.out _; (with_reducible repeat (first | refine blk_drewN ?_ _ | refine blk_drew ?_ | refine blk_alloc ?_ _)); refine blk_far ?_ NB146_148.out _; (with_reducible repeat (first | refine blk_drewN ?_ _ | refine blk_drew ?_ | refine blk_alloc ?_ _)); refine blk_far ?_ NB146_148.out _; (with_reducible repeat (first | refine blk_drewN ?_ _ | refine blk_drew ?_ | refine blk_alloc ?_ _)); refine blk_far ?_ NB146_148.out _; (with_reducible repeat (first | refine blk_drewN ?_ _ | refine blk_drew ?_ | refine blk_alloc ?_ _)); exact BK146.out))⟩; have n1_ : Aside0 (w3004.heap[gb148]? = some (.cells #[.int .i64 ((rd_T85 l0_2 x32_2).f0), .int .i64 ((rd_T85 l0_2 x32_2).f1), .int .i64 ((rd_T85 l0_2 x32_2).f2), .int .i64 ((rd_T85 l0_2 x32_2).f3), .bool true, .bool (by first | (clear bq1_; exact true) | exact false)] 85 (0, 0))) := ⟨(by rw [hw]; exact (by (with_reducible repeat (first | refine blk_drewN ?_ _ | refine blk_drew ?_ | refine blk_alloc ?_ _)); refine blk_put (cs := #[.int .i64 ((rd_T85 l0_2 x32_2).f0), .int .i64 ((rd_T85 l0_2 x32_2).f1), .int .i64 ((rd_T85 l0_2 x32_2).f2), .int .i64 ((rd_T85 l0_2 x32_2).f3), .bool true, .bool false]) ?_ 5 _ rfl; (with_reducible repeat (first | refine blk_drewN ?_ _ | refine blk_drew ?_ | refine blk_alloc ?_ _)); refine blk_put (cs := #[.int .i64 ((rd_T85 l0_2 x32_2).f0), .int .i64 ((rd_T85 l0_2 x32_2).f1), .int .i64 ((rd_T85 l0_2 x32_2).f2), .int .i64 ((rd_T85 l0_2 x32_2).f3), .bool false, .bool false]) ?_ 4 _ rfl; (with_reducible repeat (first | refine blk_drewN ?_ _ | refine blk_drew ?_ | refine blk_alloc ?_ _)); refine blk_put (cs := #[.int .i64 ((rd_T85 l0_2 x32_2).f0), .int .i64 ((rd_T85 l0_2 x32_2).f1), .int .i64 ((rd_T85 l0_2 x32_2).f2), .int .i64 0, .bool false, .bool false]) ?_ 3 _ rfl; (with_reducible repeat (first | refine blk_drewN ?_ _ | refine blk_drew ?_ | refine blk_alloc ?_ _)); refine blk_put (cs := #[.int .i64 ((rd_T85 l0_2 x32_2).f0), .int .i64 ((rd_T85 l0_2 x32_2).f1), .int .i64 0, .int .i64 0, .bool false, .bool false]) ?_ 2 _ rfl; (with_reducible repeat (first | refine blk_drewN ?_ _ | refine blk_drew ?_ | refine blk_alloc ?_ _)); refine blk_put (cs := #[.int .i64 ((rd_T85 l0_2 x32_2).f0), .int .i64 0, .int .i64 0, .int .i64 0, .bool false, .bool false]) ?_ 1 _ rfl; (with_reducible repeat (first | refine blk_drewN ?_ _ | refine blk_drew ?_ | refine blk_alloc ?_ _)); refine blk_put (cs := #[.int .i64 0, .int .i64 0, .int .i64 0, .int .i64 0, .bool false, .bool false]) ?_ 0 _ rfl; (with_reducible repeat (first | refine blk_drewN ?_ _ | refine blk_drew ?_ | refine blk_alloc ?_ _)); exact BK148.out))⟩; have n2_ : Aside0 (Below w.heap.size w w3004) := ⟨(by rw [hw]; exact wB)⟩; clear hw; clear BK146; clear BK148; clear HB; have BK146 := n0_; have BK148 := n1_; have HB := n2_; clear n0_ n1_ n2_; obtain ⟨⟨hcz3005_0, hcz3005_1, hcz3005_2, hcz3005_3, hcz3005_4, hcz3005_5⟩, hfz3005_0, hfz3005_1, hfz3005_2, hfz3005_3, hfz3005_4, hfz3005_5⟩ := cells6 BK148.out))
 all_goals (try (rename_i h_; exfalso; cases h_; done))
 all_goals (try (rename_i h_ h2_; exfalso; cases h_; done))
 )
 rotate_left
 )
 rotate_right 2
 {
 go_ret
 exact ⟨by first | rfl | (simp [errW_none, errW_some] <;> rfl) | (simp [*, errW_none, errW_some] <;> rfl), wB⟩
 }
 {
 go_roundg k2
 case measure => have := HJ1.out; have := HK2.out; omega
 case rel => exact ⟨((rd_T85 l0_2 x32_2).f1), (wrap64 (x32_2 + 1)), (by first | rfl | (simp; done) | (simp [*]; done)), (by first | rfl | (simp; done) | (simp [*]; done)), H', ⟨by have := HJ1.out; have := HK2.out; omega⟩, ⟨Bh BK146⟩, ⟨wB⟩⟩
 }
 {
 (try rw [← Nbq2011.out] at hx147_5)
 cases e147
 replace hx147_0 := (HB.out.cell (World.block_lt_of_cell? w _ hx147_0)).trans hx147_0
 replace hx147_1 := (HB.out.cell (World.block_lt_of_cell? w _ hx147_1)).trans hx147_1
 replace hx147_2 := (HB.out.cell (World.block_lt_of_cell? w _ hx147_2)).trans hx147_2
 replace hx147_3 := (HB.out.cell (World.block_lt_of_cell? w _ hx147_3)).trans hx147_3
 replace hx147_4 := (HB.out.cell (World.block_lt_of_cell? w _ hx147_4)).trans hx147_4
 replace hx147_5 := (HB.out.cell (World.block_lt_of_cell? w _ hx147_5)).trans hx147_5
 replace p147 := eq_true p147
 replace q147 := eq_true q147
 go_wp2_with (first | ((with_reducible refine gate_dst (N := 5) rfl ?_); (try (refine gate_guard (by rfl) ?_; dsimp only)); refine box_event ?hg (N := 5) ?hd (cs := #[.int .i64 0, .int .i64 0, .int .i64 0, .int .i64 0, .bool false, .bool false]) (t := 85) ?hr ?_; (case hd => rfl); (case hg => rfl); (case hr => first | (go_simp; done) | (go_simp; rfl)); intro gb148 hg w3001 hbox hb; have n0_ := Aside0.mk (blk_below (Bh BK146) hb); have n1_ := Aside0.mk (below_step wB hb); have n2_ := Aside0.mk (hbox); have n3_ := Aside0.mk ((by rw [hg]; exact (below_size wB) : w.heap.size ≤ gb148)); have n4_ := Aside0.mk ((by rw [hg]; exact (below_size wB) : w.heap.size ≤ gb148)); have n5_ := Aside0.mk ((by rw [hg]; exact Nat.ne_of_lt (blk_lt (Bh BK146)) : gb146 ≠ gb148)); have n6_ := Aside0.mk ((by rw [hg]; exact Nat.ne_of_gt (blk_lt (Bh BK146)) : gb148 ≠ gb146)); clear BK146; clear HB; have BK146 := n0_; have HB := n1_; have BK148 := n2_; have GW148 := n3_; have GE148 := n4_; have NB146_148 := n5_; have NB148_146 := n6_; clear n0_ n1_ n2_ n3_ n4_ n5_ n6_; clear hb hbox hg; have hnb3002 := NB148_146.out; have hnc3002 := NB146_148.out; obtain ⟨⟨hcz3003_0, hcz3003_1, hcz3003_2, hcz3003_3, hcz3003_4, hcz3003_5⟩, hfz3003_0, hfz3003_1, hfz3003_2, hfz3003_3, hfz3003_4, hfz3003_5⟩ := cells6 BK148.out) | ((with_reducible refine gate_store (t := 85) (p := 5) rfl ?_); refine store_event (t := 85) (p := 5) (v := ?_) (w1 := ((((((w3001.setCell ⟨gb148, 0, none⟩ (.int .i64 ((rd_T85 l0_2 x32_2).f0))).setCell ⟨gb148, 1, none⟩ (.int .i64 ((rd_T85 l0_2 x32_2).f1))).setCell ⟨gb148, 2, none⟩ (.int .i64 ((rd_T85 l0_2 x32_2).f2))).setCell ⟨gb148, 3, none⟩ (.int .i64 ((rd_T85 l0_2 x32_2).f3))).setCell ⟨gb148, 4, none⟩ (.bool false)).setCell ⟨gb148, 5, none⟩ (.bool ((rd_T85 l0_2 x32_2).f5)))) ?hg ?ho ?hn ?hr ?_; (case ho => rfl); (case hg => rfl); (case hn => rfl); (case hr => first | (go_simp; done) | (go_simp; rfl)); intro w3004 hw; have n0_ : Aside0 (w3004.heap[gb146]? = some (.cells #[.int .i64 a0_0, .int .i64 a0_1, .slice (some ad147) l0_2.length c0_2] 63 (0, 0))) := ⟨(by rw [hw]; exact (by (with_reducible repeat (first | refine blk_drewN ?_ _ | refine blk_drew ?_ | refine blk_alloc ?_ _)); refine blk_far ?_ NB146_148.out _; (with_reducible repeat (first | refine blk_drewN ?_ _ | refine blk_drew ?_ | refine blk_alloc ?_ _)); refine blk_far ?_ NB146_148.out _; (with_reducible repeat (first | refine blk_drewN ?_ _ | refine blk_drew ?_ | refine blk_alloc ?_ _)); refine blk_far ?_ NB146_148.out _; (with_reducible repeat (first | refine blk_drewN ?_ _ | refine blk_drew ?_ | refine blk_alloc ?_ _)); refine blk_far ?_ NB146_148.out _; (with_reducible repeat (first | refine blk_drewN ?_ _ | refine blk_drew ?_ | refine blk_alloc ?_ _)); refine blk_far ?_ NB146_148.out _; (with_reducible repeat (first | refine blk_drewN ?_ _ | refine blk_drew ?_ | refine blk_alloc ?_ _)); refine blk_far ?_ NB146_148.out _; (with_reducible repeat (first | refine blk_drewN ?_ _ | refine blk_drew ?_ | refine blk_alloc ?_ _)); exact BK146.out))⟩; have n1_ : Aside0 (w3004.heap[gb148]? = some (.cells #[.int .i64 ((rd_T85 l0_2 x32_2).f0), .int .i64 ((rd_T85 l0_2 x32_2).f1), .int .i64 ((rd_T85 l0_2 x32_2).f2), .int .i64 ((rd_T85 l0_2 x32_2).f3), .bool false, .bool ((rd_T85 l0_2 x32_2).f5)] 85 (0, 0))) := ⟨(by rw [hw]; exact (by (with_reducible repeat (first | refine blk_drewN ?_ _ | refine blk_drew ?_ | refine blk_alloc ?_ _)); refine blk_put (cs := #[.int .i64 ((rd_T85 l0_2 x32_2).f0), .int .i64 ((rd_T85 l0_2 x32_2).f1), .int .i64 ((rd_T85 l0_2 x32_2).f2), .int .i64 ((rd_T85 l0_2 x32_2).f3), .bool false, .bool false]) ?_ 5 _ rfl; (with_reducible repeat (first | refine blk_drewN ?_ _ | refine blk_drew ?_ | refine blk_alloc ?_ _)); refine blk_put (cs := #[.int .i64 ((rd_T85 l0_2 x32_2).f0), .int .i64 ((rd_T85 l0_2 x32_2).f1), .int .i64 ((rd_T85 l0_2 x32_2).f2), .int .i64 ((rd_T85 l0_2 x32_2).f3), .bool false, .bool false]) ?_ 4 _ rfl; (with_reducible repeat (first | refine blk_drewN ?_ _ | refine blk_drew ?_ | refine blk_alloc ?_ _)); refine blk_put (cs := #[.int .i64 ((rd_T85 l0_2 x32_2).f0), .int .i64 ((rd_T85 l0_2 x32_2).f1), .int .i64 ((rd_T85 l0_2 x32_2).f2), .int .i64 0, .bool false, .bool false]) ?_ 3 _ rfl; (with_reducible repeat (first | refine blk_drewN ?_ _ | refine blk_drew ?_ | refine blk_alloc ?_ _)); refine blk_put (cs := #[.int .i64 ((rd_T85 l0_2 x32_2).f0), .int .i64 ((rd_T85 l0_2 x32_2).f1), .int .i64 0, .int .i64 0, .bool false, .bool false]) ?_ 2 _ rfl; (with_reducible repeat (first | refine blk_drewN ?_ _ | refine blk_drew ?_ | refine blk_alloc ?_ _)); refine blk_put (cs := #[.int .i64 ((rd_T85 l0_2 x32_2).f0), .int .i64 0, .int .i64 0, .int .i64 0, .bool false, .bool false]) ?_ 1 _ rfl; (with_reducible repeat (first | refine blk_drewN ?_ _ | refine blk_drew ?_ | refine blk_alloc ?_ _)); refine blk_put (cs := #[.int .i64 0, .int .i64 0, .int .i64 0, .int .i64 0, .bool false, .bool false]) ?_ 0 _ rfl; (with_reducible repeat (first | refine blk_drewN ?_ _ | refine blk_drew ?_ | refine blk_alloc ?_ _)); exact BK148.out))⟩; have n2_ : Aside0 (Below w.heap.size w w3004) := ⟨(by rw [hw]; exact wB)⟩; clear hw; clear BK146; clear BK148; clear HB; have BK146 := n0_; have BK148 := n1_; have HB := n2_; clear n0_ n1_ n2_; obtain ⟨⟨hcz3005_0, hcz3005_1, hcz3005_2, hcz3005_3, hcz3005_4, hcz3005_5⟩, hfz3005_0, hfz3005_1, hfz3005_2, hfz3005_3, hfz3005_4, hfz3005_5⟩ := cells6 BK148.out))
 all_goals (try (rename_i h_; exfalso; cases h_; done))
 all_goals (try (rename_i h_ h2_; exfalso; cases h_; done))
 go_roundg k2
 case measure => have := HJ1.out; have := HK2.out; omega
 case rel => exact ⟨((rd_T85 l0_2 x32_2).f1), (wrap64 (x32_2 + 1)), (by first | rfl | (simp; done) | (simp [*]; done)), (by first | rfl | (simp; done) | (simp [*]; done)), H', ⟨by have := HJ1.out; have := HK2.out; omega⟩, ⟨Bh BK146⟩, ⟨wB⟩⟩
 }
 {
 cases e147
 replace hx147_0 := (HB.out.cell (World.block_lt_of_cell? w _ hx147_0)).trans hx147_0
 replace hx147_1 := (HB.out.cell (World.block_lt_of_cell? w _ hx147_1)).trans hx147_1
 replace hx147_2 := (HB.out.cell (World.block_lt_of_cell? w _ hx147_2)).trans hx147_2
 replace hx147_3 := (HB.out.cell (World.block_lt_of_cell? w _ hx147_3)).trans hx147_3
 replace hx147_4 := (HB.out.cell (World.block_lt_of_cell? w _ hx147_4)).trans hx147_4
 replace hx147_5 := (HB.out.cell (World.block_lt_of_cell? w _ hx147_5)).trans hx147_5
 replace p147 := eq_true p147
 replace q147 := eq_true q147
 go_wp2_with (first | ((with_reducible refine gate_dst (N := 5) rfl ?_); (try (refine gate_guard (by rfl) ?_; dsimp only)); refine box_event ?hg (N := 5) ?hd (cs := #[.int .i64 0, .int .i64 0, .int .i64 0, .int .i64 0, .bool false, .bool false]) (t := 85) ?hr ?_; (case hd => rfl); (case hg => rfl); (case hr => first | (go_simp; done) | (go_simp; rfl)); intro gb148 hg w3001 hbox hb; have n0_ := Aside0.mk (blk_below (Bh BK146) hb); have n1_ := Aside0.mk (below_step wB hb); have n2_ := Aside0.mk (hbox); have n3_ := Aside0.mk ((by rw [hg]; exact (below_size wB) : w.heap.size ≤ gb148)); have n4_ := Aside0.mk ((by rw [hg]; exact (below_size wB) : w.heap.size ≤ gb148)); have n5_ := Aside0.mk ((by rw [hg]; exact Nat.ne_of_lt (blk_lt (Bh BK146)) : gb146 ≠ gb148)); have n6_ := Aside0.mk ((by rw [hg]; exact Nat.ne_of_gt (blk_lt (Bh BK146)) : gb148 ≠ gb146)); clear BK146; clear HB; have BK146 := n0_; have HB := n1_; have BK148 := n2_; have GW148 := n3_; have GE148 := n4_; have NB146_148 := n5_; have NB148_146 := n6_; clear n0_ n1_ n2_ n3_ n4_ n5_ n6_; clear hb hbox hg; have hnb3002 := NB148_146.out; have hnc3002 := NB146_148.out; obtain ⟨⟨hcz3003_0, hcz3003_1, hcz3003_2, hcz3003_3, hcz3003_4, hcz3003_5⟩, hfz3003_0, hfz3003_1, hfz3003_2, hfz3003_3, hfz3003_4, hfz3003_5⟩ := cells6 BK148.out) | ((with_reducible refine gate_store (t := 85) (p := 5) rfl ?_); refine store_event (t := 85) (p := 5) (v := ?_) (w1 := ((((((w3001.setCell ⟨gb148, 0, none⟩ (.int .i64 ((rd_T85 l0_2 x32_2).f0))).setCell ⟨gb148, 1, none⟩ (.int .i64 ((rd_T85 l0_2 x32_2).f1))).setCell ⟨gb148, 2, none⟩ (.int .i64 ((rd_T85 l0_2 x32_2).f2))).setCell ⟨gb148, 3, none⟩ (.int .i64 ((rd_T85 l0_2 x32_2).f3))).setCell ⟨gb148, 4, none⟩ (.bool ((rd_T85 l0_2 x32_2).f4))).setCell ⟨gb148, 5, none⟩ (.bool ((rd_T85 l0_2 x32_2).f5)))) ?hg ?ho ?hn ?hr ?_; (case ho => rfl); (case hg => rfl); (case hn => rfl); (case hr => first | (go_simp; done) | (go_simp; rfl)); intro w3004 hw; have n0_ : Aside0 (w3004.heap[gb146]? = some (.cells #[.int .i64 a0_0, .int .i64 a0_1, .slice (some ad147) l0_2.length c0_2] 63 (0, 0))) := ⟨(by rw [hw]; exact (by (with_reducible repeat (first | refine blk_drewN ?_ _ | refine blk_drew ?_ | refine blk_alloc ?_ _)); refine blk_far ?_ NB146_148.out _; (with_reducible repeat (first | refine blk_drewN ?_ _ | refine blk_drew ?_ | refine blk_alloc ?_ _)); refine blk_far ?_ NB146_148.out _; (with_reducible repeat (first | refine blk_drewN ?_ _ | refine blk_drew ?_ | refine blk_alloc ?_ _)); refine blk_far ?_ NB146_148.out _; (with_reducible repeat (first | refine blk_drewN ?_ _ | refine blk_drew ?_ | refine blk_alloc ?_ _)); refine blk_far ?_ NB146_148.out _; (with_reducible repeat (first | refine blk_drewN ?_ _ | refine blk_drew ?_ | refine blk_alloc ?_ _)); refine blk_far ?_ NB146_148.out _; (with_reducible repeat (first | refine blk_drewN ?_ _ | refine blk_drew ?_ | refine blk_alloc ?_ _)); refine blk_far ?_ NB146_148.out _; (with_reducible repeat (first | refine blk_drewN ?_ _ | refine blk_drew ?_ | refine blk_alloc ?_ _)); exact BK146.out))⟩; have n1_ : Aside0 (w3004.heap[gb148]? = some (.cells #[.int .i64 ((rd_T85 l0_2 x32_2).f0), .int .i64 ((rd_T85 l0_2 x32_2).f1), .int .i64 ((rd_T85 l0_2 x32_2).f2), .int .i64 ((rd_T85 l0_2 x32_2).f3), .bool ((rd_T85 l0_2 x32_2).f4), .bool ((rd_T85 l0_2 x32_2).f5)] 85 (0, 0))) := ⟨(by rw [hw]; exact (by (with_reducible repeat (first | refine blk_drewN ?_ _ | refine blk_drew ?_ | refine blk_alloc ?_ _)); refine blk_put (cs := #[.int .i64 ((rd_T85 l0_2 x32_2).f0), .int .i64 ((rd_T85 l0_2 x32_2).f1), .int .i64 ((rd_T85 l0_2 x32_2).f2), .int .i64 ((rd_T85 l0_2 x32_2).f3), .bool ((rd_T85 l0_2 x32_2).f4), .bool false]) ?_ 5 _ rfl; (with_reducible repeat (first | refine blk_drewN ?_ _ | refine blk_drew ?_ | refine blk_alloc ?_ _)); refine blk_put (cs := #[.int .i64 ((rd_T85 l0_2 x32_2).f0), .int .i64 ((rd_T85 l0_2 x32_2).f1), .int .i64 ((rd_T85 l0_2 x32_2).f2), .int .i64 ((rd_T85 l0_2 x32_2).f3), .bool false, .bool false]) ?_ 4 _ rfl; (with_reducible repeat (first | refine blk_drewN ?_ _ | refine blk_drew ?_ | refine blk_alloc ?_ _)); refine blk_put (cs := #[.int .i64 ((rd_T85 l0_2 x32_2).f0), .int .i64 ((rd_T85 l0_2 x32_2).f1), .int .i64 ((rd_T85 l0_2 x32_2).f2), .int .i64 0, .bool false, .bool false]) ?_ 3 _ rfl; (with_reducible repeat (first | refine blk_drewN ?_ _ | refine blk_drew ?_ | refine blk_alloc ?_ _)); refine blk_put (cs := #[.int .i64 ((rd_T85 l0_2 x32_2).f0), .int .i64 ((rd_T85 l0_2 x32_2).f1), .int .i64 0, .int .i64 0, .bool false, .bool false]) ?_ 2 _ rfl; (with_reducible repeat (first | refine blk_drewN ?_ _ | refine blk_drew ?_ | refine blk_alloc ?_ _)); refine blk_put (cs := #[.int .i64 ((rd_T85 l0_2 x32_2).f0), .int .i64 0, .int .i64 0, .int .i64 0, .bool false, .bool false]) ?_ 1 _ rfl; (with_reducible repeat (first | refine blk_drewN ?_ _ | refine blk_drew ?_ | refine blk_alloc ?_ _)); refine blk_put (cs := #[.int .i64 0, .int .i64 0, .int .i64 0, .int .i64 0, .bool false, .bool false]) ?_ 0 _ rfl; (with_reducible repeat (first | refine blk_drewN ?_ _ | refine blk_drew ?_ | refine blk_alloc ?_ _)); exact BK148.out))⟩; have n2_ : Aside0 (Below w.heap.size w w3004) := ⟨(by rw [hw]; exact wB)⟩; clear hw; clear BK146; clear BK148; clear HB; have BK146 := n0_; have BK148 := n1_; have HB := n2_; clear n0_ n1_ n2_; obtain ⟨⟨hcz3005_0, hcz3005_1, hcz3005_2, hcz3005_3, hcz3005_4, hcz3005_5⟩, hfz3005_0, hfz3005_1, hfz3005_2, hfz3005_3, hfz3005_4, hfz3005_5⟩ := cells6 BK148.out))
 all_goals (try (rename_i h_; exfalso; cases h_; done))
 all_goals (try (rename_i h_ h2_; exfalso; cases h_; done))
 go_ret
 exact ⟨by first | rfl | (simp [errW_none, errW_some] <;> rfl) | (simp [*, errW_none, errW_some] <;> rfl), wB⟩
 }
 {
 obtain ⟨⟨hcz3001_0, hcz3001_1, hcz3001_2⟩, hfz3001_0, hfz3001_1, hfz3001_2⟩ := cells3 BK146.out
 go_wp2
 all_goals (try (rename_i h_; exfalso; cases h_; done))
 all_goals (try (rename_i h_ h2_; exfalso; cases h_; done))
 go_ret
 exact ⟨by first | rfl | (simp [errW_none, errW_some] <;> rfl) | (simp [*, errW_none, errW_some] <;> rfl), wB⟩
 }
 }
 )
 }
 }
 )

/-! ### impl_Piece: function 134 -/
def impl_Piece.f (l0 : List (S85)) : Option ((List (S85))) := (some (([] : List (S85)) : List (S85))).bind fun y149 => (if y149.length + l0.length < 3518437208883 then (some (y149 ++ l0)) else (none))
set_option maxHeartbeats 60000000 in
set_option maxRecDepth 100000 in
theorem impl_Piece.calls (A0 : Option Addr) (c0 : Nat) (l0 : List (S85)) (r : List (S85)) (w : World) (hr0 : Kd.C k85 w A0 l0.length l0) (hc0 : l0.length ≤ c0) (h : impl_Piece.f l0 = some r) :
    Calls Try.prog 134 #[.slice A0 l0.length c0] w fun e w' => ∃ v0_ : Value, e = .returned (v0_) ∧ Kd.R k85 85 w' w.heap.size (fun _ => True) v0_ r ∧ Below w.heap.size w w' := by
  by_cases hA : A0.isNone = true
  · have hA : A0 = none := Option.isNone_iff_eq_none.1 hA
    subst hA
    obtain rfl : l0 = [] := by
      cases l0 with
      | nil => rfl
      | cons x l => obtain ⟨ad, ha, _⟩ := hr0.2.2 (by simp); cases ha
    have he_ : ∀ w : World, (binOp .eql 61 (.slice none ([] : List (S85)).length c0) (.slice none 0 0)).run Try.prog w = .ok (.bool true) w := fun _ => rfl
    have he2_ : ∀ w : World, (binOp .eql 61 (.slice none 0 c0) (.slice none 0 0)).run Try.prog w = .ok (.bool true) w := fun _ => rfl
    have h2 : impl_Piece.f [] = some [] := by simp [impl_Piece.f]
    obtain rfl := Option.some.inj (h2.symm.trans h)
    go_enter Try.func134, Try.ntmps134
    go_wp2
    go_ret
    exact ⟨_, rfl, Kd.R_nil _ _ _ _ _, Below.refl _ _⟩
  have he_ : ∀ w : World, (binOp .eql 61 (.slice A0 l0.length c0) (.slice none 0 0)).run Try.prog w = .ok (.bool false) w := fun w => by
    cases A0 with
    | none => exact absurd rfl hA
    | some ad => rfl
  have HR0 := Aside0.mk hr0
  have HC0 := Aside0.mk hc0
  clear hr0 hc0
  have HB := Aside0.mk (Below.refl w.heap.size w)
  have H : ((some (([] : List (S85)) : List (S85))).bind fun y149 => (if y149.length + l0.length < 3518437208883 then (some (y149 ++ l0)) else (none))) = some r := h
  clear h
  obtain ⟨y149, hy149⟩ : ∃ y_ : List (S85), y_ = (([] : List (S85))) := ⟨_, rfl⟩
  replace H : (if y149.length + l0.length < 3518437208883 then (some (y149 ++ l0)) else (none)) = some r := by first | (rw [hy149]; with_reducible exact H) | (have H2_ := (Option.bind_some _ _).symm.trans H; rw [hy149]; with_reducible exact H2_) | (have H2_ := (Option.bind_some _ _).symm.trans H; with_reducible exact H2_) | with_reducible exact H | (rw [hy149]; exact H) | exact H
  have Ny149 := Aside0.mk hy149
  clear hy149
  by_cases c2 : y149.length + l0.length < 3518437208883
  · rw [if_pos c2] at H
    have LMc2 := Aside0.mk c2
    clear c2
    obtain ⟨y152, hy152⟩ : ∃ y_ : List (S85), y_ = (y149 ++ l0) := ⟨_, rfl⟩
    replace H : (some y152) = some r := by first | (rw [hy152]; with_reducible exact H) | (have H2_ := (Option.bind_some _ _).symm.trans H; rw [hy152]; with_reducible exact H2_) | (have H2_ := (Option.bind_some _ _).symm.trans H; with_reducible exact H2_) | with_reducible exact H | (rw [hy152]; exact H) | exact H
    have Ny152 := Aside0.mk hy152
    clear hy152
    obtain rfl := Option.some.inj H
    go_enter Try.func134, Try.ntmps134
    go_wp2_with (first | ((with_reducible refine gate_dst (N := 5) rfl ?_); refine Kd.R_lit k85 _ 85 ?hg (N := 5) ?hd (xs := ([] : List (S85))) (inner := []) (ok := fun _ => True) (okp := fun _ => True) ?hr ?hp (fun _ hk => hk) trivial (Below.refl _ _) (Nat.le_refl _) (by simp) ?_; (case hd => rfl); (case hg => rfl); (case hr => first | (go_simp; done) | (go_simp; rfl)); (case hp => exact (Reps.none _ _)); intro v150 w1001 ho1002 hb hg_ hnew_; clear hg_ hnew_; (first | rw [← Ny149.out] at ho1002 | (simp only [Int.reduceToNat] at ho1002; rw [← Ny149.out] at ho1002)); have n0_ := Aside0.mk (Kd.R_lower ho1002 (below_size wB)); have n1_ := Aside0.mk (below_step wB hb); clear HB; have HO151 := n0_; have HB := n1_; clear n0_ n1_; clear hb ho1002) | ((with_reducible refine gate_builtin (b := .append) (xs := #[.tmp 5, .tmp 6]) rfl ?_); at_builtin; refine Kd.R_append_rows k85 (w0 := w) w.heap.size rfl (.tmp 5) (.tmp 6) 61 85 (.agg #[(.int .i64 0), (.int .i64 0), (.int .i64 0), (.int .i64 0), (.bool false), (.bool false)]) 40 rfl Try.underlying61 info85 rfl (by decide) (by omega) v150 y149 l0 _ _ _ (fun _ => True) (fun _ => False) rfl rfl ?aO ?aR (fun _ _ h => h) (fun _ h => h.elim) ?aF ?aB ?aS ?aL ?_; (case aR => exact Kd.C_below HR0.out wB); (case aB => exact wB); (case aF => exact (fun _ _ => trivial)); (case aO => exact (Rh HO151)); (case aS => exact (below_size wB)); (case aL => have := LMc2.out; omega); intro v153 w1003 ho hb hg hat; rw [← Ny152.out] at ho; have n0_ := Aside0.mk (hb); have n1_ := Aside0.mk (ho); clear HB; clear HO151; have HB := n0_; have HO154 := n1_; clear n0_ n1_; clear ho hb hg hat))
    go_ret
    exact ⟨_, by first | rfl | (simp [errW_none, errW_some] <;> rfl) | (simp [*, errW_none, errW_some] <;> rfl), by (with_reducible repeat (first | apply Kd.R_alloc | apply Kd.R_drewN | apply Kd.R_drew)); exact HO154.out, wB⟩
  · rw [if_neg c2] at H
    exact absurd H (by simp)

/-! ### impl_ownBoard: function 87 -/
def impl_ownBoard.f (a0_0 : Int) (a0_1 : Int) (l0_2 : List (S85)) : Option (Int × Int × (List (S85))) := (impl_Piece.f l0_2).bind fun t157 => (some (a0_0, a0_1, t157))
set_option maxHeartbeats 60000000 in
set_option maxRecDepth 100000 in
theorem impl_ownBoard.calls (a0_0 : Int) (a0_1 : Int) (A0_2 : Option Addr) (c0_2 : Nat) (l0_2 : List (S85)) (r1 : Int) (r2 : Int) (r3 : List (S85)) (w : World) (hr0_2 : Kd.C k85 w A0_2 l0_2.length l0_2) (hc0_2 : l0_2.length ≤ c0_2) (h : impl_ownBoard.f a0_0 a0_1 l0_2 = some (r1, r2, r3)) :
    Calls Try.prog 87 #[.agg #[.int .i64 a0_0, .int .i64 a0_1, .slice A0_2 l0_2.length c0_2]] w fun e w' => ∃ v2_ : Value, e = .returned (.agg #[.int .i64 r1, .int .i64 r2, v2_]) ∧ Kd.R k85 85 w' w.heap.size (fun _ => True) v2_ r3 ∧ Below w.heap.size w w' := by
  have hu63 := Try.underlying63
  have HR0_2 := Aside0.mk hr0_2
  have HC0_2 := Aside0.mk hc0_2
  clear hr0_2 hc0_2
  have HB := Aside0.mk (Below.refl w.heap.size w)
  have H : ((impl_Piece.f l0_2).bind fun t157 => (some (a0_0, a0_1, t157))) = some (r1, r2, r3) := h
  clear h
  replace H := Option.bind_eq_some_iff.mp H
  obtain ⟨t157, A20, H⟩ := H
  replace H : (some (a0_0, a0_1, t157)) = some (r1, r2, r3) := H
  have A2 := Aside0.mk A20
  clear A20
  simp only [Option.some.injEq, Prod.mk.injEq] at H
  obtain ⟨rfl, rfl, rfl⟩ := H
  go_enter Try.func87, Try.ntmps87
  go_wp2_with (first | ((with_reducible refine gate_dst (N := 1) rfl ?_); refine box_event ?hg (N := 1) ?hd (cs := #[.int .i64 a0_0, .int .i64 a0_1, .slice A0_2 l0_2.length c0_2]) (t := 63) ?hr ?_; (case hd => rfl); (case hg => rfl); (case hr => first | (go_simp; done) | (go_simp; rfl)); intro gb155 hg w1001 hbox hb; have n0_ := Aside0.mk (below_step wB hb); have n1_ := Aside0.mk (hbox); have n2_ := Aside0.mk ((by rw [hg]; exact (below_size wB) : w.heap.size ≤ gb155)); have n3_ := Aside0.mk ((by rw [hg]; exact (below_size wB) : w.heap.size ≤ gb155)); clear HB; have HB := n0_; have BK155 := n1_; have GW155 := n2_; have GE155 := n3_; clear n0_ n1_ n2_ n3_; clear hb hbox hg) | ((with_reducible refine gate_dst (N := 2) rfl ?_); refine box_event ?hg (N := 2) ?hd (cs := #[.int .i64 0, .int .i64 0, .slice none 0 0]) (t := 63) ?hr ?_; (case hd => rfl); (case hg => rfl); (case hr => first | (go_simp; done) | (go_simp; rfl)); intro gb156 hg w1002 hbox hb; have n0_ := Aside0.mk (blk_below (Bh BK155) hb); have n1_ := Aside0.mk (below_step wB hb); have n2_ := Aside0.mk (hbox); have n3_ := Aside0.mk ((by rw [hg]; exact (below_size wB) : w.heap.size ≤ gb156)); have n4_ := Aside0.mk ((by rw [hg]; exact (below_size wB) : w.heap.size ≤ gb156)); have n5_ := Aside0.mk ((by rw [hg]; exact Nat.ne_of_lt (blk_lt (Bh BK155)) : gb155 ≠ gb156)); have n6_ := Aside0.mk ((by rw [hg]; exact Nat.ne_of_gt (blk_lt (Bh BK155)) : gb156 ≠ gb155)); clear BK155; clear HB; have BK155 := n0_; have HB := n1_; have BK156 := n2_; have GW156 := n3_; have GE156 := n4_; have NB155_156 := n5_; have NB156_155 := n6_; clear n0_ n1_ n2_ n3_ n4_ n5_ n6_; clear hb hbox hg; have hnb1003 := NB155_156.out; have hnc1003 := NB156_155.out; obtain ⟨⟨hcz1004_0, hcz1004_1, hcz1004_2⟩, hfz1004_0, hfz1004_1, hfz1004_2⟩ := cells3 BK155.out) | ((with_reducible refine gate_callee (f := 134) rfl ?_); refine goesL_ (some 5) rfl rfl Try.func134 (by kernel_rfl) rfl #[.slice A0_2 l0_2.length c0_2] rfl wT ?_; (with_reducible refine (impl_Piece.calls _ _ l0_2 t157 _ ?side1 ?side2 A2.out).mono ?_); (case side1 => exact Kd.C_below HR0_2.out wB); (case side2 => exact HC0_2.out); rintro e w1005 ⟨v158, rfl, ho0, hb⟩; refine ⟨_, rfl, ?_⟩; have n0_ := Aside0.mk (Kd.R_lower ho0 (below_size wB)); have n1_ := Aside0.mk (blk_below (Bh BK155) hb); have n2_ := Aside0.mk (blk_below (Bh BK156) hb); have n3_ := Aside0.mk (below_step wB hb); clear BK155; clear BK156; clear HB; have HO159 := n0_; have BK155 := n1_; have BK156 := n2_; have HB := n3_; clear n0_ n1_ n2_ n3_; (try clear hb); (try clear hb2); (try clear hk); (try clear hi); (try clear ho0); obtain ⟨Ao1006, co1006, eo1006⟩ := Kd.R_slice HO159.out; subst eo1006; obtain ⟨⟨hcz1007_0, hcz1007_1, hcz1007_2⟩, hfz1007_0, hfz1007_1, hfz1007_2⟩ := cells3 BK155.out; obtain ⟨⟨hcz1008_0, hcz1008_1, hcz1008_2⟩, hfz1008_0, hfz1008_1, hfz1008_2⟩ := cells3 BK156.out) | ((with_reducible refine gate_store (t := 63) (p := 2) rfl ?_); refine store_event (t := 63) (p := 2) (v := ?_) (w1 := ((((w1005.setCell ⟨gb155, 2, none⟩ (.slice Ao1006 t157.length co1006)).setCell ⟨gb156, 0, none⟩ (.int .i64 a0_0)).setCell ⟨gb156, 1, none⟩ (.int .i64 a0_1)).setCell ⟨gb156, 2, none⟩ (.slice Ao1006 t157.length co1006))) ?hg ?ho ?hn ?hr ?_; (case ho => rfl); (case hg => rfl); (case hn => rfl); (case hr => first | (go_simp; done) | (go_simp; rfl)); intro w1009 hw; have n0_ : Aside0 (Kd.R k85 85 w1009 w.heap.size (fun _ => True) (.slice Ao1006 t157.length co1006) t157) := ⟨(by rw [hw]; exact (by (with_reducible repeat (first | apply Kd.R_alloc | apply Kd.R_drewN | apply Kd.R_drew)); exact Kd.R_mono (Kd.R_far (p := ⟨gb156, 2, none⟩) (Kd.R_far (p := ⟨gb156, 1, none⟩) (Kd.R_far (p := ⟨gb156, 0, none⟩) (Kd.R_far (p := ⟨gb155, 2, none⟩) (Kd.R_types (Kd.R_types HO159.out BK155.out (by decide)) BK156.out (by decide)) (fun _ hk => hk.1.2) (.slice Ao1006 t157.length co1006)) (fun _ hk => hk.2) (.int .i64 a0_0)) (fun _ hk => hk.2) (.int .i64 a0_1)) (fun _ hk => hk.2) (.slice Ao1006 t157.length co1006)) (fun _ hk => trivial)))⟩; have n1_ : Aside0 (w1009.heap[gb155]? = some (.cells #[.int .i64 a0_0, .int .i64 a0_1, .slice Ao1006 t157.length co1006] 63 (0, 0))) := ⟨(by rw [hw]; exact (by (with_reducible repeat (first | refine blk_drewN ?_ _ | refine blk_drew ?_ | refine blk_alloc ?_ _)); refine blk_far ?_ NB155_156.out _; (with_reducible repeat (first | refine blk_drewN ?_ _ | refine blk_drew ?_ | refine blk_alloc ?_ _)); refine blk_far ?_ NB155_156.out _; (with_reducible repeat (first | refine blk_drewN ?_ _ | refine blk_drew ?_ | refine blk_alloc ?_ _)); refine blk_far ?_ NB155_156.out _; (with_reducible repeat (first | refine blk_drewN ?_ _ | refine blk_drew ?_ | refine blk_alloc ?_ _)); refine blk_put (cs := #[.int .i64 a0_0, .int .i64 a0_1, .slice A0_2 l0_2.length c0_2]) ?_ 2 _ rfl; (with_reducible repeat (first | refine blk_drewN ?_ _ | refine blk_drew ?_ | refine blk_alloc ?_ _)); exact BK155.out))⟩; have n2_ : Aside0 (w1009.heap[gb156]? = some (.cells #[.int .i64 a0_0, .int .i64 a0_1, .slice Ao1006 t157.length co1006] 63 (0, 0))) := ⟨(by rw [hw]; exact (by (with_reducible repeat (first | refine blk_drewN ?_ _ | refine blk_drew ?_ | refine blk_alloc ?_ _)); refine blk_put (cs := #[.int .i64 a0_0, .int .i64 a0_1, .slice none 0 0]) ?_ 2 _ rfl; (with_reducible repeat (first | refine blk_drewN ?_ _ | refine blk_drew ?_ | refine blk_alloc ?_ _)); refine blk_put (cs := #[.int .i64 a0_0, .int .i64 0, .slice none 0 0]) ?_ 1 _ rfl; (with_reducible repeat (first | refine blk_drewN ?_ _ | refine blk_drew ?_ | refine blk_alloc ?_ _)); refine blk_put (cs := #[.int .i64 0, .int .i64 0, .slice none 0 0]) ?_ 0 _ rfl; (with_reducible repeat (first | refine blk_drewN ?_ _ | refine blk_drew ?_ | refine blk_alloc ?_ _)); refine blk_far ?_ NB156_155.out _; (with_reducible repeat (first | refine blk_drewN ?_ _ | refine blk_drew ?_ | refine blk_alloc ?_ _)); exact BK156.out))⟩; have n3_ : Aside0 (Below w.heap.size w w1009) := ⟨(by rw [hw]; exact wB)⟩; clear hw; clear HO159; clear BK155; clear BK156; clear HB; have HO159 := n0_; have BK155 := n1_; have BK156 := n2_; have HB := n3_; clear n0_ n1_ n2_ n3_))
  refine bodyPost_ret (results_cell_row rfl _ _ gb156 63 #[.int .i64 a0_0, .int .i64 a0_1, .slice Ao1006 t157.length co1006] (0, 0) _ rfl (Bh BK156) Try.underlying63 rfl (by kernel_rfl)) rfl ?_
  exact ⟨_, by first | rfl | (simp [errW_none, errW_some] <;> rfl) | (simp [*, errW_none, errW_some] <;> rfl), by (with_reducible repeat (first | apply Kd.R_alloc | apply Kd.R_drewN | apply Kd.R_drew)); exact HO159.out, wB⟩

end Go.Proofs.Ytkfbcmbemihbnaa.PFnExactBoardTimeout
