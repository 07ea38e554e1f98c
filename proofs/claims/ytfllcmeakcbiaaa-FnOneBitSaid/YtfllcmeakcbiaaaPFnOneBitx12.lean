-- Written for this claim by a program of this session (wip/mkprint.py: the print, turned at a few places). Not trusted: Lean checks it.
import Derived.Test.YtfllcmeakcbiaaaPFnOneBitx0
import Derived.Test.YtfllcmeakcbiaaaPFnOneBitx2
import Derived.Test.YtfllcmeakcbiaaaPFnOneBitx3
import Derived.Test.YtfllcmeakcbiaaaPFnOneBitx4
import Derived.Test.YtfllcmeakcbiaaaPFnOneBitx6
import Derived.Test.YtfllcmeakcbiaaaPFnOneBitx7
import Derived.Test.YtfllcmeakcbiaaaPFnOneBitx8
import Derived.Test.YtfllcmeakcbiaaaPFnOneBitx10
import Derived.Test.YtfllcmeakcbiaaaPFnOneBitx11
namespace Go.Proofs.Ytfllcmeakcbiaaa.PFnOneBit
open Go.RowKit Go.Proofs.YtfllcmeakcbiaaaW.PrintWords Go.Proofs.YtfllcmeakcbiaaaW.PrintLast Go.Proofs.YtfllcmeakcbiaaaW.PrintMore
attribute [local go_sem] max2_int min2_int max_two min_two max_three min_three max_four min_four   -- for this text's walks alone
set_option linter.unusedVariables false
set_option linter.unusedSimpArgs false

/-! ### laws_FnOneBit: function 4 -/
mutual
def laws_FnOneBit.j0 : Nat → List Int → Int → Int → Bool → List Int → Int → Int → Int → Int → List Int → Option (Bool)
  | 0, _, _, _, _, _, _, _, _, _, _ => none
  | k + 1, x0, x5, x6, al, aa, ad, ae, af, ag, ab => if al = true then ((laws_lwNext.f aa ad ae 99).bind fun aj => ((laws_lwNext.f aa aj.2.1 aj.2.2 50).bind fun ac => ((laws_lwPattern.f k aj.1 ac.1).bind fun ak => ((impl_EncodeUdp.f k 7 9 ak 167772161 167772162).bind fun ah => (if ah.2 = 0 then (laws_FnOneBit.j1 k x0 167772161 167772162 ah.1 ((ah.1.length : Int) != (wrap64 (8 + (ak.length : Int)))) aa ac.2.1 ac.2.2 7 9 ak) else (laws_FnOneBit.j1 k x0 167772161 167772162 ah.1 true aa ac.2.1 ac.2.2 7 9 ak)))))) else ((impl_EncodeUdp.f k af ag ab x5 x6).bind fun ai => (if ai.2 = 0 then (laws_FnOneBit.j4 k x0 x5 x6 ai.1 ((ai.1.length : Int) != (wrap64 (8 + (ab.length : Int)))) aa ad ae af ag ab) else (laws_FnOneBit.j4 k x0 x5 x6 ai.1 true aa ad ae af ag ab)))
def laws_FnOneBit.j1 : Nat → List Int → Int → Int → List Int → Bool → List Int → Int → Int → Int → Int → List Int → Option (Bool)
  | 0, _, _, _, _, _, _, _, _, _, _, _ => none
  | k + 1, x0, x5, x6, x9, aj, ab, ad, ae, af, ag, ah => if aj = true then (some false) else ((laws_lwNext.f ab ad ae (wrap64 (8 * (x9.length : Int)))).bind fun aa => (if 0 ≤ (wrap64 (Int.tdiv aa.1 8)) then (if (wrap64 (Int.tdiv aa.1 8)) < (x9.length : Int) then (if 0 ≤ (IntKind.u64.wrap (Int.tmod aa.1 8)) then ((impl_DecodeUdp.f k (x9.set ((wrap64 (Int.tdiv aa.1 8)) : Int).toNat (Go.bits .xor .u8 (rd x9 (wrap64 (Int.tdiv aa.1 8))) (shl .u8 1 (IntKind.u64.wrap (Int.tmod aa.1 8))))) x5 x6).bind fun ac => (if ac.2.2.2 = 0 then (if ac.1 = af then (if ac.2.1 = ag then ((laws_lwSame.f ac.2.2.1 ah).bind fun ai => (laws_FnOneBit.j2 k x0 x5 x6 (!ai) ab aa.2.1 aa.2.2)) else (laws_FnOneBit.j2 k x0 x5 x6 true ab aa.2.1 aa.2.2)) else (laws_FnOneBit.j2 k x0 x5 x6 true ab aa.2.1 aa.2.2)) else (laws_FnOneBit.j2 k x0 x5 x6 false ab aa.2.1 aa.2.2))) else (none)) else (none)) else (none)))
def laws_FnOneBit.j2 : Nat → List Int → Int → Int → Bool → List Int → Int → Int → Option (Bool)
  | 0, _, _, _, _, _, _, _ => none
  | k + 1, x0, x5, x6, af, ac, ad, ae => if af = true then (some false) else ((spec_DrawSegmentLength.f k x0).bind fun aa => ((impl_EncodeSegment.f k aa.1 aa.2.1 aa.2.2.1 aa.2.2.2.1 aa.2.2.2.2.1 aa.2.2.2.2.2.1 aa.2.2.2.2.2.2.1 aa.2.2.2.2.2.2.2.1 aa.2.2.2.2.2.2.2.2.1 aa.2.2.2.2.2.2.2.2.2.1 aa.2.2.2.2.2.2.2.2.2.2.1 aa.2.2.2.2.2.2.2.2.2.2.2 x5 x6).bind fun ab => (if ab.2 = 0 then (laws_FnOneBit.j3 k x5 x6 ab.1 (decide ((ab.1.length : Int) < 20)) ac ad ae) else (laws_FnOneBit.j3 k x5 x6 ab.1 true ac ad ae))))
def laws_FnOneBit.j3 : Nat → Int → Int → List Int → Bool → List Int → Int → Int → Option (Bool)
  | 0, _, _, _, _, _, _, _ => none
  | k + 1, x5, x6, ab, ag, ac, ad, ae => if ag = true then (some false) else ((laws_lwNext.f ac ad ae (wrap64 (8 * (ab.length : Int)))).bind fun aa => (if 0 ≤ (wrap64 (Int.tdiv aa.1 8)) then (if (wrap64 (Int.tdiv aa.1 8)) < (ab.length : Int) then (if 0 ≤ (IntKind.u64.wrap (Int.tmod aa.1 8)) then ((impl_DecodeSegment.f k (ab.set ((wrap64 (Int.tdiv aa.1 8)) : Int).toNat (Go.bits .xor .u8 (rd ab (wrap64 (Int.tdiv aa.1 8))) (shl .u8 1 (IntKind.u64.wrap (Int.tmod aa.1 8))))) x5 x6).bind fun af => (some (af.2.2.2.2.2.2.2.2.2.2.2.2 != 0))) else (none)) else (none)) else (none)))
def laws_FnOneBit.j4 : Nat → List Int → Int → Int → List Int → Bool → List Int → Int → Int → Int → Int → List Int → Option (Bool)
  | 0, _, _, _, _, _, _, _, _, _, _, _ => none
  | k + 1, x0, x5, x6, x9, aj, ab, ad, ae, af, ag, ah => if aj = true then (some false) else ((laws_lwNext.f ab ad ae (wrap64 (8 * (x9.length : Int)))).bind fun aa => (if 0 ≤ (wrap64 (Int.tdiv aa.1 8)) then (if (wrap64 (Int.tdiv aa.1 8)) < (x9.length : Int) then (if 0 ≤ (IntKind.u64.wrap (Int.tmod aa.1 8)) then ((impl_DecodeUdp.f k (x9.set ((wrap64 (Int.tdiv aa.1 8)) : Int).toNat (Go.bits .xor .u8 (rd x9 (wrap64 (Int.tdiv aa.1 8))) (shl .u8 1 (IntKind.u64.wrap (Int.tmod aa.1 8))))) x5 x6).bind fun ac => (if ac.2.2.2 = 0 then (if ac.1 = af then (if ac.2.1 = ag then ((laws_lwSame.f ac.2.2.1 ah).bind fun ai => (laws_FnOneBit.j5 k x0 x5 x6 (!ai) ab aa.2.1 aa.2.2)) else (laws_FnOneBit.j5 k x0 x5 x6 true ab aa.2.1 aa.2.2)) else (laws_FnOneBit.j5 k x0 x5 x6 true ab aa.2.1 aa.2.2)) else (laws_FnOneBit.j5 k x0 x5 x6 false ab aa.2.1 aa.2.2))) else (none)) else (none)) else (none)))
def laws_FnOneBit.j5 : Nat → List Int → Int → Int → Bool → List Int → Int → Int → Option (Bool)
  | 0, _, _, _, _, _, _, _ => none
  | k + 1, x0, x5, x6, af, ac, ad, ae => if af = true then (some false) else ((spec_DrawSegmentLength.f k x0).bind fun aa => ((impl_EncodeSegment.f k aa.1 aa.2.1 aa.2.2.1 aa.2.2.2.1 aa.2.2.2.2.1 aa.2.2.2.2.2.1 aa.2.2.2.2.2.2.1 aa.2.2.2.2.2.2.2.1 aa.2.2.2.2.2.2.2.2.1 aa.2.2.2.2.2.2.2.2.2.1 aa.2.2.2.2.2.2.2.2.2.2.1 aa.2.2.2.2.2.2.2.2.2.2.2 x5 x6).bind fun ab => (if ab.2 = 0 then (laws_FnOneBit.j6 k x5 x6 ab.1 (decide ((ab.1.length : Int) < 20)) ac ad ae) else (laws_FnOneBit.j6 k x5 x6 ab.1 true ac ad ae))))
def laws_FnOneBit.j6 : Nat → Int → Int → List Int → Bool → List Int → Int → Int → Option (Bool)
  | 0, _, _, _, _, _, _, _ => none
  | k + 1, x5, x6, ab, ag, ac, ad, ae => if ag = true then (some false) else ((laws_lwNext.f ac ad ae (wrap64 (8 * (ab.length : Int)))).bind fun aa => (if 0 ≤ (wrap64 (Int.tdiv aa.1 8)) then (if (wrap64 (Int.tdiv aa.1 8)) < (ab.length : Int) then (if 0 ≤ (IntKind.u64.wrap (Int.tmod aa.1 8)) then ((impl_DecodeSegment.f k (ab.set ((wrap64 (Int.tdiv aa.1 8)) : Int).toNat (Go.bits .xor .u8 (rd ab (wrap64 (Int.tdiv aa.1 8))) (shl .u8 1 (IntKind.u64.wrap (Int.tmod aa.1 8))))) x5 x6).bind fun af => (some (af.2.2.2.2.2.2.2.2.2.2.2.2 != 0))) else (none)) else (none)) else (none)))
end
def laws_FnOneBit.f (k : Nat) (l0 : List Int) : Option (Bool) := if (l0.length : Int) > 1048576 then (some true) else ((laws_lwBegin.f k l0 6).bind fun ab => ((spec_DrawEncodeUdp.f k l0).bind fun aa => ((spec_EncodeUdp.f k aa.1 aa.2.1 aa.2.2.1 aa.2.2.2.1 aa.2.2.2.2).bind fun ac => (if ac.2 = 0 then (laws_FnOneBit.j0 k l0 aa.2.2.2.1 aa.2.2.2.2 (decide ((aa.2.2.1.length : Int) > 2000)) l0 ab.1 ab.2 aa.1 aa.2.1 aa.2.2.1) else (laws_FnOneBit.j0 k l0 aa.2.2.2.1 aa.2.2.2.2 true l0 ab.1 ab.2 aa.1 aa.2.1 aa.2.2.1)))))
theorem laws_FnOneBit.mono_l : ∀ k, (∀ y0 y1 y2 y3 y4 y5 y6 y7 y8 y9, LeO (laws_FnOneBit.j0 k y0 y1 y2 y3 y4 y5 y6 y7 y8 y9) (laws_FnOneBit.j0 (k + 1) y0 y1 y2 y3 y4 y5 y6 y7 y8 y9)) ∧ (∀ y0 y1 y2 y3 y4 y5 y6 y7 y8 y9 aa, LeO (laws_FnOneBit.j1 k y0 y1 y2 y3 y4 y5 y6 y7 y8 y9 aa) (laws_FnOneBit.j1 (k + 1) y0 y1 y2 y3 y4 y5 y6 y7 y8 y9 aa)) ∧ (∀ y0 y1 y2 y3 y4 y5 y6, LeO (laws_FnOneBit.j2 k y0 y1 y2 y3 y4 y5 y6) (laws_FnOneBit.j2 (k + 1) y0 y1 y2 y3 y4 y5 y6)) ∧ (∀ y0 y1 y2 y3 y4 y5 y6, LeO (laws_FnOneBit.j3 k y0 y1 y2 y3 y4 y5 y6) (laws_FnOneBit.j3 (k + 1) y0 y1 y2 y3 y4 y5 y6)) ∧ (∀ y0 y1 y2 y3 y4 y5 y6 y7 y8 y9 aa, LeO (laws_FnOneBit.j4 k y0 y1 y2 y3 y4 y5 y6 y7 y8 y9 aa) (laws_FnOneBit.j4 (k + 1) y0 y1 y2 y3 y4 y5 y6 y7 y8 y9 aa)) ∧ (∀ y0 y1 y2 y3 y4 y5 y6, LeO (laws_FnOneBit.j5 k y0 y1 y2 y3 y4 y5 y6) (laws_FnOneBit.j5 (k + 1) y0 y1 y2 y3 y4 y5 y6)) ∧ (∀ y0 y1 y2 y3 y4 y5 y6, LeO (laws_FnOneBit.j6 k y0 y1 y2 y3 y4 y5 y6) (laws_FnOneBit.j6 (k + 1) y0 y1 y2 y3 y4 y5 y6))
  | 0 => ⟨fun _ _ _ _ _ _ _ _ _ _ r h => by simp [laws_FnOneBit.j0] at h, fun _ _ _ _ _ _ _ _ _ _ _ r h => by simp [laws_FnOneBit.j1] at h, fun _ _ _ _ _ _ _ r h => by simp [laws_FnOneBit.j2] at h, fun _ _ _ _ _ _ _ r h => by simp [laws_FnOneBit.j3] at h, fun _ _ _ _ _ _ _ _ _ _ _ r h => by simp [laws_FnOneBit.j4] at h, fun _ _ _ _ _ _ _ r h => by simp [laws_FnOneBit.j5] at h, fun _ _ _ _ _ _ _ r h => by simp [laws_FnOneBit.j6] at h⟩
  | k + 1 => by
    obtain ⟨ih0, ih1, ih2, ih3, ih4, ih5, ih6⟩ := laws_FnOneBit.mono_l k
    refine ⟨?_, ?_, ?_, ?_, ?_, ?_, ?_⟩
    · intro y0 y1 y2 y3 y4 y5 y6 y7 y8 y9
      unfold laws_FnOneBit.j0
      repeat' first
      | (with_reducible exact ih0 _ _ _ _ _ _ _ _ _ _)
      | (with_reducible exact ih1 _ _ _ _ _ _ _ _ _ _ _)
      | (with_reducible exact ih2 _ _ _ _ _ _ _)
      | (with_reducible exact ih3 _ _ _ _ _ _ _)
      | (with_reducible exact ih4 _ _ _ _ _ _ _ _ _ _ _)
      | (with_reducible exact ih5 _ _ _ _ _ _ _)
      | (with_reducible exact ih6 _ _ _ _ _ _ _)
      | (with_reducible exact impl_DecodeSegment.mono _ _ _ _)
      | (with_reducible exact impl_DecodeUdp.mono _ _ _ _)
      | (with_reducible exact impl_EncodeSegment.mono _ _ _ _ _ _ _ _ _ _ _ _ _ _ _)
      | (with_reducible exact impl_EncodeUdp.mono _ _ _ _ _ _)
      | (with_reducible exact laws_lwBegin.mono _ _ _)
      | (with_reducible exact laws_lwPattern.mono _ _ _)
      | (with_reducible exact spec_DrawEncodeUdp.mono _ _)
      | (with_reducible exact spec_DrawSegmentLength.mono _ _)
      | (with_reducible exact spec_EncodeUdp.mono _ _ _ _ _ _)
      | (with_reducible exact LeO.refl _)
      | (with_reducible exact LeO.none _)
      | (with_reducible refine LeO.ite ?_ ?_)
      | (with_reducible refine LeO.bind ?_ (fun _ => ?_))
      | exact ih0 _ _ _ _ _ _ _ _ _ _
      | exact ih1 _ _ _ _ _ _ _ _ _ _ _
      | exact ih2 _ _ _ _ _ _ _
      | exact ih3 _ _ _ _ _ _ _
      | exact ih4 _ _ _ _ _ _ _ _ _ _ _
      | exact ih5 _ _ _ _ _ _ _
      | exact ih6 _ _ _ _ _ _ _
      | exact impl_DecodeSegment.mono _ _ _ _
      | exact impl_DecodeUdp.mono _ _ _ _
      | exact impl_EncodeSegment.mono _ _ _ _ _ _ _ _ _ _ _ _ _ _ _
      | exact impl_EncodeUdp.mono _ _ _ _ _ _
      | exact laws_lwBegin.mono _ _ _
      | exact laws_lwPattern.mono _ _ _
      | exact spec_DrawEncodeUdp.mono _ _
      | exact spec_DrawSegmentLength.mono _ _
      | exact spec_EncodeUdp.mono _ _ _ _ _ _
      | exact LeO.none _
      | refine LeO.ite ?_ ?_
      | refine LeO.bind ?_ (fun _ => ?_)
    · intro y0 y1 y2 y3 y4 y5 y6 y7 y8 y9 aa
      unfold laws_FnOneBit.j1
      repeat' first
      | (with_reducible exact ih0 _ _ _ _ _ _ _ _ _ _)
      | (with_reducible exact ih1 _ _ _ _ _ _ _ _ _ _ _)
      | (with_reducible exact ih2 _ _ _ _ _ _ _)
      | (with_reducible exact ih3 _ _ _ _ _ _ _)
      | (with_reducible exact ih4 _ _ _ _ _ _ _ _ _ _ _)
      | (with_reducible exact ih5 _ _ _ _ _ _ _)
      | (with_reducible exact ih6 _ _ _ _ _ _ _)
      | (with_reducible exact impl_DecodeSegment.mono _ _ _ _)
      | (with_reducible exact impl_DecodeUdp.mono _ _ _ _)
      | (with_reducible exact impl_EncodeSegment.mono _ _ _ _ _ _ _ _ _ _ _ _ _ _ _)
      | (with_reducible exact impl_EncodeUdp.mono _ _ _ _ _ _)
      | (with_reducible exact laws_lwBegin.mono _ _ _)
      | (with_reducible exact laws_lwPattern.mono _ _ _)
      | (with_reducible exact spec_DrawEncodeUdp.mono _ _)
      | (with_reducible exact spec_DrawSegmentLength.mono _ _)
      | (with_reducible exact spec_EncodeUdp.mono _ _ _ _ _ _)
      | (with_reducible exact LeO.refl _)
      | (with_reducible exact LeO.none _)
      | (with_reducible refine LeO.ite ?_ ?_)
      | (with_reducible refine LeO.bind ?_ (fun _ => ?_))
      | exact ih0 _ _ _ _ _ _ _ _ _ _
      | exact ih1 _ _ _ _ _ _ _ _ _ _ _
      | exact ih2 _ _ _ _ _ _ _
      | exact ih3 _ _ _ _ _ _ _
      | exact ih4 _ _ _ _ _ _ _ _ _ _ _
      | exact ih5 _ _ _ _ _ _ _
      | exact ih6 _ _ _ _ _ _ _
      | exact impl_DecodeSegment.mono _ _ _ _
      | exact impl_DecodeUdp.mono _ _ _ _
      | exact impl_EncodeSegment.mono _ _ _ _ _ _ _ _ _ _ _ _ _ _ _
      | exact impl_EncodeUdp.mono _ _ _ _ _ _
      | exact laws_lwBegin.mono _ _ _
      | exact laws_lwPattern.mono _ _ _
      | exact spec_DrawEncodeUdp.mono _ _
      | exact spec_DrawSegmentLength.mono _ _
      | exact spec_EncodeUdp.mono _ _ _ _ _ _
      | exact LeO.none _
      | refine LeO.ite ?_ ?_
      | refine LeO.bind ?_ (fun _ => ?_)
    · intro y0 y1 y2 y3 y4 y5 y6
      unfold laws_FnOneBit.j2
      repeat' first
      | (with_reducible exact ih0 _ _ _ _ _ _ _ _ _ _)
      | (with_reducible exact ih1 _ _ _ _ _ _ _ _ _ _ _)
      | (with_reducible exact ih2 _ _ _ _ _ _ _)
      | (with_reducible exact ih3 _ _ _ _ _ _ _)
      | (with_reducible exact ih4 _ _ _ _ _ _ _ _ _ _ _)
      | (with_reducible exact ih5 _ _ _ _ _ _ _)
      | (with_reducible exact ih6 _ _ _ _ _ _ _)
      | (with_reducible exact impl_DecodeSegment.mono _ _ _ _)
      | (with_reducible exact impl_DecodeUdp.mono _ _ _ _)
      | (with_reducible exact impl_EncodeSegment.mono _ _ _ _ _ _ _ _ _ _ _ _ _ _ _)
      | (with_reducible exact impl_EncodeUdp.mono _ _ _ _ _ _)
      | (with_reducible exact laws_lwBegin.mono _ _ _)
      | (with_reducible exact laws_lwPattern.mono _ _ _)
      | (with_reducible exact spec_DrawEncodeUdp.mono _ _)
      | (with_reducible exact spec_DrawSegmentLength.mono _ _)
      | (with_reducible exact spec_EncodeUdp.mono _ _ _ _ _ _)
      | (with_reducible exact LeO.refl _)
      | (with_reducible exact LeO.none _)
      | (with_reducible refine LeO.ite ?_ ?_)
      | (with_reducible refine LeO.bind ?_ (fun _ => ?_))
      | exact ih0 _ _ _ _ _ _ _ _ _ _
      | exact ih1 _ _ _ _ _ _ _ _ _ _ _
      | exact ih2 _ _ _ _ _ _ _
      | exact ih3 _ _ _ _ _ _ _
      | exact ih4 _ _ _ _ _ _ _ _ _ _ _
      | exact ih5 _ _ _ _ _ _ _
      | exact ih6 _ _ _ _ _ _ _
      | exact impl_DecodeSegment.mono _ _ _ _
      | exact impl_DecodeUdp.mono _ _ _ _
      | exact impl_EncodeSegment.mono _ _ _ _ _ _ _ _ _ _ _ _ _ _ _
      | exact impl_EncodeUdp.mono _ _ _ _ _ _
      | exact laws_lwBegin.mono _ _ _
      | exact laws_lwPattern.mono _ _ _
      | exact spec_DrawEncodeUdp.mono _ _
      | exact spec_DrawSegmentLength.mono _ _
      | exact spec_EncodeUdp.mono _ _ _ _ _ _
      | exact LeO.none _
      | refine LeO.ite ?_ ?_
      | refine LeO.bind ?_ (fun _ => ?_)
    · intro y0 y1 y2 y3 y4 y5 y6
      unfold laws_FnOneBit.j3
      repeat' first
      | (with_reducible exact ih0 _ _ _ _ _ _ _ _ _ _)
      | (with_reducible exact ih1 _ _ _ _ _ _ _ _ _ _ _)
      | (with_reducible exact ih2 _ _ _ _ _ _ _)
      | (with_reducible exact ih3 _ _ _ _ _ _ _)
      | (with_reducible exact ih4 _ _ _ _ _ _ _ _ _ _ _)
      | (with_reducible exact ih5 _ _ _ _ _ _ _)
      | (with_reducible exact ih6 _ _ _ _ _ _ _)
      | (with_reducible exact impl_DecodeSegment.mono _ _ _ _)
      | (with_reducible exact impl_DecodeUdp.mono _ _ _ _)
      | (with_reducible exact impl_EncodeSegment.mono _ _ _ _ _ _ _ _ _ _ _ _ _ _ _)
      | (with_reducible exact impl_EncodeUdp.mono _ _ _ _ _ _)
      | (with_reducible exact laws_lwBegin.mono _ _ _)
      | (with_reducible exact laws_lwPattern.mono _ _ _)
      | (with_reducible exact spec_DrawEncodeUdp.mono _ _)
      | (with_reducible exact spec_DrawSegmentLength.mono _ _)
      | (with_reducible exact spec_EncodeUdp.mono _ _ _ _ _ _)
      | (with_reducible exact LeO.refl _)
      | (with_reducible exact LeO.none _)
      | (with_reducible refine LeO.ite ?_ ?_)
      | (with_reducible refine LeO.bind ?_ (fun _ => ?_))
      | exact ih0 _ _ _ _ _ _ _ _ _ _
      | exact ih1 _ _ _ _ _ _ _ _ _ _ _
      | exact ih2 _ _ _ _ _ _ _
      | exact ih3 _ _ _ _ _ _ _
      | exact ih4 _ _ _ _ _ _ _ _ _ _ _
      | exact ih5 _ _ _ _ _ _ _
      | exact ih6 _ _ _ _ _ _ _
      | exact impl_DecodeSegment.mono _ _ _ _
      | exact impl_DecodeUdp.mono _ _ _ _
      | exact impl_EncodeSegment.mono _ _ _ _ _ _ _ _ _ _ _ _ _ _ _
      | exact impl_EncodeUdp.mono _ _ _ _ _ _
      | exact laws_lwBegin.mono _ _ _
      | exact laws_lwPattern.mono _ _ _
      | exact spec_DrawEncodeUdp.mono _ _
      | exact spec_DrawSegmentLength.mono _ _
      | exact spec_EncodeUdp.mono _ _ _ _ _ _
      | exact LeO.none _
      | refine LeO.ite ?_ ?_
      | refine LeO.bind ?_ (fun _ => ?_)
    · intro y0 y1 y2 y3 y4 y5 y6 y7 y8 y9 aa
      unfold laws_FnOneBit.j4
      repeat' first
      | (with_reducible exact ih0 _ _ _ _ _ _ _ _ _ _)
      | (with_reducible exact ih1 _ _ _ _ _ _ _ _ _ _ _)
      | (with_reducible exact ih2 _ _ _ _ _ _ _)
      | (with_reducible exact ih3 _ _ _ _ _ _ _)
      | (with_reducible exact ih4 _ _ _ _ _ _ _ _ _ _ _)
      | (with_reducible exact ih5 _ _ _ _ _ _ _)
      | (with_reducible exact ih6 _ _ _ _ _ _ _)
      | (with_reducible exact impl_DecodeSegment.mono _ _ _ _)
      | (with_reducible exact impl_DecodeUdp.mono _ _ _ _)
      | (with_reducible exact impl_EncodeSegment.mono _ _ _ _ _ _ _ _ _ _ _ _ _ _ _)
      | (with_reducible exact impl_EncodeUdp.mono _ _ _ _ _ _)
      | (with_reducible exact laws_lwBegin.mono _ _ _)
      | (with_reducible exact laws_lwPattern.mono _ _ _)
      | (with_reducible exact spec_DrawEncodeUdp.mono _ _)
      | (with_reducible exact spec_DrawSegmentLength.mono _ _)
      | (with_reducible exact spec_EncodeUdp.mono _ _ _ _ _ _)
      | (with_reducible exact LeO.refl _)
      | (with_reducible exact LeO.none _)
      | (with_reducible refine LeO.ite ?_ ?_)
      | (with_reducible refine LeO.bind ?_ (fun _ => ?_))
      | exact ih0 _ _ _ _ _ _ _ _ _ _
      | exact ih1 _ _ _ _ _ _ _ _ _ _ _
      | exact ih2 _ _ _ _ _ _ _
      | exact ih3 _ _ _ _ _ _ _
      | exact ih4 _ _ _ _ _ _ _ _ _ _ _
      | exact ih5 _ _ _ _ _ _ _
      | exact ih6 _ _ _ _ _ _ _
      | exact impl_DecodeSegment.mono _ _ _ _
      | exact impl_DecodeUdp.mono _ _ _ _
      | exact impl_EncodeSegment.mono _ _ _ _ _ _ _ _ _ _ _ _ _ _ _
      | exact impl_EncodeUdp.mono _ _ _ _ _ _
      | exact laws_lwBegin.mono _ _ _
      | exact laws_lwPattern.mono _ _ _
      | exact spec_DrawEncodeUdp.mono _ _
      | exact spec_DrawSegmentLength.mono _ _
      | exact spec_EncodeUdp.mono _ _ _ _ _ _
      | exact LeO.none _
      | refine LeO.ite ?_ ?_
      | refine LeO.bind ?_ (fun _ => ?_)
    · intro y0 y1 y2 y3 y4 y5 y6
      unfold laws_FnOneBit.j5
      repeat' first
      | (with_reducible exact ih0 _ _ _ _ _ _ _ _ _ _)
      | (with_reducible exact ih1 _ _ _ _ _ _ _ _ _ _ _)
      | (with_reducible exact ih2 _ _ _ _ _ _ _)
      | (with_reducible exact ih3 _ _ _ _ _ _ _)
      | (with_reducible exact ih4 _ _ _ _ _ _ _ _ _ _ _)
      | (with_reducible exact ih5 _ _ _ _ _ _ _)
      | (with_reducible exact ih6 _ _ _ _ _ _ _)
      | (with_reducible exact impl_DecodeSegment.mono _ _ _ _)
      | (with_reducible exact impl_DecodeUdp.mono _ _ _ _)
      | (with_reducible exact impl_EncodeSegment.mono _ _ _ _ _ _ _ _ _ _ _ _ _ _ _)
      | (with_reducible exact impl_EncodeUdp.mono _ _ _ _ _ _)
      | (with_reducible exact laws_lwBegin.mono _ _ _)
      | (with_reducible exact laws_lwPattern.mono _ _ _)
      | (with_reducible exact spec_DrawEncodeUdp.mono _ _)
      | (with_reducible exact spec_DrawSegmentLength.mono _ _)
      | (with_reducible exact spec_EncodeUdp.mono _ _ _ _ _ _)
      | (with_reducible exact LeO.refl _)
      | (with_reducible exact LeO.none _)
      | (with_reducible refine LeO.ite ?_ ?_)
      | (with_reducible refine LeO.bind ?_ (fun _ => ?_))
      | exact ih0 _ _ _ _ _ _ _ _ _ _
      | exact ih1 _ _ _ _ _ _ _ _ _ _ _
      | exact ih2 _ _ _ _ _ _ _
      | exact ih3 _ _ _ _ _ _ _
      | exact ih4 _ _ _ _ _ _ _ _ _ _ _
      | exact ih5 _ _ _ _ _ _ _
      | exact ih6 _ _ _ _ _ _ _
      | exact impl_DecodeSegment.mono _ _ _ _
      | exact impl_DecodeUdp.mono _ _ _ _
      | exact impl_EncodeSegment.mono _ _ _ _ _ _ _ _ _ _ _ _ _ _ _
      | exact impl_EncodeUdp.mono _ _ _ _ _ _
      | exact laws_lwBegin.mono _ _ _
      | exact laws_lwPattern.mono _ _ _
      | exact spec_DrawEncodeUdp.mono _ _
      | exact spec_DrawSegmentLength.mono _ _
      | exact spec_EncodeUdp.mono _ _ _ _ _ _
      | exact LeO.none _
      | refine LeO.ite ?_ ?_
      | refine LeO.bind ?_ (fun _ => ?_)
    · intro y0 y1 y2 y3 y4 y5 y6
      unfold laws_FnOneBit.j6
      repeat' first
      | (with_reducible exact ih0 _ _ _ _ _ _ _ _ _ _)
      | (with_reducible exact ih1 _ _ _ _ _ _ _ _ _ _ _)
      | (with_reducible exact ih2 _ _ _ _ _ _ _)
      | (with_reducible exact ih3 _ _ _ _ _ _ _)
      | (with_reducible exact ih4 _ _ _ _ _ _ _ _ _ _ _)
      | (with_reducible exact ih5 _ _ _ _ _ _ _)
      | (with_reducible exact ih6 _ _ _ _ _ _ _)
      | (with_reducible exact impl_DecodeSegment.mono _ _ _ _)
      | (with_reducible exact impl_DecodeUdp.mono _ _ _ _)
      | (with_reducible exact impl_EncodeSegment.mono _ _ _ _ _ _ _ _ _ _ _ _ _ _ _)
      | (with_reducible exact impl_EncodeUdp.mono _ _ _ _ _ _)
      | (with_reducible exact laws_lwBegin.mono _ _ _)
      | (with_reducible exact laws_lwPattern.mono _ _ _)
      | (with_reducible exact spec_DrawEncodeUdp.mono _ _)
      | (with_reducible exact spec_DrawSegmentLength.mono _ _)
      | (with_reducible exact spec_EncodeUdp.mono _ _ _ _ _ _)
      | (with_reducible exact LeO.refl _)
      | (with_reducible exact LeO.none _)
      | (with_reducible refine LeO.ite ?_ ?_)
      | (with_reducible refine LeO.bind ?_ (fun _ => ?_))
      | exact ih0 _ _ _ _ _ _ _ _ _ _
      | exact ih1 _ _ _ _ _ _ _ _ _ _ _
      | exact ih2 _ _ _ _ _ _ _
      | exact ih3 _ _ _ _ _ _ _
      | exact ih4 _ _ _ _ _ _ _ _ _ _ _
      | exact ih5 _ _ _ _ _ _ _
      | exact ih6 _ _ _ _ _ _ _
      | exact impl_DecodeSegment.mono _ _ _ _
      | exact impl_DecodeUdp.mono _ _ _ _
      | exact impl_EncodeSegment.mono _ _ _ _ _ _ _ _ _ _ _ _ _ _ _
      | exact impl_EncodeUdp.mono _ _ _ _ _ _
      | exact laws_lwBegin.mono _ _ _
      | exact laws_lwPattern.mono _ _ _
      | exact spec_DrawEncodeUdp.mono _ _
      | exact spec_DrawSegmentLength.mono _ _
      | exact spec_EncodeUdp.mono _ _ _ _ _ _
      | exact LeO.none _
      | refine LeO.ite ?_ ?_
      | refine LeO.bind ?_ (fun _ => ?_)
theorem laws_FnOneBit.mono : ∀ a0 k, LeO (laws_FnOneBit.f k a0) (laws_FnOneBit.f (k + 1) a0) := by
 intro a0 k
 obtain ⟨ih0, ih1, ih2, ih3, ih4, ih5, ih6⟩ := laws_FnOneBit.mono_l k
 unfold laws_FnOneBit.f
 repeat' first
     | (with_reducible exact ih0 _ _ _ _ _ _ _ _ _ _)
     | (with_reducible exact ih1 _ _ _ _ _ _ _ _ _ _ _)
     | (with_reducible exact ih2 _ _ _ _ _ _ _)
     | (with_reducible exact ih3 _ _ _ _ _ _ _)
     | (with_reducible exact ih4 _ _ _ _ _ _ _ _ _ _ _)
     | (with_reducible exact ih5 _ _ _ _ _ _ _)
     | (with_reducible exact ih6 _ _ _ _ _ _ _)
     | (with_reducible exact impl_DecodeSegment.mono _ _ _ _)
     | (with_reducible exact impl_DecodeUdp.mono _ _ _ _)
     | (with_reducible exact impl_EncodeSegment.mono _ _ _ _ _ _ _ _ _ _ _ _ _ _ _)
     | (with_reducible exact impl_EncodeUdp.mono _ _ _ _ _ _)
     | (with_reducible exact laws_lwBegin.mono _ _ _)
     | (with_reducible exact laws_lwPattern.mono _ _ _)
     | (with_reducible exact spec_DrawEncodeUdp.mono _ _)
     | (with_reducible exact spec_DrawSegmentLength.mono _ _)
     | (with_reducible exact spec_EncodeUdp.mono _ _ _ _ _ _)
     | (with_reducible exact LeO.refl _)
     | (with_reducible exact LeO.none _)
     | (with_reducible refine LeO.ite ?_ ?_)
     | (with_reducible refine LeO.bind ?_ (fun _ => ?_))
     | exact ih0 _ _ _ _ _ _ _ _ _ _
     | exact ih1 _ _ _ _ _ _ _ _ _ _ _
     | exact ih2 _ _ _ _ _ _ _
     | exact ih3 _ _ _ _ _ _ _
     | exact ih4 _ _ _ _ _ _ _ _ _ _ _
     | exact ih5 _ _ _ _ _ _ _
     | exact ih6 _ _ _ _ _ _ _
     | exact impl_DecodeSegment.mono _ _ _ _
     | exact impl_DecodeUdp.mono _ _ _ _
     | exact impl_EncodeSegment.mono _ _ _ _ _ _ _ _ _ _ _ _ _ _ _
     | exact impl_EncodeUdp.mono _ _ _ _ _ _
     | exact laws_lwBegin.mono _ _ _
     | exact laws_lwPattern.mono _ _ _
     | exact spec_DrawEncodeUdp.mono _ _
     | exact spec_DrawSegmentLength.mono _ _
     | exact spec_EncodeUdp.mono _ _ _ _ _ _
     | exact LeO.none _
     | refine LeO.ite ?_ ?_
     | refine LeO.bind ?_ (fun _ => ?_)
set_option maxHeartbeats 60000000 in
set_option maxRecDepth 100000 in
theorem laws_FnOneBit.calls (k : Nat) (A0 : Option Addr) (c0 : Nat) (l0 : List Int) (r : Bool) (w : World) (hr0 : Kd.C (Kd.int .u8) w A0 l0.length l0) (hc0 : l0.length ≤ c0) (h : laws_FnOneBit.f k l0 = some r) :
 Calls Try.prog 4 #[.slice A0 l0.length c0] w fun e w' => e = .returned (.bool r) ∧ Below w.heap.size w w' := by
 have hu36 := Try.underlying36
 have hu39 := Try.underlying39
 have hu25 := Try.underlying25
 have HR0 := Aside0.mk hr0
 have fW := Aside0.mk hc0
 clear hr0 hc0
 have HB := Aside0.mk (Below.refl w.heap.size w)
 have H : (if (l0.length : Int) > 1048576 then (some true) else ((laws_lwBegin.f k l0 6).bind fun fl => ((spec_DrawEncodeUdp.f k l0).bind fun aH => ((spec_EncodeUdp.f k aH.1 aH.2.1 aH.2.2.1 aH.2.2.2.1 aH.2.2.2.2).bind fun e5 => (if e5.2 = 0 then (laws_FnOneBit.j0 k l0 aH.2.2.2.1 aH.2.2.2.2 (decide ((aH.2.2.1.length : Int) > 2000)) l0 fl.1 fl.2 aH.1 aH.2.1 aH.2.2.1) else (laws_FnOneBit.j0 k l0 aH.2.2.2.1 aH.2.2.2.2 true l0 fl.1 fl.2 aH.1 aH.2.1 aH.2.2.1)))))) = some r := h
 clear h
 by_cases c2 : (l0.length : Int) > 1048576
 {
 rw [if_pos c2] at H
 have c2b0 : decide (1048576 < (l0.length : Int)) = true := decide_eq_true c2
 have c2b1 : decide (1048576 < l0.length) = true := decide_eq_true (by omega)
 clear c2
 obtain rfl := Option.some.inj H
 go_enter Try.func4, Try.ntmps4
 go_wp2
 all_goals (try (rename_i h_; exfalso; cases h_; done))
 all_goals (try (rename_i h_ h2_; exfalso; cases h_; done))
 go_ret
 exact ⟨by first | rfl | (simp [errW_none, errW_some] <;> rfl) | (simp [*, errW_none, errW_some] <;> rfl), wB⟩
 }
 {
 rw [if_neg c2] at H
 have c2b0 : decide (1048576 < (l0.length : Int)) = false := decide_eq_false c2
 have c2b1 : decide (1048576 < l0.length) = false := decide_eq_false (by omega)
 clear c2
 replace H := Option.bind_eq_some_iff.mp H
 obtain ⟨⟨a7, a8⟩, A30, H⟩ := H
 replace H : ((spec_DrawEncodeUdp.f k l0).bind fun aH => ((spec_EncodeUdp.f k aH.1 aH.2.1 aH.2.2.1 aH.2.2.2.1 aH.2.2.2.2).bind fun e5 => (if e5.2 = 0 then (laws_FnOneBit.j0 k l0 aH.2.2.2.1 aH.2.2.2.2 (decide ((aH.2.2.1.length : Int) > 2000)) l0 a7 a8 aH.1 aH.2.1 aH.2.2.1) else (laws_FnOneBit.j0 k l0 aH.2.2.2.1 aH.2.2.2.2 true l0 a7 a8 aH.1 aH.2.1 aH.2.2.1)))) = some r := H
 have A3 := Aside0.mk A30
 clear A30
 replace H := Option.bind_eq_some_iff.mp H
 obtain ⟨⟨aF, aG, ag, ah, ai⟩, A40, H⟩ := H
 replace H : ((spec_EncodeUdp.f k aF aG ag ah ai).bind fun e5 => (if e5.2 = 0 then (laws_FnOneBit.j0 k l0 ah ai (decide ((ag.length : Int) > 2000)) l0 a7 a8 aF aG ag) else (laws_FnOneBit.j0 k l0 ah ai true l0 a7 a8 aF aG ag))) = some r := H
 have A4 := Aside0.mk A40
 clear A40
 replace H := Option.bind_eq_some_iff.mp H
 obtain ⟨⟨gB, eW⟩, A50, H⟩ := H
 replace H : (if eW = 0 then (laws_FnOneBit.j0 k l0 ah ai (decide ((ag.length : Int) > 2000)) l0 a7 a8 aF aG ag) else (laws_FnOneBit.j0 k l0 ah ai true l0 a7 a8 aF aG ag)) = some r := H
 have A5 := Aside0.mk A50
 clear A50
 have gh := Aside0.mk H
 clear H
 go_enter Try.func4, Try.ntmps4
 go_upto_region 6 with (first | ((with_reducible refine gate_callee (f := 13) rfl ?_); refine goesL_ (some 19) rfl rfl Try.func13 (by kernel_rfl) rfl #[.slice A0 l0.length c0, .int .u64 6] rfl wT ?_; (with_reducible refine (laws_lwBegin.calls k _ _ l0 6 a7 a8 _ ?side1 ?side2 A3.out).mono ?_); (case side1 => repeat (first | exact HR0.out | (with_reducible refine Kd.C_alloc ?_ _) | (with_reducible refine Kd.C_drewN ?_ _) | (with_reducible refine Kd.C_drew ?_))); (case side2 => exact fW.out); rintro e hc ⟨rfl, hb⟩; refine ⟨_, rfl, ?_⟩; replace HB := Aside0.mk (below_step wB hb); (try clear hb); (try clear hb2); (try clear hk); (try clear hi)) | ((with_reducible refine gate_dst (N := 3) rfl ?_); (try (refine gate_guard (by rfl) ?_; dsimp only)); refine box_event ?hg (N := 3) ?hd (cs := #[.slice none 0 0, .int .i64 0, .int .u64 0]) (t := 36) ?hr ?_; (case hd => rfl); (case hg => rfl); (case hr => first | (go_simp; done) | (go_simp; rfl)); intro am hg gq hbox hb; have a6 := Aside0.mk (hbox); have fz := Aside0.mk ((by rw [hg]; exact (below_size wB) : w.heap.size ≤ am)); replace HB := Aside0.mk (below_step wB hb); have he := fz; clear hb hbox hg; obtain ⟨⟨bW, bX, bY⟩, bZ, b0, b1⟩ := cells3 a6.out) | ((with_reducible refine gate_store (t := 36) (p := 3) rfl ?_); refine store_event (t := 36) (p := 3) (v := ?_) (w1 := (((gq.setCell ⟨am, 0, none⟩ (.slice A0 l0.length c0)).setCell ⟨am, 1, none⟩ (.int .i64 a7)).setCell ⟨am, 2, none⟩ (.int .u64 a8))) ?hg ?ho ?hn ?hr ?_; (case ho => rfl); (case hg => rfl); (case hn => rfl); (case hr => first | (go_simp; done) | (go_simp; rfl)); intro fX hw; have n0_ : Aside0 (fX.heap[am]? = some (.cells #[.slice A0 l0.length c0, .int .i64 a7, .int .u64 a8] 36 (0, 0))) := ⟨(by rw [hw]; exact (by (with_reducible repeat (first | refine blk_drewN ?_ _ | refine blk_drew ?_ | refine blk_alloc ?_ _)); refine blk_put (cs := #[.slice A0 l0.length c0, .int .i64 a7, .int .u64 0]) ?_ 2 _ rfl; (with_reducible repeat (first | refine blk_drewN ?_ _ | refine blk_drew ?_ | refine blk_alloc ?_ _)); refine blk_put (cs := #[.slice A0 l0.length c0, .int .i64 0, .int .u64 0]) ?_ 1 _ rfl; (with_reducible repeat (first | refine blk_drewN ?_ _ | refine blk_drew ?_ | refine blk_alloc ?_ _)); refine blk_put (cs := #[.slice none 0 0, .int .i64 0, .int .u64 0]) ?_ 0 _ rfl; (with_reducible repeat (first | refine blk_drewN ?_ _ | refine blk_drew ?_ | refine blk_alloc ?_ _)); exact a6.out))⟩; have n1_ : Aside0 (Below w.heap.size w fX) := ⟨(by rw [hw]; exact wB)⟩; clear hw; clear a6; clear HB; have a6 := n0_; have HB := n1_; clear n0_ n1_) | ((with_reducible refine gate_callee (f := 14) rfl ?_); refine goesL_ (some 22) rfl rfl Try.func14 (by kernel_rfl) rfl #[.slice A0 l0.length c0] rfl wT ?_; (with_reducible refine (spec_DrawEncodeUdp.calls k _ _ l0 aF aG ag ah ai _ ?side1 ?side2 A4.out).mono ?_); (case side1 => exact Kd.C_below HR0.out wB); (case side2 => exact fW.out); rintro e hf ⟨hv, rfl, aI, hb⟩; refine ⟨_, rfl, ?_⟩; have cw := Aside0.mk (Kd.R_lower aI (below_size wB)); replace a6 := Aside0.mk (blk_below (Bh a6) hb); replace HB := Aside0.mk (below_step wB hb); (try clear hb); (try clear hb2); (try clear hk); (try clear hi); (try clear aI)) | ((with_reducible refine gate_dst (N := 4) rfl ?_); (try (refine gate_guard (by rfl) ?_; dsimp only)); refine box_event ?hg (N := 4) ?hd (cs := #[.int .i64 0, .int .i64 0, .slice none 0 0]) (t := 39) ?hr ?_; (case hd => rfl); (case hg => rfl); (case hr => first | (go_simp; done) | (go_simp; rfl)); intro ay hg gr hbox hb; replace cw := Aside0.mk (Kd.R_below (Rh cw) hb); have ac := Aside0.mk (hbox); have gs := Aside0.mk ((by rw [hg]; exact (below_size wB) : w.heap.size ≤ ay)); replace HB := Aside0.mk (below_step wB hb); have av := gs; have ab := Aside0.mk ((by rw [hg]; exact Nat.ne_of_lt (blk_lt (Bh a6)) : am ≠ ay)); replace a6 := Aside0.mk (blk_below (Bh a6) hb); have aW := Aside0.mk ab.out.symm; clear hb hbox hg; have g4 := aW.out; have g5 := ab.out; obtain ⟨⟨b2, b3, b4⟩, b5, b6, b7⟩ := cells3 ac.out; obtain ⟨an, ao, gi⟩ := Kd.R_slice cw.out; subst gi) | ((with_reducible refine gate_store (t := 39) (p := 4) rfl ?_); refine store_event (t := 39) (p := 4) (v := ?_) (w1 := (((gr.setCell ⟨ay, 0, none⟩ (.int .i64 aF)).setCell ⟨ay, 1, none⟩ (.int .i64 aG)).setCell ⟨ay, 2, none⟩ (.slice an ag.length ao))) ?hg ?ho ?hn ?hr ?_; (case ho => rfl); (case hg => rfl); (case hn => rfl); (case hr => first | (go_simp; done) | (go_simp; rfl)); intro fm hw; have n0_ : Aside0 (Kd.R (Kd.int .u8) 5 fm w.heap.size (fun _ => True) (.slice an ag.length ao) ag) := ⟨(by rw [hw]; exact (by (with_reducible repeat (first | apply Kd.R_alloc | apply Kd.R_drewN | apply Kd.R_drew)); exact Kd.R_mono (Kd.R_far (p := ⟨ay, 2, none⟩) (Kd.R_far (p := ⟨ay, 1, none⟩) (Kd.R_far (p := ⟨ay, 0, none⟩) (Kd.R_types cw.out ac.out (by decide)) (fun _ hk => hk.2) (.int .i64 aF)) (fun _ hk => hk.2) (.int .i64 aG)) (fun _ hk => hk.2) (.slice an ag.length ao)) (fun _ hk => trivial)))⟩; have n1_ : Aside0 (fm.heap[am]? = some (.cells #[.slice A0 l0.length c0, .int .i64 a7, .int .u64 a8] 36 (0, 0))) := ⟨(by rw [hw]; exact (by (with_reducible repeat (first | refine blk_drewN ?_ _ | refine blk_drew ?_ | refine blk_alloc ?_ _)); refine blk_far ?_ ab.out _; (with_reducible repeat (first | refine blk_drewN ?_ _ | refine blk_drew ?_ | refine blk_alloc ?_ _)); refine blk_far ?_ ab.out _; (with_reducible repeat (first | refine blk_drewN ?_ _ | refine blk_drew ?_ | refine blk_alloc ?_ _)); refine blk_far ?_ ab.out _; (with_reducible repeat (first | refine blk_drewN ?_ _ | refine blk_drew ?_ | refine blk_alloc ?_ _)); exact a6.out))⟩; have n2_ : Aside0 (fm.heap[ay]? = some (.cells #[.int .i64 aF, .int .i64 aG, .slice an ag.length ao] 39 (0, 0))) := ⟨(by rw [hw]; exact (by (with_reducible repeat (first | refine blk_drewN ?_ _ | refine blk_drew ?_ | refine blk_alloc ?_ _)); refine blk_put (cs := #[.int .i64 aF, .int .i64 aG, .slice none 0 0]) ?_ 2 _ rfl; (with_reducible repeat (first | refine blk_drewN ?_ _ | refine blk_drew ?_ | refine blk_alloc ?_ _)); refine blk_put (cs := #[.int .i64 aF, .int .i64 0, .slice none 0 0]) ?_ 1 _ rfl; (with_reducible repeat (first | refine blk_drewN ?_ _ | refine blk_drew ?_ | refine blk_alloc ?_ _)); refine blk_put (cs := #[.int .i64 0, .int .i64 0, .slice none 0 0]) ?_ 0 _ rfl; (with_reducible repeat (first | refine blk_drewN ?_ _ | refine blk_drew ?_ | refine blk_alloc ?_ _)); exact ac.out))⟩; have n3_ : Aside0 (Below w.heap.size w fm) := ⟨(by rw [hw]; exact wB)⟩; clear hw; clear cw; clear a6; clear ac; clear HB; have cw := n0_; have a6 := n1_; have ac := n2_; have HB := n3_; clear n0_ n1_ n2_ n3_; obtain ⟨⟨b8, b9, ca⟩, cb, cc, cd⟩ := cells3 ac.out) | ((with_reducible refine gate_callee (f := 15) rfl ?_); refine goesL_ (some 30) rfl rfl Try.func15 (by kernel_rfl) rfl #[.agg #[.int .i64 aF, .int .i64 aG, .slice an ag.length ao], .int .i64 ah, .int .i64 ai] rfl wT ?_; (with_reducible refine (spec_EncodeUdp.calls k aF aG _ _ ag ah ai gB eW _ ?side1 ?side2 A5.out).mono ?_); (case side1 => exact Ch cw); (case side2 => exact (Kd.R_reads' cw.out).2.1); rintro e hh ⟨hx, rfl, aI, hb⟩; refine ⟨_, rfl, ?_⟩; have hj := Aside0.mk (Kd.R_lower (Kd.R_new' aI (Kd.R_lt (Rh cw))) (below_size wB)); replace cw := Aside0.mk (Kd.R_elder' (Rh cw) (Kd.R_base aI) hb); replace a6 := Aside0.mk (blk_below (Bh a6) hb); replace ac := Aside0.mk (blk_below (Bh ac) hb); replace HB := Aside0.mk (below_step wB hb); (try clear hb); (try clear hb2); (try clear hk); (try clear hi); (try clear aI)))
 (try simp only [Act.put, List.setIfInBounds_toArray, List.set_cons_zero, List.set_cons_succ])
 go_cut [40] (fun g8 wc => ∃ (kq : Nat) (fn : Bool), g8 = .bool fn ∧ Aside0 (laws_FnOneBit.j0 kq l0 ah ai fn l0 a7 a8 aF aG ag = some r) ∧ Aside0 (kq ≤ k) ∧ Aside0 (Kd.R (Kd.int .u8) 5 wc w.heap.size (fun _ => True) (.slice an ag.length ao) ag) ∧ Aside0 (wc.heap[am]? = some (.cells #[(.slice A0 l0.length c0), .int .i64 a7, .int .u64 a8] 36 (0, 0))) ∧ Aside0 (wc.heap[ay]? = some (.cells #[.int .i64 aF, .int .i64 aG, (.slice an ag.length ao)] 39 (0, 0))) ∧ Aside0 (Below w.heap.size w wc))
 case first => as_aux_lemma => (
 have H := gh.out
 clear gh
 by_cases bS : eW = 0
 {
 rw [if_pos bS] at H
 have c1013b0 : (eW == 0) = true := beq_iff_eq.mpr bS
 have c1013b1 : (eW != 0) = false := bne_eq_false_iff_eq.mpr bS
 clear bS
 (first | rw [c1013b0] | (simp only [i64_w, i32_w]; rw [c1013b0]) | skip)
 have H' := Aside0.mk H
 clear H
 have fZ := aW.out
 have f0 := ab.out
 obtain ⟨⟨bB, bC, bD⟩, bE, bF, bG⟩ := cells3 ac.out
 go_wp2
 all_goals (try (rename_i h_; exfalso; cases h_; done))
 all_goals (try (rename_i h_ h2_; exfalso; cases h_; done))
 go_meet
 case rel => exact ⟨_, (decide ((ag.length : Int) > 2000)), (by first | rfl | (simp; done) | (simp [*]; done)), H', ⟨by first | omega | exact Nat.le_refl _⟩, ⟨Kd.R_mono (Rh cw) (fun _ hk => trivial)⟩, ⟨Bh a6⟩, ⟨Bh ac⟩, ⟨wB⟩⟩
 }
 {
 rw [if_neg bS] at H
 have c1013b0 : (eW == 0) = false := beq_eq_false_iff_ne.mpr bS
 have c1013b1 : (eW != 0) = true := bne_iff_ne.mpr bS
 (first | rw [c1013b0] | (simp only [i64_w, i32_w]; rw [c1013b0]) | skip)
 have H' := Aside0.mk H
 clear H
 go_wp2
 all_goals (try (rename_i h_; exfalso; cases h_; done))
 all_goals (try (rename_i h_ h2_; exfalso; cases h_; done))
 go_meet
 case rel => exact ⟨_, (true), (by first | rfl | (simp; done) | (simp [*]; done)), H', ⟨by first | omega | exact Nat.le_refl _⟩, ⟨Kd.R_mono (Rh cw) (fun _ hk => trivial)⟩, ⟨Bh a6⟩, ⟨Bh ac⟩, ⟨wB⟩⟩
 }
 )
 case rest => (
 clear gh
 try clear c0
 try clear c2
 try clear c2b0
 try clear c2b1
 try clear p2
 try clear bS
 try clear c1013b0
 try clear c1013b1
 try clear bW bX bY bZ b0 b1
 try clear b2 b3 b4 b5 b6 b7
 try clear b8 b9 ca cb cc cd
 try clear bB bC bD bE bF bG
 obtain ⟨kq, fn, rfl, HA, HJ5, HO_428002, a6, ac, HB⟩ := hcut
 cases kq with
 | zero => exact absurd HA.out (by simp [laws_FnOneBit.j0])
 | succ bx => {
 have H := HA.out
 clear HA
 simp only [laws_FnOneBit.j0] at H
 by_cases dI : fn = true
 {
 subst dI
 have H1 : ((laws_lwNext.f l0 a7 a8 99).bind fun fA => ((laws_lwNext.f l0 fA.2.1 fA.2.2 50).bind fun dn => ((laws_lwPattern.f bx fA.1 dn.1).bind fun al => ((impl_EncodeUdp.f bx 7 9 al 167772161 167772162).bind fun bg => (if bg.2 = 0 then (laws_FnOneBit.j1 bx l0 167772161 167772162 bg.1 ((bg.1.length : Int) != (wrap64 (8 + (al.length : Int)))) l0 dn.2.1 dn.2.2 7 9 al) else (laws_FnOneBit.j1 bx l0 167772161 167772162 bg.1 true l0 dn.2.1 dn.2.2 7 9 al)))))) = some r := by rw [if_pos rfl] at H; exact H
 clear H
 have H := H1
 clear H1
 replace H := Option.bind_eq_some_iff.mp H
 obtain ⟨⟨fp, fB, fC⟩, A10150, H⟩ := H
 replace H : ((laws_lwNext.f l0 fB fC 50).bind fun dn => ((laws_lwPattern.f bx fp dn.1).bind fun al => ((impl_EncodeUdp.f bx 7 9 al 167772161 167772162).bind fun bg => (if bg.2 = 0 then (laws_FnOneBit.j1 bx l0 167772161 167772162 bg.1 ((bg.1.length : Int) != (wrap64 (8 + (al.length : Int)))) l0 dn.2.1 dn.2.2 7 9 al) else (laws_FnOneBit.j1 bx l0 167772161 167772162 bg.1 true l0 dn.2.1 dn.2.2 7 9 al))))) = some r := H
 have A1015 := Aside0.mk A10150
 clear A10150
 replace H := Option.bind_eq_some_iff.mp H
 obtain ⟨⟨fD, dp, dq⟩, A10160, H⟩ := H
 replace H : ((laws_lwPattern.f bx fp fD).bind fun al => ((impl_EncodeUdp.f bx 7 9 al 167772161 167772162).bind fun bg => (if bg.2 = 0 then (laws_FnOneBit.j1 bx l0 167772161 167772162 bg.1 ((bg.1.length : Int) != (wrap64 (8 + (al.length : Int)))) l0 dp dq 7 9 al) else (laws_FnOneBit.j1 bx l0 167772161 167772162 bg.1 true l0 dp dq 7 9 al)))) = some r := H
 have A1016 := Aside0.mk A10160
 clear A10160
 replace H := Option.bind_eq_some_iff.mp H
 obtain ⟨al, A10170, H⟩ := H
 replace H : ((impl_EncodeUdp.f bx 7 9 al 167772161 167772162).bind fun bg => (if bg.2 = 0 then (laws_FnOneBit.j1 bx l0 167772161 167772162 bg.1 ((bg.1.length : Int) != (wrap64 (8 + (al.length : Int)))) l0 dp dq 7 9 al) else (laws_FnOneBit.j1 bx l0 167772161 167772162 bg.1 true l0 dp dq 7 9 al))) = some r := H
 have A1017 := Aside0.mk A10170
 clear A10170
 replace H := Option.bind_eq_some_iff.mp H
 obtain ⟨⟨aP, eX⟩, A10180, H⟩ := H
 replace H : (if eX = 0 then (laws_FnOneBit.j1 bx l0 167772161 167772162 aP ((aP.length : Int) != (wrap64 (8 + (al.length : Int)))) l0 dp dq 7 9 al) else (laws_FnOneBit.j1 bx l0 167772161 167772162 aP true l0 dp dq 7 9 al)) = some r := H
 have A1018 := Aside0.mk A10180
 clear A10180
 have fq := Aside0.mk H
 clear H
 have aa := Aside0.mk (show IsS36 w wc am l0 a7 a8 from ⟨_, _, by (with_reducible repeat (first | refine blk_drewN ?_ _ | refine blk_drew ?_ | refine blk_alloc ?_ _)); exact a6.out, fz.out, HR0.out⟩)
 go_upto_region 11 with (first | ((with_reducible refine gate_callee (f := 17) rfl ?_); refine goesL_ (some 41) rfl rfl Try.func17 (by kernel_rfl) rfl #[.pointer (some ⟨am, 0, none⟩), .int .i64 99] rfl wT ?_; (with_reducible refine (laws_lwNext.calls am l0 a7 a8 99 fp fB fC w _ ?side1 ?side2 A1015.out).mono ?_); (case side1 => repeat (first | (with_reducible first | exact aa.out | apply IsS36.alloc | apply IsS36.drewN | apply IsS36.drew | apply IsS36.set_1 | apply IsS36.set_2 | refine IsS36.far ?_ ab.out _) | exact aa.out)); (case side2 => repeat (first | (with_reducible first | exact HB.out | apply below_alloc | apply pw_below_drewN | apply below_drew1 | refine below_set ?_ (IsS36.ge aa.out) | refine below_set ?_ av.out) | exact HB.out)); rintro e hl ⟨rfl, hi, hb, hk⟩; refine ⟨_, rfl, ?_⟩; replace HO_428002 := Aside0.mk (Kd.R_mono (Kd.R_keep (IsS36.apart (show IsS36 w _ am l0 a7 a8 from by repeat (first | (with_reducible first | exact aa.out | apply IsS36.alloc | apply IsS36.drewN | apply IsS36.drew | apply IsS36.set_1 | apply IsS36.set_2 | refine IsS36.far ?_ ab.out _) | exact aa.out)) (Rh HO_428002) (by decide)) hk (fun _ h => h.2)) (fun _ h => h.1)); replace ac := Aside0.mk (KeepBut.blk hk (g' := ay) (o := .cells #[.int .i64 aF, .int .i64 aG, .slice an ag.length ao] 39 (0, 0)) (Bh ac) aW.out (by simp)); replace HB := Aside0.mk (hb); replace aa := Aside0.mk (hi); (try clear hb); (try clear hb2); (try clear hk); (try clear hi)) | ((with_reducible refine gate_callee (f := 17) rfl ?_); refine goesL_ (some 42) rfl rfl Try.func17 (by kernel_rfl) rfl #[.pointer (some ⟨am, 0, none⟩), .int .i64 50] rfl wT ?_; (with_reducible refine (laws_lwNext.calls am l0 fB fC 50 fD dp dq w _ ?side1 ?side2 A1016.out).mono ?_); (case side1 => repeat (first | (with_reducible first | exact aa.out | apply IsS36.alloc | apply IsS36.drewN | apply IsS36.drew | apply IsS36.set_1 | apply IsS36.set_2 | refine IsS36.far ?_ ab.out _) | exact aa.out)); (case side2 => repeat (first | (with_reducible first | exact HB.out | apply below_alloc | apply pw_below_drewN | apply below_drew1 | refine below_set ?_ (IsS36.ge aa.out) | refine below_set ?_ av.out) | exact HB.out)); rintro e hm ⟨rfl, hi, hb, hk⟩; refine ⟨_, rfl, ?_⟩; replace HO_428002 := Aside0.mk (Kd.R_mono (Kd.R_keep (IsS36.apart (show IsS36 w _ am l0 fB fC from by repeat (first | (with_reducible first | exact aa.out | apply IsS36.alloc | apply IsS36.drewN | apply IsS36.drew | apply IsS36.set_1 | apply IsS36.set_2 | refine IsS36.far ?_ ab.out _) | exact aa.out)) (Rh HO_428002) (by decide)) hk (fun _ h => h.2)) (fun _ h => h.1)); replace ac := Aside0.mk (KeepBut.blk hk (g' := ay) (o := .cells #[.int .i64 aF, .int .i64 aG, .slice an ag.length ao] 39 (0, 0)) (Bh ac) aW.out (by simp)); replace HB := Aside0.mk (hb); replace aa := Aside0.mk (hi); (try clear hb); (try clear hb2); (try clear hk); (try clear hi)) | ((with_reducible refine gate_callee (f := 16) rfl ?_); refine goesL_ (some 43) rfl rfl Try.func16 (by kernel_rfl) rfl #[.int .i64 fp, .int .i64 fD] rfl wT ?_; (with_reducible refine (laws_lwPattern.calls bx fp fD al _ A1017.out).mono ?_); rintro e fY ⟨hy, rfl, aI, hb⟩; refine ⟨_, rfl, ?_⟩; have uB := below_pre (n := w.heap.size) (w := w) hb (by repeat (first | (with_reducible first | exact HB.out | apply below_alloc | apply pw_below_drewN | apply below_drew1 | refine below_set ?_ (IsS36.ge aa.out) | refine below_set ?_ av.out) | exact HB.out)); have dr := Aside0.mk (Kd.R_lower (Kd.R_new' aI (Kd.R_lt (Rh HO_428002))) (below_size uB)); replace HO_428002 := Aside0.mk (Kd.R_elder' (Rh HO_428002) (Kd.R_base aI) hb); replace ac := Aside0.mk (blk_below (Bh ac) hb); replace HB := Aside0.mk (below_step uB hb); replace aa := Aside0.mk (IsS36.below (by repeat (first | (with_reducible first | exact aa.out | apply IsS36.alloc | apply IsS36.drewN | apply IsS36.drew | apply IsS36.set_1 | apply IsS36.set_2 | refine IsS36.far ?_ ab.out _) | exact aa.out)) hb); clear uB; (try clear hb); (try clear hb2); (try clear hk); (try clear hi); (try clear aI); obtain ⟨az, aA, gj⟩ := Kd.R_slice dr.out; subst gj; have g6 := aW.out; have g7 := ab.out; obtain ⟨⟨cI, cJ, cK⟩, cL, cM, cN⟩ := cells3 ac.out) | ((with_reducible refine gate_store (t := 39) (p := 4) rfl ?_); refine store_event (t := 39) (p := 4) (v := ?_) (w1 := (((fY.setCell ⟨ay, 0, none⟩ (.int .i64 7)).setCell ⟨ay, 1, none⟩ (.int .i64 9)).setCell ⟨ay, 2, none⟩ (.slice az al.length aA))) ?hg ?ho ?hn ?hr ?_; (case ho => rfl); (case hg => rfl); (case hn => rfl); (case hr => first | (go_simp; done) | (go_simp; rfl)); intro e6 hw; have n0_ : Aside0 (Kd.R (Kd.int .u8) 5 e6 w.heap.size (fun k_ => some k_ ≠ (.slice az al.length aA : Value).ownBlock) (.slice an ag.length ao) ag) := ⟨(by rw [hw]; exact (by (with_reducible repeat (first | apply Kd.R_alloc | apply Kd.R_drewN | apply Kd.R_drew)); exact Kd.R_mono (Kd.R_far (p := ⟨ay, 2, none⟩) (Kd.R_far (p := ⟨ay, 1, none⟩) (Kd.R_far (p := ⟨ay, 0, none⟩) (Kd.R_types HO_428002.out ac.out (by decide)) (fun _ hk => hk.2) (.int .i64 7)) (fun _ hk => hk.2) (.int .i64 9)) (fun _ hk => hk.2) (.slice az al.length aA)) (fun _ hk => hk.1.2)))⟩; have n1_ : Aside0 (Kd.R (Kd.int .u8) 5 e6 w.heap.size (fun k_ => some k_ ≠ (.slice an ag.length ao : Value).ownBlock) (.slice az al.length aA) al) := ⟨(by rw [hw]; exact (by (with_reducible repeat (first | apply Kd.R_alloc | apply Kd.R_drewN | apply Kd.R_drew)); exact Kd.R_mono (Kd.R_far (p := ⟨ay, 2, none⟩) (Kd.R_far (p := ⟨ay, 1, none⟩) (Kd.R_far (p := ⟨ay, 0, none⟩) (Kd.R_types dr.out ac.out (by decide)) (fun _ hk => hk.2) (.int .i64 7)) (fun _ hk => hk.2) (.int .i64 9)) (fun _ hk => hk.2) (.slice az al.length aA)) (fun _ hk => hk.1.2)))⟩; have n2_ : Aside0 (e6.heap[ay]? = some (.cells #[.int .i64 7, .int .i64 9, .slice az al.length aA] 39 (0, 0))) := ⟨(by rw [hw]; exact (by (with_reducible repeat (first | refine blk_drewN ?_ _ | refine blk_drew ?_ | refine blk_alloc ?_ _)); refine blk_put (cs := #[.int .i64 7, .int .i64 9, .slice an ag.length ao]) ?_ 2 _ rfl; (with_reducible repeat (first | refine blk_drewN ?_ _ | refine blk_drew ?_ | refine blk_alloc ?_ _)); refine blk_put (cs := #[.int .i64 7, .int .i64 aG, .slice an ag.length ao]) ?_ 1 _ rfl; (with_reducible repeat (first | refine blk_drewN ?_ _ | refine blk_drew ?_ | refine blk_alloc ?_ _)); refine blk_put (cs := #[.int .i64 aF, .int .i64 aG, .slice an ag.length ao]) ?_ 0 _ rfl; (with_reducible repeat (first | refine blk_drewN ?_ _ | refine blk_drew ?_ | refine blk_alloc ?_ _)); exact ac.out))⟩; have n3_ : Aside0 (IsS36 w e6 am l0 dp dq) := ⟨(by rw [hw]; exact (by repeat (first | (with_reducible first | exact aa.out | apply IsS36.alloc | apply IsS36.drewN | apply IsS36.drew | apply IsS36.set_1 | apply IsS36.set_2 | refine IsS36.far ?_ ab.out _) | exact aa.out)))⟩; have n4_ : Aside0 (Below w.heap.size w e6) := ⟨(by rw [hw]; exact (by repeat (first | (with_reducible first | exact HB.out | apply below_alloc | apply pw_below_drewN | apply below_drew1 | refine below_set ?_ (IsS36.ge aa.out) | refine below_set ?_ av.out) | exact HB.out)))⟩; clear hw; clear HO_428002; clear dr; clear ac; clear aa; clear HB; have HO_428002 := n0_; have dr := n1_; have ac := n2_; have aa := n3_; have HB := n4_; clear n0_ n1_ n2_ n3_ n4_; obtain ⟨⟨cO, cP, cQ⟩, cR, cS, cT⟩ := cells3 ac.out) | ((with_reducible refine gate_callee (f := 18) rfl ?_); refine goesL_ (some 49) rfl rfl Try.func18 (by kernel_rfl) rfl #[.agg #[.int .i64 7, .int .i64 9, .slice az al.length aA], .int .i64 167772161, .int .i64 167772162] rfl wT ?_; (with_reducible refine (impl_EncodeUdp.calls bx 7 9 _ _ al 167772161 167772162 aP eX _ ?side1 ?side2 A1018.out).mono ?_); (case side1 => exact Ch dr); (case side2 => exact (Kd.R_reads' dr.out).2.1); rintro e hp ⟨gk, rfl, aI, hb⟩; refine ⟨_, rfl, ?_⟩; have uB := below_pre (n := w.heap.size) (w := w) hb (by repeat (first | (with_reducible first | exact HB.out | apply below_alloc | apply pw_below_drewN | apply below_drew1 | refine below_set ?_ (IsS36.ge aa.out) | refine below_set ?_ av.out) | exact HB.out)); have fE := Aside0.mk (Kd.R_lower (Kd.R_new' (Kd.R_new' aI (Kd.R_lt (Rh HO_428002))) (Kd.R_lt (Rh dr))) (below_size uB)); replace HO_428002 := Aside0.mk (Kd.R_elder' (Rh HO_428002) (Kd.R_base aI) hb); replace dr := Aside0.mk (Kd.R_elder' (Rh dr) (Kd.R_base aI) hb); replace ac := Aside0.mk (blk_below (Bh ac) hb); replace HB := Aside0.mk (below_step uB hb); replace aa := Aside0.mk (IsS36.below (by repeat (first | (with_reducible first | exact aa.out | apply IsS36.alloc | apply IsS36.drewN | apply IsS36.drew | apply IsS36.set_1 | apply IsS36.set_2 | refine IsS36.far ?_ ab.out _) | exact aa.out)) hb); clear uB; (try clear hb); (try clear hb2); (try clear hk); (try clear hi); (try clear aI)))
 (try simp only [Act.put, List.setIfInBounds_toArray, List.set_cons_zero, List.set_cons_succ])
 go_cut [62] (fun gl wc => ∃ (kq : Nat) (eJ : Bool), gl = .bool eJ ∧ Aside0 (laws_FnOneBit.j1 kq l0 167772161 167772162 aP eJ l0 dp dq 7 9 al = some r) ∧ Aside0 (kq ≤ bx) ∧ Aside0 (Kd.R (Kd.int .u8) 5 wc w.heap.size (fun k_ => some k_ ≠ ((.slice az al.length aA) : Value).ownBlock) gk aP) ∧ Aside0 (Kd.R (Kd.int .u8) 5 wc w.heap.size (fun k_ => some k_ ≠ (gk : Value).ownBlock) (.slice az al.length aA) al) ∧ Aside0 (wc.heap[ay]? = some (.cells #[.int .i64 7, .int .i64 9, (.slice az al.length aA)] 39 (0, 0))) ∧ Aside0 (IsS36 w wc am l0 dp dq) ∧ Aside0 (Below w.heap.size w wc))
 case first => as_aux_lemma => (
 have H := fq.out
 clear fq
 by_cases cB : eX = 0
 {
 rw [if_pos cB] at H
 have c2010b0 : (eX == 0) = true := beq_iff_eq.mpr cB
 have c2010b1 : (eX != 0) = false := bne_eq_false_iff_eq.mpr cB
 clear cB
 (first | rw [c2010b0] | (simp only [i64_w, i32_w]; rw [c2010b0]) | skip)
 have H' := Aside0.mk H
 clear H
 obtain ⟨fr, bd, eA⟩ := Kd.R_slice fE.out
 subst eA
 have f1 := aW.out
 have f2 := ab.out
 obtain ⟨⟨ce, cf, cg⟩, ch, ci, cj⟩ := cells3 ac.out
 go_wp2
 all_goals (try (rename_i h_; exfalso; cases h_; done))
 all_goals (try (rename_i h_ h2_; exfalso; cases h_; done))
 go_meet
 case rel => exact ⟨_, (((aP.length : Int) != (wrap64 (8 + (al.length : Int))))), (by first | rfl | (simp; done) | (simp [*]; done)), H', ⟨by have := HJ5.out; first | omega | exact Nat.le_refl _⟩, ⟨Kd.R_mono (Rh fE) (fun _ hk => hk.2)⟩, ⟨Kd.R_mono (Rh dr) (fun _ hk => hk.2)⟩, ⟨Bh ac⟩, ⟨by repeat (first | (with_reducible first | exact aa.out | apply IsS36.alloc | apply IsS36.drewN | apply IsS36.drew | apply IsS36.set_1 | apply IsS36.set_2 | refine IsS36.far ?_ ab.out _) | exact aa.out)⟩, ⟨by repeat (first | (with_reducible first | exact HB.out | apply below_alloc | apply pw_below_drewN | apply below_drew1 | refine below_set ?_ (IsS36.ge aa.out) | refine below_set ?_ av.out) | exact HB.out)⟩⟩
 }
 {
 rw [if_neg cB] at H
 have c2010b0 : (eX == 0) = false := beq_eq_false_iff_ne.mpr cB
 have c2010b1 : (eX != 0) = true := bne_iff_ne.mpr cB
 (first | rw [c2010b0] | (simp only [i64_w, i32_w]; rw [c2010b0]) | skip)
 have H' := Aside0.mk H
 clear H
 go_wp2
 all_goals (try (rename_i h_; exfalso; cases h_; done))
 all_goals (try (rename_i h_ h2_; exfalso; cases h_; done))
 go_meet
 case rel => exact ⟨_, (true), (by first | rfl | (simp; done) | (simp [*]; done)), H', ⟨by have := HJ5.out; first | omega | exact Nat.le_refl _⟩, ⟨Kd.R_mono (Rh fE) (fun _ hk => hk.2)⟩, ⟨Kd.R_mono (Rh dr) (fun _ hk => hk.2)⟩, ⟨Bh ac⟩, ⟨by repeat (first | (with_reducible first | exact aa.out | apply IsS36.alloc | apply IsS36.drewN | apply IsS36.drew | apply IsS36.set_1 | apply IsS36.set_2 | refine IsS36.far ?_ ab.out _) | exact aa.out)⟩, ⟨by repeat (first | (with_reducible first | exact HB.out | apply below_alloc | apply pw_below_drewN | apply below_drew1 | refine below_set ?_ (IsS36.ge aa.out) | refine below_set ?_ av.out) | exact HB.out)⟩⟩
 }
 )
 case rest => (
 clear fq
 try clear c0
 try clear c2
 try clear c2b0
 try clear c2b1
 try clear p2
 try clear bS
 try clear c1013b0
 try clear c1013b1
 try clear dI
 try clear cB
 try clear c2010b0
 try clear c2010b1
 try clear bW bX bY bZ b0 b1
 try clear b2 b3 b4 b5 b6 b7
 try clear b8 b9 ca cb cc cd
 try clear bB bC bD bE bF bG
 try clear cI cJ cK cL cM cN
 try clear cO cP cQ cR cS cT
 try clear ce cf cg ch ci cj
 try clear p2
 obtain ⟨kq, eJ, rfl, HA, HJ1018, HO_9, HO_428002, ac, aa, HB⟩ := hcut
 cases kq with
 | zero => exact absurd HA.out (by simp [laws_FnOneBit.j1])
 | succ ar => {
 have H := HA.out
 clear HA
 simp only [laws_FnOneBit.j1] at H
 by_cases bT : eJ = true
 {
 subst bT
 have H1 : (some false) = some r := by rw [if_pos rfl] at H; exact H
 clear H
 have H := H1
 clear H1
 obtain rfl := Option.some.inj H
 go_wp2
 all_goals (try (rename_i h_; exfalso; cases h_; done))
 all_goals (try (rename_i h_ h2_; exfalso; cases h_; done))
 go_ret
 exact ⟨by first | rfl | (simp [errW_none, errW_some] <;> rfl) | (simp [*, errW_none, errW_some] <;> rfl), by repeat (first | (with_reducible first | exact HB.out | apply below_alloc | apply pw_below_drewN | apply below_drew1 | refine below_set ?_ (IsS36.ge aa.out) | refine below_set ?_ av.out) | exact HB.out)⟩
 }
 {
 replace bT := Bool.eq_false_iff.mpr bT
 subst bT
 have H1 : ((laws_lwNext.f l0 dp dq (wrap64 (8 * (aP.length : Int)))).bind fun bU => (if 0 ≤ (wrap64 (Int.tdiv bU.1 8)) then (if (wrap64 (Int.tdiv bU.1 8)) < (aP.length : Int) then (if 0 ≤ (IntKind.u64.wrap (Int.tmod bU.1 8)) then ((impl_DecodeUdp.f ar (aP.set ((wrap64 (Int.tdiv bU.1 8)) : Int).toNat (Go.bits .xor .u8 (rd aP (wrap64 (Int.tdiv bU.1 8))) (shl .u8 1 (IntKind.u64.wrap (Int.tmod bU.1 8))))) 167772161 167772162).bind fun aT => (if aT.2.2.2 = 0 then (if aT.1 = 7 then (if aT.2.1 = 9 then ((laws_lwSame.f aT.2.2.1 al).bind fun ck => (laws_FnOneBit.j2 ar l0 167772161 167772162 (!ck) l0 bU.2.1 bU.2.2)) else (laws_FnOneBit.j2 ar l0 167772161 167772162 true l0 bU.2.1 bU.2.2)) else (laws_FnOneBit.j2 ar l0 167772161 167772162 true l0 bU.2.1 bU.2.2)) else (laws_FnOneBit.j2 ar l0 167772161 167772162 false l0 bU.2.1 bU.2.2))) else (none)) else (none)) else (none))) = some r := by rw [if_neg (show ¬ (false = true) by decide)] at H; exact H
 clear H
 have H := H1
 clear H1
 replace H := Option.bind_eq_some_iff.mp H
 obtain ⟨⟨eq, aB, aC⟩, A20120, H⟩ := H
 replace H : (if 0 ≤ (wrap64 (Int.tdiv eq 8)) then (if (wrap64 (Int.tdiv eq 8)) < (aP.length : Int) then (if 0 ≤ (IntKind.u64.wrap (Int.tmod eq 8)) then ((impl_DecodeUdp.f ar (aP.set ((wrap64 (Int.tdiv eq 8)) : Int).toNat (Go.bits .xor .u8 (rd aP (wrap64 (Int.tdiv eq 8))) (shl .u8 1 (IntKind.u64.wrap (Int.tmod eq 8))))) 167772161 167772162).bind fun aT => (if aT.2.2.2 = 0 then (if aT.1 = 7 then (if aT.2.1 = 9 then ((laws_lwSame.f aT.2.2.1 al).bind fun ck => (laws_FnOneBit.j2 ar l0 167772161 167772162 (!ck) l0 aB aC)) else (laws_FnOneBit.j2 ar l0 167772161 167772162 true l0 aB aC)) else (laws_FnOneBit.j2 ar l0 167772161 167772162 true l0 aB aC)) else (laws_FnOneBit.j2 ar l0 167772161 167772162 false l0 aB aC))) else (none)) else (none)) else (none)) = some r := H
 have A2012 := Aside0.mk A20120
 clear A20120
 obtain ⟨aN, hji2013⟩ : ∃ j_ : Int, (wrap64 (Int.tdiv eq 8)) = j_ := ⟨_, rfl⟩
 replace H : (if 0 ≤ (aN) then (if (aN) < (aP.length : Int) then (if 0 ≤ (IntKind.u64.wrap (Int.tmod eq 8)) then ((impl_DecodeUdp.f ar (aP.set ((aN) : Int).toNat (Go.bits .xor .u8 (rd aP (aN)) (shl .u8 1 (IntKind.u64.wrap (Int.tmod eq 8))))) 167772161 167772162).bind fun aT => (if aT.2.2.2 = 0 then (if aT.1 = 7 then (if aT.2.1 = 9 then ((laws_lwSame.f aT.2.2.1 al).bind fun ck => (laws_FnOneBit.j2 ar l0 167772161 167772162 (!ck) l0 aB aC)) else (laws_FnOneBit.j2 ar l0 167772161 167772162 true l0 aB aC)) else (laws_FnOneBit.j2 ar l0 167772161 167772162 true l0 aB aC)) else (laws_FnOneBit.j2 ar l0 167772161 167772162 false l0 aB aC))) else (none)) else (none)) else (none)) = some r := by first | (rw [hji2013] at H; exact H) | (simp only [hji2013] at H ⊢; exact H)
 (try rw [hji2013] at A2012)
 have hji2013w : (IntKind.i64.wrap (Int.tdiv eq 8)) = aN := (i64_w _).trans hji2013
 by_cases eD : 0 ≤ (aN)
 {
 rw [if_pos eD] at H
 have c2014b0 : decide (0 ≤ (aN)) = true := decide_eq_true eD
 clear eD
 by_cases eE : (aN) < (aP.length : Int)
 {
 rw [if_pos eE] at H
 have c2015b0 : decide ((aN) < (aP.length : Int)) = true := decide_eq_true eE
 clear eE
 obtain ⟨cl, hji2016⟩ : ∃ j_ : Int, (IntKind.u64.wrap (Int.tmod eq 8)) = j_ := ⟨_, rfl⟩
 replace H : (if 0 ≤ (cl) then ((impl_DecodeUdp.f ar (aP.set ((aN) : Int).toNat (Go.bits .xor .u8 (rd aP (aN)) (shl .u8 1 (cl)))) 167772161 167772162).bind fun aT => (if aT.2.2.2 = 0 then (if aT.1 = 7 then (if aT.2.1 = 9 then ((laws_lwSame.f aT.2.2.1 al).bind fun ck => (laws_FnOneBit.j2 ar l0 167772161 167772162 (!ck) l0 aB aC)) else (laws_FnOneBit.j2 ar l0 167772161 167772162 true l0 aB aC)) else (laws_FnOneBit.j2 ar l0 167772161 167772162 true l0 aB aC)) else (laws_FnOneBit.j2 ar l0 167772161 167772162 false l0 aB aC))) else (none)) = some r := by first | (rw [hji2016] at H; exact H) | (simp only [hji2016] at H ⊢; exact H)
 (try rw [hji2016] at A2012)
 by_cases eu : 0 ≤ (cl)
 {
 rw [if_pos eu] at H
 have c2017b0 := eq_true eu
 have c2017b1 : decide (0 ≤ (cl)) = true := decide_eq_true eu
 clear eu
 obtain ⟨dK, hji2018⟩ : ∃ j_ : Int, (shl .u8 1 (cl)) = j_ := ⟨_, rfl⟩
 replace H : ((impl_DecodeUdp.f ar (aP.set ((aN) : Int).toNat (Go.bits .xor .u8 (rd aP (aN)) (dK))) 167772161 167772162).bind fun aT => (if aT.2.2.2 = 0 then (if aT.1 = 7 then (if aT.2.1 = 9 then ((laws_lwSame.f aT.2.2.1 al).bind fun ck => (laws_FnOneBit.j2 ar l0 167772161 167772162 (!ck) l0 aB aC)) else (laws_FnOneBit.j2 ar l0 167772161 167772162 true l0 aB aC)) else (laws_FnOneBit.j2 ar l0 167772161 167772162 true l0 aB aC)) else (laws_FnOneBit.j2 ar l0 167772161 167772162 false l0 aB aC))) = some r := by first | (rw [hji2018] at H; exact H) | (simp only [hji2018] at H ⊢; exact H)
 (try rw [hji2018] at A2012)
 have hji2018_ : (IntKind.u8.wrap (1 * 2 ^ min (cl).toNat 8)) = dK := hji2018
 have hji2018z : (cl) ≤ 8 → (IntKind.u8.wrap (1 * 2 ^ (cl).toNat)) = dK := shl_small hji2018
 have hji2018u : (IntKind.u8.wrap (2 ^ min (cl).toNat 8)) = dK := by have h_ := hji2018_; rw [Int.one_mul] at h_; exact h_
 have hji2018v : (cl) ≤ 8 → (IntKind.u8.wrap (2 ^ (cl).toNat)) = dK := fun hle_ => by have h_ := hji2018z hle_; rw [Int.one_mul] at h_; exact h_
 obtain ⟨eY, e7⟩ : ∃ y_ : List Int, y_ = (aP.set ((aN) : Int).toNat (Go.bits .xor .u8 (rd aP (aN)) (dK))) := ⟨_, rfl⟩
 replace H : ((impl_DecodeUdp.f ar eY 167772161 167772162).bind fun aT => (if aT.2.2.2 = 0 then (if aT.1 = 7 then (if aT.2.1 = 9 then ((laws_lwSame.f aT.2.2.1 al).bind fun ck => (laws_FnOneBit.j2 ar l0 167772161 167772162 (!ck) l0 aB aC)) else (laws_FnOneBit.j2 ar l0 167772161 167772162 true l0 aB aC)) else (laws_FnOneBit.j2 ar l0 167772161 167772162 true l0 aB aC)) else (laws_FnOneBit.j2 ar l0 167772161 167772162 false l0 aB aC))) = some r := by first | (rw [e7]; with_reducible exact H) | (have H2_ := (Option.bind_some _ _).symm.trans H; rw [e7]; with_reducible exact H2_) | (have H2_ := (Option.bind_some _ _).symm.trans H; with_reducible exact H2_) | with_reducible exact H | (rw [e7]; exact H) | exact H
 have Ny449 := Aside0.mk e7
 clear e7
 replace H := Option.bind_eq_some_iff.mp H
 obtain ⟨⟨bO, cm, a4, eZ⟩, A20200, H⟩ := H
 replace H : (if eZ = 0 then (if bO = 7 then (if cm = 9 then ((laws_lwSame.f a4 al).bind fun ck => (laws_FnOneBit.j2 ar l0 167772161 167772162 (!ck) l0 aB aC)) else (laws_FnOneBit.j2 ar l0 167772161 167772162 true l0 aB aC)) else (laws_FnOneBit.j2 ar l0 167772161 167772162 true l0 aB aC)) else (laws_FnOneBit.j2 ar l0 167772161 167772162 false l0 aB aC)) = some r := H
 have A2020 := Aside0.mk A20200
 clear A20200
 have fs := Aside0.mk H
 clear H
 obtain ⟨fr, bd, eA⟩ := Kd.R_slice HO_9.out
 subst eA
 go_upto_region 16 with (first | ((with_reducible refine gate_callee (f := 17) rfl ?_); refine goesL_ (some 66) rfl rfl Try.func17 (by kernel_rfl) rfl #[.pointer (some ⟨am, 0, none⟩), .int .i64 (wrap64 (8 * (aP.length : Int)))] rfl wT ?_; (with_reducible refine (laws_lwNext.calls am l0 dp dq (wrap64 (8 * (aP.length : Int))) eq aB aC w _ ?side1 ?side2 A2012.out).mono ?_); (case side1 => repeat (first | (with_reducible first | exact aa.out | apply IsS36.alloc | apply IsS36.drewN | apply IsS36.drew | apply IsS36.set_1 | apply IsS36.set_2 | refine IsS36.far ?_ ab.out _) | exact aa.out)); (case side2 => repeat (first | (with_reducible first | exact HB.out | apply below_alloc | apply pw_below_drewN | apply below_drew1 | refine below_set ?_ (IsS36.ge aa.out) | refine below_set ?_ av.out) | exact HB.out)); rintro e e8 ⟨rfl, hi, hb, hk⟩; refine ⟨_, rfl, ?_⟩; replace HO_9 := Aside0.mk (Kd.R_mono (Kd.R_keep (IsS36.apart (show IsS36 w _ am l0 dp dq from by repeat (first | (with_reducible first | exact aa.out | apply IsS36.alloc | apply IsS36.drewN | apply IsS36.drew | apply IsS36.set_1 | apply IsS36.set_2 | refine IsS36.far ?_ ab.out _) | exact aa.out)) (Rh HO_9) (by decide)) hk (fun _ h => h.2)) (fun _ h => h.1)); replace HO_428002 := Aside0.mk (Kd.R_mono (Kd.R_keep (IsS36.apart (show IsS36 w _ am l0 dp dq from by repeat (first | (with_reducible first | exact aa.out | apply IsS36.alloc | apply IsS36.drewN | apply IsS36.drew | apply IsS36.set_1 | apply IsS36.set_2 | refine IsS36.far ?_ ab.out _) | exact aa.out)) (Rh HO_428002) (by decide)) hk (fun _ h => h.2)) (fun _ h => h.1)); replace ac := Aside0.mk (KeepBut.blk hk (g' := ay) (o := .cells #[.int .i64 7, .int .i64 9, .slice az al.length aA] 39 (0, 0)) (Bh ac) aW.out (by simp)); replace HB := Aside0.mk (hb); replace aa := Aside0.mk (hi); (try clear hb); (try clear hb2); (try clear hk); (try clear hi); have p448 : 0 ≤ ((aN) : Int) := of_decide_eq_true (by first | (with_reducible assumption) | assumption); have q448 : (aN) < (aP.length : Int) := of_decide_eq_true (by first | (with_reducible assumption) | assumption); obtain ⟨ad448, e448, hx448_0⟩ := Kd.at_int (Kd.R_reads' HO_9.out).2.2 (aN) p448 q448; cases e448; replace p448 := eq_true p448; replace q448 := eq_true q448; have p2019 : 0 ≤ ((aN) : Int) := of_decide_eq_true (by first | (with_reducible assumption) | assumption); have q2019 : ((aN) : Int) < ((aP.length : Int) : Int) := of_decide_eq_true (by first | (with_reducible assumption) | assumption); obtain ⟨go2019, g9, fM, fN, gl2019, cl2019, HG2019⟩ := Kd.R_form HO_9.out (by omega); (first | cases fM | (injection fM with ea_ en_ ec_; (first | subst ea_ | (injection ea_ with ea_; subst ea_)); subst ec_; clear en_)); have GB2019 := Aside0.mk fN; have GG2019 := Aside0.mk HG2019; clear fN gl2019 HG2019; (first | simp only [add_plain] at hx448_0 | skip); obtain ⟨hx2019_0, hf2019_0⟩ := Kd.R_celln 0 HO_9.out ((aN) : Int) p2019 q2019; replace p2019 := eq_true p2019; replace q2019 := eq_true q2019; obtain ⟨hy3003_, hz3003_⟩ := Kd.R_celln 0 HO_9.out ((aN) : Int) (of_decide_eq_true (by first | (with_reducible assumption) | assumption)) (of_decide_eq_true (by first | (with_reducible assumption) | assumption)); have HP3003 := Kd.R_putg HO_9.out ((aN) : Int) (Go.bits .xor .u8 (rd aP (aN)) (dK))) | ((with_reducible refine gate_store (t := 5) (p := 80) rfl ?_); refine store_event (t := 5) (p := 80) (v := ?_) (w1 := (e8.setCell ⟨go2019, ((aN) : Int).toNat, none⟩ (.int .u8 (Go.bits .xor .u8 (rd aP (aN)) (dK))))) ?hg ?ho ?hn ?hr ?_; (case ho => rfl); (case hg => rfl); (case hn => rfl); (case hr => first | (go_simp; done) | (go_simp; rfl)); intro eK hw; have hg : e8.grownBy eK (some go2019) := (by rw [hw]; exact HP3003.2); have hp_ : Kd.R (Kd.int .u8) 5 eK w.heap.size (fun k_ => some k_ ≠ (.slice az al.length aA : Value).ownBlock) (.slice (some ⟨go2019, 0, none⟩) aP.length bd) eY := (by rw [hw, Ny449.out]; exact HP3003.1); clear HP3003; replace HO_428002 := Aside0.mk (Kd.R_after (v := (.slice (some ⟨go2019, 0, none⟩) aP.length bd)) (v1 := (.slice (some ⟨go2019, 0, none⟩) aP.length bd)) (ok := (fun _ => True)) (Kd.R_mono (Rh HO_428002) (fun _ hk => ⟨trivial, hk⟩)) hg (.inl rfl)); replace ac := Aside0.mk (blk_grown (Bh ac) hg (Kd.R_ne HO_9.out ac.out (by decide))); replace aa := Aside0.mk (IsS36.grown (by repeat (first | (with_reducible first | exact aa.out | apply IsS36.alloc | apply IsS36.drewN | apply IsS36.drew | apply IsS36.set_1 | apply IsS36.set_2 | refine IsS36.far ?_ ab.out _) | exact aa.out)) hg (IsS36.own_ne aa.out HO_9.out (by decide))); replace HO_9 := Aside0.mk (hp_); replace HB := Aside0.mk ((by rw [hw]; exact below_set (HB.out) GB2019.out : Below w.heap.size w eK)); clear hg hw hp_) | ((with_reducible refine gate_callee (f := 19) rfl ?_); refine goesL_ (some 85) rfl rfl Try.func19 (by kernel_rfl) rfl #[.slice (some ⟨go2019, 0, none⟩) eY.length bd, .int .i64 167772161, .int .i64 167772162] rfl (by (try simp only [List.map_toArray, List.map_cons, List.map_nil]); first | done | (rw [show eY.length = aP.length from (Kd.R_reads' HO_9.out).1.symm] <;> rfl) | rfl | (simp only [List.length_drop, List.length_take]; rfl)) ?_; (with_reducible refine (impl_DecodeUdp.calls ar _ _ eY 167772161 167772162 bO cm a4 eZ _ ?side1 ?side2 A2020.out).mono ?_); (case side1 => exact Ch HO_9); (case side2 => rw [show eY.length = aP.length from (Kd.R_reads' HO_9.out).1.symm]; exact (Kd.R_reads' HO_9.out).2.1); rintro e gt ⟨hz, rfl, aI, hb⟩; refine ⟨_, rfl, ?_⟩; have uB := below_pre (n := w.heap.size) (w := w) hb (by repeat (first | (with_reducible first | exact HB.out | apply below_alloc | apply pw_below_drewN | apply below_drew1 | refine below_set ?_ (IsS36.ge aa.out) | refine below_set ?_ av.out) | exact HB.out)); have ds := Aside0.mk (Kd.R_lower (Kd.R_new' (Kd.R_new' aI (Kd.R_lt (Rh HO_9))) (Kd.R_lt (Rh HO_428002))) (below_size uB)); replace HO_9 := Aside0.mk (Kd.R_elder' (Rh HO_9) (Kd.R_base aI) hb); replace HO_428002 := Aside0.mk (Kd.R_elder' (Rh HO_428002) (Kd.R_base aI) hb); replace ac := Aside0.mk (blk_below (Bh ac) hb); replace HB := Aside0.mk (below_step uB hb); replace aa := Aside0.mk (IsS36.below (by repeat (first | (with_reducible first | exact aa.out | apply IsS36.alloc | apply IsS36.drewN | apply IsS36.drew | apply IsS36.set_1 | apply IsS36.set_2 | refine IsS36.far ?_ ab.out _) | exact aa.out)) hb); clear uB; (try clear hb); (try clear hb2); (try clear hk); (try clear hi); (try clear aI)) | ((with_reducible refine gate_dst (N := 12) rfl ?_); (try (refine gate_guard (by rfl) ?_; dsimp only)); refine box_event ?hg (N := 12) ?hd (cs := #[.int .i64 0, .int .i64 0, .slice none 0 0]) (t := 39) ?hr ?_; (case hd => rfl); (case hg => rfl); (case hr => first | (go_simp; done) | (go_simp; rfl)); intro a9 hg fF hbox hb; have uB := below_pre (n := w.heap.size) (w := w) hb (by repeat (first | (with_reducible first | exact HB.out | apply below_alloc | apply pw_below_drewN | apply below_drew1 | refine below_set ?_ (IsS36.ge aa.out) | refine below_set ?_ av.out) | exact HB.out)); replace HO_9 := Aside0.mk (Kd.R_below (Rh HO_9) hb); replace HO_428002 := Aside0.mk (Kd.R_below (Rh HO_428002) hb); replace ds := Aside0.mk (Kd.R_below (Rh ds) hb); have aL := Aside0.mk (hbox); have gu := Aside0.mk ((by rw [hg]; exact (below_size uB) : w.heap.size ≤ a9)); replace HB := Aside0.mk (below_step uB hb); have bH := gu; have cU := Aside0.mk ((by rw [hg]; exact Nat.ne_of_lt (blk_lt (Bh ac)) : ay ≠ a9)); replace ac := Aside0.mk (blk_below (Bh ac) hb); have fh := Aside0.mk cU.out.symm; have aw := Aside0.mk ((by rw [hg]; exact Nat.ne_of_lt (IsS36.lt (show IsS36 w _ am l0 aB aC from by repeat (first | (with_reducible first | exact aa.out | apply IsS36.alloc | apply IsS36.drewN | apply IsS36.drew | apply IsS36.set_1 | apply IsS36.set_2 | refine IsS36.far ?_ ab.out _) | exact aa.out))) : am ≠ a9)); replace aa := Aside0.mk (IsS36.below (by repeat (first | (with_reducible first | exact aa.out | apply IsS36.alloc | apply IsS36.drewN | apply IsS36.drew | apply IsS36.set_1 | apply IsS36.set_2 | refine IsS36.far ?_ ab.out _) | exact aa.out)) hb); have eN := Aside0.mk aw.out.symm; clear uB; clear hb hbox hg; have f3 := fh.out; have f4 := cU.out; have f5 := eN.out; have f6 := aw.out; obtain ⟨⟨cV, cW, cX⟩, cY, cZ, c1⟩ := cells3 aL.out; obtain ⟨aj, ak, ft⟩ := Kd.R_slice ds.out; subst ft) | ((with_reducible refine gate_store (t := 39) (p := 12) rfl ?_); refine store_event (t := 39) (p := 12) (v := ?_) (w1 := (((fF.setCell ⟨a9, 0, none⟩ (.int .i64 bO)).setCell ⟨a9, 1, none⟩ (.int .i64 cm)).setCell ⟨a9, 2, none⟩ (.slice aj a4.length ak))) ?hg ?ho ?hn ?hr ?_; (case ho => rfl); (case hg => rfl); (case hn => rfl); (case hr => first | (go_simp; done) | (go_simp; rfl)); intro bI hw; have n0_ : Aside0 (Kd.R (Kd.int .u8) 5 bI w.heap.size (fun k_ => some k_ ≠ (.slice az al.length aA : Value).ownBlock ∧ some k_ ≠ (.slice aj a4.length ak : Value).ownBlock) (.slice (some ⟨go2019, 0, none⟩) aP.length bd) eY) := ⟨(by rw [hw]; exact (by (with_reducible repeat (first | apply Kd.R_alloc | apply Kd.R_drewN | apply Kd.R_drew)); exact Kd.R_mono (Kd.R_far (p := ⟨a9, 2, none⟩) (Kd.R_far (p := ⟨a9, 1, none⟩) (Kd.R_far (p := ⟨a9, 0, none⟩) (Kd.R_types HO_9.out aL.out (by decide)) (fun _ hk => hk.2) (.int .i64 bO)) (fun _ hk => hk.2) (.int .i64 cm)) (fun _ hk => hk.2) (.slice aj a4.length ak)) (fun _ hk => ⟨hk.1.1, hk.1.2⟩)))⟩; have n1_ : Aside0 (Kd.R (Kd.int .u8) 5 bI w.heap.size (fun k_ => some k_ ≠ (.slice (some ⟨go2019, 0, none⟩) aP.length bd : Value).ownBlock ∧ some k_ ≠ (.slice aj a4.length ak : Value).ownBlock) (.slice az al.length aA) al) := ⟨(by rw [hw]; exact (by (with_reducible repeat (first | apply Kd.R_alloc | apply Kd.R_drewN | apply Kd.R_drew)); exact Kd.R_mono (Kd.R_far (p := ⟨a9, 2, none⟩) (Kd.R_far (p := ⟨a9, 1, none⟩) (Kd.R_far (p := ⟨a9, 0, none⟩) (Kd.R_types HO_428002.out aL.out (by decide)) (fun _ hk => hk.2) (.int .i64 bO)) (fun _ hk => hk.2) (.int .i64 cm)) (fun _ hk => hk.2) (.slice aj a4.length ak)) (fun _ hk => ⟨hk.1.1.2, hk.1.2⟩)))⟩; have n2_ : Aside0 (Kd.R (Kd.int .u8) 5 bI w.heap.size (fun k_ => some k_ ≠ (.slice (some ⟨go2019, 0, none⟩) aP.length bd : Value).ownBlock ∧ some k_ ≠ (.slice az al.length aA : Value).ownBlock) (.slice aj a4.length ak) a4) := ⟨(by rw [hw]; exact (by (with_reducible repeat (first | apply Kd.R_alloc | apply Kd.R_drewN | apply Kd.R_drew)); exact Kd.R_mono (Kd.R_far (p := ⟨a9, 2, none⟩) (Kd.R_far (p := ⟨a9, 1, none⟩) (Kd.R_far (p := ⟨a9, 0, none⟩) (Kd.R_types ds.out aL.out (by decide)) (fun _ hk => hk.2) (.int .i64 bO)) (fun _ hk => hk.2) (.int .i64 cm)) (fun _ hk => hk.2) (.slice aj a4.length ak)) (fun _ hk => ⟨hk.1.1.2, hk.1.2⟩)))⟩; have n3_ : Aside0 (bI.heap[ay]? = some (.cells #[.int .i64 7, .int .i64 9, .slice az al.length aA] 39 (0, 0))) := ⟨(by rw [hw]; exact (by (with_reducible repeat (first | refine blk_drewN ?_ _ | refine blk_drew ?_ | refine blk_alloc ?_ _)); refine blk_far ?_ cU.out _; (with_reducible repeat (first | refine blk_drewN ?_ _ | refine blk_drew ?_ | refine blk_alloc ?_ _)); refine blk_far ?_ cU.out _; (with_reducible repeat (first | refine blk_drewN ?_ _ | refine blk_drew ?_ | refine blk_alloc ?_ _)); refine blk_far ?_ cU.out _; (with_reducible repeat (first | refine blk_drewN ?_ _ | refine blk_drew ?_ | refine blk_alloc ?_ _)); exact ac.out))⟩; have n4_ : Aside0 (bI.heap[a9]? = some (.cells #[.int .i64 bO, .int .i64 cm, .slice aj a4.length ak] 39 (0, 0))) := ⟨(by rw [hw]; exact (by (with_reducible repeat (first | refine blk_drewN ?_ _ | refine blk_drew ?_ | refine blk_alloc ?_ _)); refine blk_put (cs := #[.int .i64 bO, .int .i64 cm, .slice none 0 0]) ?_ 2 _ rfl; (with_reducible repeat (first | refine blk_drewN ?_ _ | refine blk_drew ?_ | refine blk_alloc ?_ _)); refine blk_put (cs := #[.int .i64 bO, .int .i64 0, .slice none 0 0]) ?_ 1 _ rfl; (with_reducible repeat (first | refine blk_drewN ?_ _ | refine blk_drew ?_ | refine blk_alloc ?_ _)); refine blk_put (cs := #[.int .i64 0, .int .i64 0, .slice none 0 0]) ?_ 0 _ rfl; (with_reducible repeat (first | refine blk_drewN ?_ _ | refine blk_drew ?_ | refine blk_alloc ?_ _)); exact aL.out))⟩; have n5_ : Aside0 (IsS36 w bI am l0 aB aC) := ⟨(by rw [hw]; exact (by repeat (first | (with_reducible first | exact aa.out | apply IsS36.alloc | apply IsS36.drewN | apply IsS36.drew | apply IsS36.set_1 | apply IsS36.set_2 | refine IsS36.far ?_ ab.out _ | refine IsS36.far ?_ aw.out _) | exact aa.out)))⟩; have n6_ : Aside0 (Below w.heap.size w bI) := ⟨(by rw [hw]; exact (by repeat (first | (with_reducible first | exact HB.out | apply below_alloc | apply pw_below_drewN | apply below_drew1 | refine below_set ?_ (IsS36.ge aa.out) | refine below_set ?_ av.out | refine below_set ?_ bH.out) | exact HB.out)))⟩; clear hw; clear HO_9; clear HO_428002; clear ds; clear ac; clear aL; clear aa; clear HB; have HO_9 := n0_; have HO_428002 := n1_; have ds := n2_; have ac := n3_; have aL := n4_; have aa := n5_; have HB := n6_; clear n0_ n1_ n2_ n3_ n4_ n5_ n6_))
 (try simp only [Act.put, List.setIfInBounds_toArray, List.set_cons_zero, List.set_cons_succ])
 go_cut [111] (fun fU wc => ∃ (kq : Nat) (eF : Bool), fU = .bool eF ∧ Aside0 (laws_FnOneBit.j2 kq l0 167772161 167772162 eF l0 aB aC = some r) ∧ Aside0 (kq ≤ ar) ∧ Aside0 (Kd.R (Kd.int .u8) 5 wc w.heap.size (fun k_ => some k_ ≠ ((.slice aj a4.length ak) : Value).ownBlock) (.slice az al.length aA) al) ∧ Aside0 (Kd.R (Kd.int .u8) 5 wc w.heap.size (fun k_ => some k_ ≠ ((.slice az al.length aA) : Value).ownBlock) (.slice aj a4.length ak) a4) ∧ Aside0 (wc.heap[ay]? = some (.cells #[.int .i64 7, .int .i64 9, (.slice az al.length aA)] 39 (0, 0))) ∧ Aside0 (wc.heap[a9]? = some (.cells #[.int .i64 bO, .int .i64 cm, (.slice aj a4.length ak)] 39 (0, 0))) ∧ Aside0 (IsS36 w wc am l0 aB aC) ∧ Aside0 (Below w.heap.size w wc))
 case first => as_aux_lemma => (
 have H := fs.out
 clear fs
 by_cases bh : eZ = 0
 rw [if_pos bh] at H
 have c3012b0 : (eZ == 0) = true := beq_iff_eq.mpr bh
 have c3012b1 : (eZ != 0) = false := bne_eq_false_iff_eq.mpr bh
 clear bh
 (first | rw [c3012b0] | (simp only [i64_w, i32_w]; rw [c3012b0]) | skip)
 by_cases bi : bO = 7
 rw [if_pos bi] at H
 have c3013b0 : (bO == 7) = true := beq_iff_eq.mpr bi
 have c3013b1 : (bO != 7) = false := bne_eq_false_iff_eq.mpr bi
 clear bi
 by_cases bj : cm = 9
 rw [if_pos bj] at H
 have c3014b0 : (cm == 9) = true := beq_iff_eq.mpr bj
 have c3014b1 : (cm != 9) = false := bne_eq_false_iff_eq.mpr bj
 clear bj
 replace H := Option.bind_eq_some_iff.mp H
 obtain ⟨ck, A30150, H⟩ := H
 replace H : (laws_FnOneBit.j2 ar l0 167772161 167772162 (!ck) l0 aB aC) = some r := H
 have A3015 := Aside0.mk A30150
 clear A30150
 have H' := Aside0.mk H
 clear H
 rotate_left
 rw [if_neg bj] at H
 have c3014b0 : (cm == 9) = false := beq_eq_false_iff_ne.mpr bj
 have c3014b1 : (cm != 9) = true := bne_iff_ne.mpr bj
 have H' := Aside0.mk H
 clear H
 rotate_left
 rw [if_neg bi] at H
 have c3013b0 : (bO == 7) = false := beq_eq_false_iff_ne.mpr bi
 have c3013b1 : (bO != 7) = true := bne_iff_ne.mpr bi
 have H' := Aside0.mk H
 clear H
 rotate_left
 rw [if_neg bh] at H
 have c3012b0 : (eZ == 0) = false := beq_eq_false_iff_ne.mpr bh
 have c3012b1 : (eZ != 0) = true := bne_iff_ne.mpr bh
 (first | rw [c3012b0] | (simp only [i64_w, i32_w]; rw [c3012b0]) | skip)
 have H' := Aside0.mk H
 clear H
 rotate_left
 iterate 3 (
 focus (
 have f7 := fh.out
 have f8 := cU.out
 have f9 := eN.out
 have ga := aw.out
 obtain ⟨⟨da, db, dc⟩, dd, de, df⟩ := cells3 aL.out
 have fd := aW.out
 have fe := ab.out
 obtain ⟨⟨dg, dh, di⟩, dj, dk, dl⟩ := cells3 ac.out
 )
 rotate_left
 )
 rotate_right 3
 {
 go_wp2_with (first | (go_at_call 20; (with_reducible refine (laws_lwSame.calls _ _ a4 _ _ al ck _ ?side1 ?side2 ?side3 ?side4 A3015.out).mono ?_); (case side1 => exact Ch ds); (case side2 => exact (Kd.R_reads' ds.out).2.1); (case side3 => exact Ch HO_428002); (case side4 => exact (Kd.R_reads' HO_428002.out).2.1); rintro e w' ⟨rfl, ⟨nd, rfl⟩⟩))
 all_goals (try (rename_i h_; exfalso; cases h_; done))
 all_goals (try (rename_i h_ h2_; exfalso; cases h_; done))
 go_meet
 case rel => exact ⟨_, (!ck), (by first | rfl | (simp; done) | (simp [*]; done)), H', ⟨by have := HJ5.out; have := HJ1018.out; first | omega | exact Nat.le_refl _⟩, ⟨Kd.R_mono (Rh HO_428002) (fun _ hk => hk.2)⟩, ⟨Kd.R_mono (Rh ds) (fun _ hk => hk.2)⟩, ⟨Bh ac⟩, ⟨Bh aL⟩, ⟨by repeat (first | (with_reducible first | exact aa.out | apply IsS36.alloc | apply IsS36.drewN | apply IsS36.drew | apply IsS36.set_1 | apply IsS36.set_2 | refine IsS36.far ?_ ab.out _ | refine IsS36.far ?_ aw.out _) | exact aa.out)⟩, ⟨by repeat (first | (with_reducible first | exact HB.out | apply below_alloc | apply pw_below_drewN | apply below_drew1 | refine below_set ?_ (IsS36.ge aa.out) | refine below_set ?_ av.out | refine below_set ?_ bH.out) | exact HB.out)⟩⟩
 }
 iterate 2 (
 focus (
 go_wp2
 all_goals (try (rename_i h_; exfalso; cases h_; done))
 all_goals (try (rename_i h_ h2_; exfalso; cases h_; done))
 go_meet
 case rel => exact ⟨_, (true), (by first | rfl | (simp; done) | (simp [*]; done)), H', ⟨by have := HJ5.out; have := HJ1018.out; first | omega | exact Nat.le_refl _⟩, ⟨Kd.R_mono (Rh HO_428002) (fun _ hk => hk.2)⟩, ⟨Kd.R_mono (Rh ds) (fun _ hk => hk.2)⟩, ⟨Bh ac⟩, ⟨Bh aL⟩, ⟨by repeat (first | (with_reducible first | exact aa.out | apply IsS36.alloc | apply IsS36.drewN | apply IsS36.drew | apply IsS36.set_1 | apply IsS36.set_2 | refine IsS36.far ?_ ab.out _ | refine IsS36.far ?_ aw.out _) | exact aa.out)⟩, ⟨by repeat (first | (with_reducible first | exact HB.out | apply below_alloc | apply pw_below_drewN | apply below_drew1 | refine below_set ?_ (IsS36.ge aa.out) | refine below_set ?_ av.out | refine below_set ?_ bH.out) | exact HB.out)⟩⟩
 )
 )
 {
 go_wp2
 all_goals (try (rename_i h_; exfalso; cases h_; done))
 all_goals (try (rename_i h_ h2_; exfalso; cases h_; done))
 go_meet
 case rel => exact ⟨_, (false), (by first | rfl | (simp; done) | (simp [*]; done)), H', ⟨by have := HJ5.out; have := HJ1018.out; first | omega | exact Nat.le_refl _⟩, ⟨Kd.R_mono (Rh HO_428002) (fun _ hk => hk.2)⟩, ⟨Kd.R_mono (Rh ds) (fun _ hk => hk.2)⟩, ⟨Bh ac⟩, ⟨Bh aL⟩, ⟨by repeat (first | (with_reducible first | exact aa.out | apply IsS36.alloc | apply IsS36.drewN | apply IsS36.drew | apply IsS36.set_1 | apply IsS36.set_2 | refine IsS36.far ?_ ab.out _ | refine IsS36.far ?_ aw.out _) | exact aa.out)⟩, ⟨by repeat (first | (with_reducible first | exact HB.out | apply below_alloc | apply pw_below_drewN | apply below_drew1 | refine below_set ?_ (IsS36.ge aa.out) | refine below_set ?_ av.out | refine below_set ?_ bH.out) | exact HB.out)⟩⟩
 }
 )
 case rest => (
 clear fs
 try clear c0
 try clear c2
 try clear c2b0
 try clear c2b1
 try clear p2
 try clear q2
 try clear hx2
 try clear hf2
 try clear p448
 try clear q448
 try clear hx448
 try clear bS
 try clear c1013b0
 try clear c1013b1
 try clear dI
 try clear cB
 try clear c2010b0
 try clear c2010b1
 try clear bT
 try clear eD
 try clear c2014b0
 try clear eE
 try clear c2015b0
 try clear eu
 try clear c2017b0
 try clear c2017b1
 try clear p2019
 try clear q2019
 try clear hx2019
 try clear hf2019
 try clear bh
 try clear c3012b0
 try clear c3012b1
 try clear bi
 try clear c3013b0
 try clear c3013b1
 try clear bj
 try clear c3014b0
 try clear c3014b1
 try clear bW bX bY bZ b0 b1
 try clear b2 b3 b4 b5 b6 b7
 try clear b8 b9 ca cb cc cd
 try clear bB bC bD bE bF bG
 try clear cI cJ cK cL cM cN
 try clear cO cP cQ cR cS cT
 try clear ce cf cg ch ci cj
 try clear cV cW cX cY cZ c1
 try clear da db dc dd de df
 try clear dg dh di dj dk dl
 try clear hx2019_0
 try clear hx448_0
 try clear p2
 try clear p2019
 try clear p448
 try clear q2019
 try clear q448
 obtain ⟨kq, eF, rfl, HA, HJ2020, HO_428002, HO_457002, ac, aL, aa, HB⟩ := hcut
 cases kq with
 | zero => exact absurd HA.out (by simp [laws_FnOneBit.j2])
 | succ bM => {
 have H := HA.out
 clear HA
 simp only [laws_FnOneBit.j2] at H
 by_cases dt : eF = true
 {
 subst dt
 have H1 : (some false) = some r := by rw [if_pos rfl] at H; exact H
 clear H
 have H := H1
 clear H1
 obtain rfl := Option.some.inj H
 go_wp2
 all_goals (try (rename_i h_; exfalso; cases h_; done))
 all_goals (try (rename_i h_ h2_; exfalso; cases h_; done))
 go_ret
 exact ⟨by first | rfl | (simp [errW_none, errW_some] <;> rfl) | (simp only [← hji2013, ← hji2016, ← hji2018]; first | rfl | (simp [errW_none, errW_some] <;> rfl)) | (simp [*, errW_none, errW_some] <;> rfl), by repeat (first | (with_reducible first | exact HB.out | apply below_alloc | apply pw_below_drewN | apply below_drew1 | refine below_set ?_ (IsS36.ge aa.out) | refine below_set ?_ av.out | refine below_set ?_ bH.out) | exact HB.out)⟩
 }
 {
 replace dt := Bool.eq_false_iff.mpr dt
 subst dt
 have H1 : ((spec_DrawSegmentLength.f bM l0).bind fun cC => ((impl_EncodeSegment.f bM cC.1 cC.2.1 cC.2.2.1 cC.2.2.2.1 cC.2.2.2.2.1 cC.2.2.2.2.2.1 cC.2.2.2.2.2.2.1 cC.2.2.2.2.2.2.2.1 cC.2.2.2.2.2.2.2.2.1 cC.2.2.2.2.2.2.2.2.2.1 cC.2.2.2.2.2.2.2.2.2.2.1 cC.2.2.2.2.2.2.2.2.2.2.2 167772161 167772162).bind fun ev => (if ev.2 = 0 then (laws_FnOneBit.j3 bM 167772161 167772162 ev.1 (decide ((ev.1.length : Int) < 20)) l0 aB aC) else (laws_FnOneBit.j3 bM 167772161 167772162 ev.1 true l0 aB aC)))) = some r := by rw [if_neg (show ¬ (false = true) by decide)] at H; exact H
 clear H
 have H := H1
 clear H1
 replace H := Option.bind_eq_some_iff.mp H
 obtain ⟨⟨bn, bq, bv, bz, bJ, bP, cn, cz, cG, du, co, bk⟩, A30170, H⟩ := H
 replace H : ((impl_EncodeSegment.f bM bn bq bv bz bJ bP cn cz cG du co bk 167772161 167772162).bind fun ev => (if ev.2 = 0 then (laws_FnOneBit.j3 bM 167772161 167772162 ev.1 (decide ((ev.1.length : Int) < 20)) l0 aB aC) else (laws_FnOneBit.j3 bM 167772161 167772162 ev.1 true l0 aB aC))) = some r := H
 have A3017 := Aside0.mk A30170
 clear A30170
 replace H := Option.bind_eq_some_iff.mp H
 obtain ⟨⟨aJ, e0⟩, A30180, H⟩ := H
 replace H : (if e0 = 0 then (laws_FnOneBit.j3 bM 167772161 167772162 aJ (decide ((aJ.length : Int) < 20)) l0 aB aC) else (laws_FnOneBit.j3 bM 167772161 167772162 aJ true l0 aB aC)) = some r := H
 have A3018 := Aside0.mk A30180
 clear A30180
 have eB := Aside0.mk H
 clear H
 go_upto_region 20 with (first | ((with_reducible refine gate_callee (f := 21) rfl ?_); refine goesL_ (some 113) rfl rfl Try.func21 (by kernel_rfl) rfl #[.slice A0 l0.length c0] rfl wT ?_; (with_reducible refine (spec_DrawSegmentLength.calls bM _ _ l0 bn bq bv bz bJ bP cn cz cG du co bk _ ?side1 ?side2 A3017.out).mono ?_); (case side1 => exact Kd.C_below HR0.out wB); (case side2 => exact fW.out); rintro e gv ⟨hA, hB, rfl, aI, cp, hb⟩; refine ⟨_, rfl, ?_⟩; have uB := below_pre (n := w.heap.size) (w := w) hb (by repeat (first | (with_reducible first | exact HB.out | apply below_alloc | apply pw_below_drewN | apply below_drew1 | refine below_set ?_ (IsS36.ge aa.out) | refine below_set ?_ av.out | refine below_set ?_ bH.out) | exact HB.out)); have cD := Aside0.mk (Kd.R_lower aI (below_size uB)); have cx := Aside0.mk (Kd.R_lower (Kd.R_new' (Kd.R_new' cp (Kd.R_lt (Rh HO_428002))) (Kd.R_lt (Rh HO_457002))) (below_size uB)); replace HO_428002 := Aside0.mk (Kd.R_elder' (Rh HO_428002) (Kd.R_base cp) hb); replace HO_457002 := Aside0.mk (Kd.R_elder' (Rh HO_457002) (Kd.R_base cp) hb); replace ac := Aside0.mk (blk_below (Bh ac) hb); replace aL := Aside0.mk (blk_below (Bh aL) hb); replace HB := Aside0.mk (below_step uB hb); replace aa := Aside0.mk (IsS36.below (by repeat (first | (with_reducible first | exact aa.out | apply IsS36.alloc | apply IsS36.drewN | apply IsS36.drew | apply IsS36.set_1 | apply IsS36.set_2 | refine IsS36.far ?_ ab.out _ | refine IsS36.far ?_ aw.out _) | exact aa.out)) hb); clear uB; (try clear hb); (try clear hb2); (try clear hk); (try clear hi); (try clear aI); (try clear cp)) | ((with_reducible refine gate_dst (N := 13) rfl ?_); (try (refine gate_guard (by rfl) ?_; dsimp only)); refine box_event ?hg (N := 13) ?hd (cs := #[.int .i64 0, .int .i64 0, .int .i64 0, .int .i64 0, .int .i64 0, .int .i64 0, .int .i64 0, .bool false, .int .i64 0, .bool false, .slice none 0 0, .slice none 0 0]) (t := 25) ?hr ?_; (case hd => rfl); (case hg => rfl); (case hr => first | (go_simp; done) | (go_simp; rfl)); intro ad hg fG hbox hb; have uB := below_pre (n := w.heap.size) (w := w) hb (by repeat (first | (with_reducible first | exact HB.out | apply below_alloc | apply pw_below_drewN | apply below_drew1 | refine below_set ?_ (IsS36.ge aa.out) | refine below_set ?_ av.out | refine below_set ?_ bH.out) | exact HB.out)); replace HO_428002 := Aside0.mk (Kd.R_below (Rh HO_428002) hb); replace HO_457002 := Aside0.mk (Kd.R_below (Rh HO_457002) hb); replace cD := Aside0.mk (Kd.R_below (Rh cD) hb); replace cx := Aside0.mk (Kd.R_below (Rh cx) hb); have ba := Aside0.mk (hbox); have gw := Aside0.mk ((by rw [hg]; exact (below_size uB) : w.heap.size ≤ ad)); replace HB := Aside0.mk (below_step uB hb); have eG := gw; have aX := Aside0.mk ((by rw [hg]; exact Nat.ne_of_lt (blk_lt (Bh ac)) : ay ≠ ad)); replace ac := Aside0.mk (blk_below (Bh ac) hb); have fO := Aside0.mk aX.out.symm; have aY := Aside0.mk ((by rw [hg]; exact Nat.ne_of_lt (blk_lt (Bh aL)) : a9 ≠ ad)); replace aL := Aside0.mk (blk_below (Bh aL) hb); have fP := Aside0.mk aY.out.symm; have aZ := Aside0.mk ((by rw [hg]; exact Nat.ne_of_lt (IsS36.lt (show IsS36 w _ am l0 aB aC from by repeat (first | (with_reducible first | exact aa.out | apply IsS36.alloc | apply IsS36.drewN | apply IsS36.drew | apply IsS36.set_1 | apply IsS36.set_2 | refine IsS36.far ?_ ab.out _ | refine IsS36.far ?_ aw.out _) | exact aa.out))) : am ≠ ad)); replace aa := Aside0.mk (IsS36.below (by repeat (first | (with_reducible first | exact aa.out | apply IsS36.alloc | apply IsS36.drewN | apply IsS36.drew | apply IsS36.set_1 | apply IsS36.set_2 | refine IsS36.far ?_ ab.out _ | refine IsS36.far ?_ aw.out _) | exact aa.out)) hb); have fi := Aside0.mk aZ.out.symm; clear uB; clear hb hbox hg; have gb := fO.out; have gc := aX.out; have fd := fP.out; have fe := aY.out; have gf := fi.out; have gg := aZ.out; obtain ⟨⟨dL, dM, dN, dO, dP, dQ, dR, dS, dT, dU, dv, dw⟩, dV, dW, dX, dY, dZ, d0, d1, d2, d3, d4, dx, dy⟩ := cells12 ba.out; obtain ⟨aR, aS, fu⟩ := Kd.R_slice cD.out; subst fu; obtain ⟨ap, aq, fv⟩ := Kd.R_slice cx.out; subst fv) | ((with_reducible refine gate_store (t := 25) (p := 13) rfl ?_); refine store_event (t := 25) (p := 13) (v := ?_) (w1 := ((((((((((((fG.setCell ⟨ad, 0, none⟩ (.int .i64 bn)).setCell ⟨ad, 1, none⟩ (.int .i64 bq)).setCell ⟨ad, 2, none⟩ (.int .i64 bv)).setCell ⟨ad, 3, none⟩ (.int .i64 bz)).setCell ⟨ad, 4, none⟩ (.int .i64 bJ)).setCell ⟨ad, 5, none⟩ (.int .i64 bP)).setCell ⟨ad, 6, none⟩ (.int .i64 cn)).setCell ⟨ad, 7, none⟩ (.bool cz)).setCell ⟨ad, 8, none⟩ (.int .i64 cG)).setCell ⟨ad, 9, none⟩ (.bool du)).setCell ⟨ad, 10, none⟩ (.slice aR co.length aS)).setCell ⟨ad, 11, none⟩ (.slice ap bk.length aq))) ?hg ?ho ?hn ?hr ?_; (case ho => rfl); (case hg => rfl); (case hn => rfl); (case hr => first | (go_simp; done) | (go_simp; rfl)); intro bl hw; have n0_ : Aside0 (Kd.R (Kd.int .u8) 5 bl w.heap.size (fun k_ => some k_ ≠ (.slice aj a4.length ak : Value).ownBlock ∧ some k_ ≠ (.slice ap bk.length aq : Value).ownBlock) (.slice az al.length aA) al) := ⟨(by rw [hw]; exact (by (with_reducible repeat (first | apply Kd.R_alloc | apply Kd.R_drewN | apply Kd.R_drew)); exact Kd.R_mono (Kd.R_far (p := ⟨ad, 11, none⟩) (Kd.R_far (p := ⟨ad, 10, none⟩) (Kd.R_far (p := ⟨ad, 9, none⟩) (Kd.R_far (p := ⟨ad, 8, none⟩) (Kd.R_far (p := ⟨ad, 7, none⟩) (Kd.R_far (p := ⟨ad, 6, none⟩) (Kd.R_far (p := ⟨ad, 5, none⟩) (Kd.R_far (p := ⟨ad, 4, none⟩) (Kd.R_far (p := ⟨ad, 3, none⟩) (Kd.R_far (p := ⟨ad, 2, none⟩) (Kd.R_far (p := ⟨ad, 1, none⟩) (Kd.R_far (p := ⟨ad, 0, none⟩) (Kd.R_types HO_428002.out ba.out (by decide)) (fun _ hk => hk.2) (.int .i64 bn)) (fun _ hk => hk.2) (.int .i64 bq)) (fun _ hk => hk.2) (.int .i64 bv)) (fun _ hk => hk.2) (.int .i64 bz)) (fun _ hk => hk.2) (.int .i64 bJ)) (fun _ hk => hk.2) (.int .i64 bP)) (fun _ hk => hk.2) (.int .i64 cn)) (fun _ hk => hk.2) (.bool cz)) (fun _ hk => hk.2) (.int .i64 cG)) (fun _ hk => hk.2) (.bool du)) (fun _ hk => hk.2) (.slice aR co.length aS)) (fun _ hk => hk.2) (.slice ap bk.length aq)) (fun _ hk => ⟨hk.1.1, hk.1.2⟩)))⟩; have n1_ : Aside0 (Kd.R (Kd.int .u8) 5 bl w.heap.size (fun k_ => some k_ ≠ (.slice az al.length aA : Value).ownBlock ∧ some k_ ≠ (.slice ap bk.length aq : Value).ownBlock) (.slice aj a4.length ak) a4) := ⟨(by rw [hw]; exact (by (with_reducible repeat (first | apply Kd.R_alloc | apply Kd.R_drewN | apply Kd.R_drew)); exact Kd.R_mono (Kd.R_far (p := ⟨ad, 11, none⟩) (Kd.R_far (p := ⟨ad, 10, none⟩) (Kd.R_far (p := ⟨ad, 9, none⟩) (Kd.R_far (p := ⟨ad, 8, none⟩) (Kd.R_far (p := ⟨ad, 7, none⟩) (Kd.R_far (p := ⟨ad, 6, none⟩) (Kd.R_far (p := ⟨ad, 5, none⟩) (Kd.R_far (p := ⟨ad, 4, none⟩) (Kd.R_far (p := ⟨ad, 3, none⟩) (Kd.R_far (p := ⟨ad, 2, none⟩) (Kd.R_far (p := ⟨ad, 1, none⟩) (Kd.R_far (p := ⟨ad, 0, none⟩) (Kd.R_types HO_457002.out ba.out (by decide)) (fun _ hk => hk.2) (.int .i64 bn)) (fun _ hk => hk.2) (.int .i64 bq)) (fun _ hk => hk.2) (.int .i64 bv)) (fun _ hk => hk.2) (.int .i64 bz)) (fun _ hk => hk.2) (.int .i64 bJ)) (fun _ hk => hk.2) (.int .i64 bP)) (fun _ hk => hk.2) (.int .i64 cn)) (fun _ hk => hk.2) (.bool cz)) (fun _ hk => hk.2) (.int .i64 cG)) (fun _ hk => hk.2) (.bool du)) (fun _ hk => hk.2) (.slice aR co.length aS)) (fun _ hk => hk.2) (.slice ap bk.length aq)) (fun _ hk => ⟨hk.1.1, hk.1.2⟩)))⟩; have n2_ : Aside0 (Kd.R k60 60 bl w.heap.size (fun _ => True) (.slice aR co.length aS) co) := ⟨(by rw [hw]; exact (by (with_reducible repeat (first | apply Kd.R_alloc | apply Kd.R_drewN | apply Kd.R_drew)); exact Kd.R_mono (Kd.R_far (p := ⟨ad, 11, none⟩) (Kd.R_far (p := ⟨ad, 10, none⟩) (Kd.R_far (p := ⟨ad, 9, none⟩) (Kd.R_far (p := ⟨ad, 8, none⟩) (Kd.R_far (p := ⟨ad, 7, none⟩) (Kd.R_far (p := ⟨ad, 6, none⟩) (Kd.R_far (p := ⟨ad, 5, none⟩) (Kd.R_far (p := ⟨ad, 4, none⟩) (Kd.R_far (p := ⟨ad, 3, none⟩) (Kd.R_far (p := ⟨ad, 2, none⟩) (Kd.R_far (p := ⟨ad, 1, none⟩) (Kd.R_far (p := ⟨ad, 0, none⟩) (Kd.R_types cD.out ba.out (by decide)) (fun _ hk => hk.2) (.int .i64 bn)) (fun _ hk => hk.2) (.int .i64 bq)) (fun _ hk => hk.2) (.int .i64 bv)) (fun _ hk => hk.2) (.int .i64 bz)) (fun _ hk => hk.2) (.int .i64 bJ)) (fun _ hk => hk.2) (.int .i64 bP)) (fun _ hk => hk.2) (.int .i64 cn)) (fun _ hk => hk.2) (.bool cz)) (fun _ hk => hk.2) (.int .i64 cG)) (fun _ hk => hk.2) (.bool du)) (fun _ hk => hk.2) (.slice aR co.length aS)) (fun _ hk => hk.2) (.slice ap bk.length aq)) (fun _ hk => trivial)))⟩; have n3_ : Aside0 (Kd.R (Kd.int .u8) 5 bl w.heap.size (fun k_ => some k_ ≠ (.slice az al.length aA : Value).ownBlock ∧ some k_ ≠ (.slice aj a4.length ak : Value).ownBlock) (.slice ap bk.length aq) bk) := ⟨(by rw [hw]; exact (by (with_reducible repeat (first | apply Kd.R_alloc | apply Kd.R_drewN | apply Kd.R_drew)); exact Kd.R_mono (Kd.R_far (p := ⟨ad, 11, none⟩) (Kd.R_far (p := ⟨ad, 10, none⟩) (Kd.R_far (p := ⟨ad, 9, none⟩) (Kd.R_far (p := ⟨ad, 8, none⟩) (Kd.R_far (p := ⟨ad, 7, none⟩) (Kd.R_far (p := ⟨ad, 6, none⟩) (Kd.R_far (p := ⟨ad, 5, none⟩) (Kd.R_far (p := ⟨ad, 4, none⟩) (Kd.R_far (p := ⟨ad, 3, none⟩) (Kd.R_far (p := ⟨ad, 2, none⟩) (Kd.R_far (p := ⟨ad, 1, none⟩) (Kd.R_far (p := ⟨ad, 0, none⟩) (Kd.R_types cx.out ba.out (by decide)) (fun _ hk => hk.2) (.int .i64 bn)) (fun _ hk => hk.2) (.int .i64 bq)) (fun _ hk => hk.2) (.int .i64 bv)) (fun _ hk => hk.2) (.int .i64 bz)) (fun _ hk => hk.2) (.int .i64 bJ)) (fun _ hk => hk.2) (.int .i64 bP)) (fun _ hk => hk.2) (.int .i64 cn)) (fun _ hk => hk.2) (.bool cz)) (fun _ hk => hk.2) (.int .i64 cG)) (fun _ hk => hk.2) (.bool du)) (fun _ hk => hk.2) (.slice aR co.length aS)) (fun _ hk => hk.2) (.slice ap bk.length aq)) (fun _ hk => ⟨hk.1.1.2, hk.1.2⟩)))⟩; have n4_ : Aside0 (bl.heap[ay]? = some (.cells #[.int .i64 7, .int .i64 9, .slice az al.length aA] 39 (0, 0))) := ⟨(by rw [hw]; exact (by (with_reducible repeat (first | refine blk_drewN ?_ _ | refine blk_drew ?_ | refine blk_alloc ?_ _)); refine blk_far ?_ aX.out _; (with_reducible repeat (first | refine blk_drewN ?_ _ | refine blk_drew ?_ | refine blk_alloc ?_ _)); refine blk_far ?_ aX.out _; (with_reducible repeat (first | refine blk_drewN ?_ _ | refine blk_drew ?_ | refine blk_alloc ?_ _)); refine blk_far ?_ aX.out _; (with_reducible repeat (first | refine blk_drewN ?_ _ | refine blk_drew ?_ | refine blk_alloc ?_ _)); refine blk_far ?_ aX.out _; (with_reducible repeat (first | refine blk_drewN ?_ _ | refine blk_drew ?_ | refine blk_alloc ?_ _)); refine blk_far ?_ aX.out _; (with_reducible repeat (first | refine blk_drewN ?_ _ | refine blk_drew ?_ | refine blk_alloc ?_ _)); refine blk_far ?_ aX.out _; (with_reducible repeat (first | refine blk_drewN ?_ _ | refine blk_drew ?_ | refine blk_alloc ?_ _)); refine blk_far ?_ aX.out _; (with_reducible repeat (first | refine blk_drewN ?_ _ | refine blk_drew ?_ | refine blk_alloc ?_ _)); refine blk_far ?_ aX.out _; (with_reducible repeat (first | refine blk_drewN ?_ _ | refine blk_drew ?_ | refine blk_alloc ?_ _)); refine blk_far ?_ aX.out _; (with_reducible repeat (first | refine blk_drewN ?_ _ | refine blk_drew ?_ | refine blk_alloc ?_ _)); refine blk_far ?_ aX.out _; (with_reducible repeat (first | refine blk_drewN ?_ _ | refine blk_drew ?_ | refine blk_alloc ?_ _)); refine blk_far ?_ aX.out _; (with_reducible repeat (first | refine blk_drewN ?_ _ | refine blk_drew ?_ | refine blk_alloc ?_ _)); refine blk_far ?_ aX.out _; (with_reducible repeat (first | refine blk_drewN ?_ _ | refine blk_drew ?_ | refine blk_alloc ?_ _)); exact ac.out))⟩; have n5_ : Aside0 (bl.heap[a9]? = some (.cells #[.int .i64 bO, .int .i64 cm, .slice aj a4.length ak] 39 (0, 0))) := ⟨(by rw [hw]; exact (by (with_reducible repeat (first | refine blk_drewN ?_ _ | refine blk_drew ?_ | refine blk_alloc ?_ _)); refine blk_far ?_ aY.out _; (with_reducible repeat (first | refine blk_drewN ?_ _ | refine blk_drew ?_ | refine blk_alloc ?_ _)); refine blk_far ?_ aY.out _; (with_reducible repeat (first | refine blk_drewN ?_ _ | refine blk_drew ?_ | refine blk_alloc ?_ _)); refine blk_far ?_ aY.out _; (with_reducible repeat (first | refine blk_drewN ?_ _ | refine blk_drew ?_ | refine blk_alloc ?_ _)); refine blk_far ?_ aY.out _; (with_reducible repeat (first | refine blk_drewN ?_ _ | refine blk_drew ?_ | refine blk_alloc ?_ _)); refine blk_far ?_ aY.out _; (with_reducible repeat (first | refine blk_drewN ?_ _ | refine blk_drew ?_ | refine blk_alloc ?_ _)); refine blk_far ?_ aY.out _; (with_reducible repeat (first | refine blk_drewN ?_ _ | refine blk_drew ?_ | refine blk_alloc ?_ _)); refine blk_far ?_ aY.out _; (with_reducible repeat (first | refine blk_drewN ?_ _ | refine blk_drew ?_ | refine blk_alloc ?_ _)); refine blk_far ?_ aY.out _; (with_reducible repeat (first | refine blk_drewN ?_ _ | refine blk_drew ?_ | refine blk_alloc ?_ _)); refine blk_far ?_ aY.out _; (with_reducible repeat (first | refine blk_drewN ?_ _ | refine blk_drew ?_ | refine blk_alloc ?_ _)); refine blk_far ?_ aY.out _; (with_reducible repeat (first | refine blk_drewN ?_ _ | refine blk_drew ?_ | refine blk_alloc ?_ _)); refine blk_far ?_ aY.out _; (with_reducible repeat (first | refine blk_drewN ?_ _ | refine blk_drew ?_ | refine blk_alloc ?_ _)); refine blk_far ?_ aY.out _; (with_reducible repeat (first | refine blk_drewN ?_ _ | refine blk_drew ?_ | refine blk_alloc ?_ _)); exact aL.out))⟩; have n6_ : Aside0 (bl.heap[ad]? = some (.cells #[.int .i64 bn, .int .i64 bq, .int .i64 bv, .int .i64 bz, .int .i64 bJ, .int .i64 bP, .int .i64 cn, .bool cz, .int .i64 cG, .bool du, .slice aR co.length aS, .slice ap bk.length aq] 25 (0, 0))) := ⟨(by rw [hw]; exact (by (with_reducible repeat (first | refine blk_drewN ?_ _ | refine blk_drew ?_ | refine blk_alloc ?_ _)); refine blk_put (cs := #[.int .i64 bn, .int .i64 bq, .int .i64 bv, .int .i64 bz, .int .i64 bJ, .int .i64 bP, .int .i64 cn, .bool cz, .int .i64 cG, .bool du, .slice aR co.length aS, .slice none 0 0]) ?_ 11 _ rfl; (with_reducible repeat (first | refine blk_drewN ?_ _ | refine blk_drew ?_ | refine blk_alloc ?_ _)); refine blk_put (cs := #[.int .i64 bn, .int .i64 bq, .int .i64 bv, .int .i64 bz, .int .i64 bJ, .int .i64 bP, .int .i64 cn, .bool cz, .int .i64 cG, .bool du, .slice none 0 0, .slice none 0 0]) ?_ 10 _ rfl; (with_reducible repeat (first | refine blk_drewN ?_ _ | refine blk_drew ?_ | refine blk_alloc ?_ _)); refine blk_put (cs := #[.int .i64 bn, .int .i64 bq, .int .i64 bv, .int .i64 bz, .int .i64 bJ, .int .i64 bP, .int .i64 cn, .bool cz, .int .i64 cG, .bool false, .slice none 0 0, .slice none 0 0]) ?_ 9 _ rfl; (with_reducible repeat (first | refine blk_drewN ?_ _ | refine blk_drew ?_ | refine blk_alloc ?_ _)); refine blk_put (cs := #[.int .i64 bn, .int .i64 bq, .int .i64 bv, .int .i64 bz, .int .i64 bJ, .int .i64 bP, .int .i64 cn, .bool cz, .int .i64 0, .bool false, .slice none 0 0, .slice none 0 0]) ?_ 8 _ rfl; (with_reducible repeat (first | refine blk_drewN ?_ _ | refine blk_drew ?_ | refine blk_alloc ?_ _)); refine blk_put (cs := #[.int .i64 bn, .int .i64 bq, .int .i64 bv, .int .i64 bz, .int .i64 bJ, .int .i64 bP, .int .i64 cn, .bool false, .int .i64 0, .bool false, .slice none 0 0, .slice none 0 0]) ?_ 7 _ rfl; (with_reducible repeat (first | refine blk_drewN ?_ _ | refine blk_drew ?_ | refine blk_alloc ?_ _)); refine blk_put (cs := #[.int .i64 bn, .int .i64 bq, .int .i64 bv, .int .i64 bz, .int .i64 bJ, .int .i64 bP, .int .i64 0, .bool false, .int .i64 0, .bool false, .slice none 0 0, .slice none 0 0]) ?_ 6 _ rfl; (with_reducible repeat (first | refine blk_drewN ?_ _ | refine blk_drew ?_ | refine blk_alloc ?_ _)); refine blk_put (cs := #[.int .i64 bn, .int .i64 bq, .int .i64 bv, .int .i64 bz, .int .i64 bJ, .int .i64 0, .int .i64 0, .bool false, .int .i64 0, .bool false, .slice none 0 0, .slice none 0 0]) ?_ 5 _ rfl; (with_reducible repeat (first | refine blk_drewN ?_ _ | refine blk_drew ?_ | refine blk_alloc ?_ _)); refine blk_put (cs := #[.int .i64 bn, .int .i64 bq, .int .i64 bv, .int .i64 bz, .int .i64 0, .int .i64 0, .int .i64 0, .bool false, .int .i64 0, .bool false, .slice none 0 0, .slice none 0 0]) ?_ 4 _ rfl; (with_reducible repeat (first | refine blk_drewN ?_ _ | refine blk_drew ?_ | refine blk_alloc ?_ _)); refine blk_put (cs := #[.int .i64 bn, .int .i64 bq, .int .i64 bv, .int .i64 0, .int .i64 0, .int .i64 0, .int .i64 0, .bool false, .int .i64 0, .bool false, .slice none 0 0, .slice none 0 0]) ?_ 3 _ rfl; (with_reducible repeat (first | refine blk_drewN ?_ _ | refine blk_drew ?_ | refine blk_alloc ?_ _)); refine blk_put (cs := #[.int .i64 bn, .int .i64 bq, .int .i64 0, .int .i64 0, .int .i64 0, .int .i64 0, .int .i64 0, .bool false, .int .i64 0, .bool false, .slice none 0 0, .slice none 0 0]) ?_ 2 _ rfl; (with_reducible repeat (first | refine blk_drewN ?_ _ | refine blk_drew ?_ | refine blk_alloc ?_ _)); refine blk_put (cs := #[.int .i64 bn, .int .i64 0, .int .i64 0, .int .i64 0, .int .i64 0, .int .i64 0, .int .i64 0, .bool false, .int .i64 0, .bool false, .slice none 0 0, .slice none 0 0]) ?_ 1 _ rfl; (with_reducible repeat (first | refine blk_drewN ?_ _ | refine blk_drew ?_ | refine blk_alloc ?_ _)); refine blk_put (cs := #[.int .i64 0, .int .i64 0, .int .i64 0, .int .i64 0, .int .i64 0, .int .i64 0, .int .i64 0, .bool false, .int .i64 0, .bool false, .slice none 0 0, .slice none 0 0]) ?_ 0 _ rfl; (with_reducible repeat (first | refine blk_drewN ?_ _ | refine blk_drew ?_ | refine blk_alloc ?_ _)); exact ba.out))⟩; have n7_ : Aside0 (IsS36 w bl am l0 aB aC) := ⟨(by rw [hw]; exact (by repeat (first | (with_reducible first | exact aa.out | apply IsS36.alloc | apply IsS36.drewN | apply IsS36.drew | apply IsS36.set_1 | apply IsS36.set_2 | refine IsS36.far ?_ ab.out _ | refine IsS36.far ?_ aw.out _ | refine IsS36.far ?_ aZ.out _) | exact aa.out)))⟩; have n8_ : Aside0 (Below w.heap.size w bl) := ⟨(by rw [hw]; exact (by repeat (first | (with_reducible first | exact HB.out | apply below_alloc | apply pw_below_drewN | apply below_drew1 | refine below_set ?_ (IsS36.ge aa.out) | refine below_set ?_ av.out | refine below_set ?_ bH.out | refine below_set ?_ eG.out) | exact HB.out)))⟩; clear hw; clear HO_428002; clear HO_457002; clear cD; clear cx; clear ac; clear aL; clear ba; clear aa; clear HB; have HO_428002 := n0_; have HO_457002 := n1_; have cD := n2_; have cx := n3_; have ac := n4_; have aL := n5_; have ba := n6_; have aa := n7_; have HB := n8_; clear n0_ n1_ n2_ n3_ n4_ n5_ n6_ n7_ n8_; obtain ⟨⟨d5, d6, d7, d8, d9, ea, eb, ec, ed, ee, dz, dA⟩, ef, eg, eh, ei, ej, ek, el, em, en, eo, dB, dC⟩ := cells12 ba.out) | ((with_reducible refine gate_callee (f := 22) rfl ?_); refine goesL_ (some 118) rfl rfl Try.func22 (by kernel_rfl) rfl #[.agg #[.int .i64 bn, .int .i64 bq, .int .i64 bv, .int .i64 bz, .int .i64 bJ, .int .i64 bP, .int .i64 cn, .bool cz, .int .i64 cG, .bool du, .slice aR co.length aS, .slice ap bk.length aq], .int .i64 167772161, .int .i64 167772162] rfl wT ?_; (with_reducible refine (impl_EncodeSegment.calls bM bn bq bv bz bJ bP cn cz cG du _ _ co _ _ bk 167772161 167772162 aJ e0 _ ?side1 ?side2 ?side3 ?side4 A3018.out).mono ?_); (case side1 => exact Ch cD); (case side2 => exact (Kd.R_reads' cD.out).2.1); (case side3 => exact Ch cx); (case side4 => exact (Kd.R_reads' cx.out).2.1); rintro e gx ⟨fH, rfl, aI, hb⟩; refine ⟨_, rfl, ?_⟩; have uB := below_pre (n := w.heap.size) (w := w) hb (by repeat (first | (with_reducible first | exact HB.out | apply below_alloc | apply pw_below_drewN | apply below_drew1 | refine below_set ?_ (IsS36.ge aa.out) | refine below_set ?_ av.out | refine below_set ?_ bH.out | refine below_set ?_ eG.out) | exact HB.out)); replace cD := Aside0.mk (Kd.R_below (Rh cD) hb); have fI := Aside0.mk (Kd.R_lower (Kd.R_new' (Kd.R_new' (Kd.R_new' aI (Kd.R_lt (Rh HO_428002))) (Kd.R_lt (Rh HO_457002))) (Kd.R_lt (Rh cx))) (below_size uB)); replace HO_428002 := Aside0.mk (Kd.R_elder' (Rh HO_428002) (Kd.R_base aI) hb); replace HO_457002 := Aside0.mk (Kd.R_elder' (Rh HO_457002) (Kd.R_base aI) hb); replace cx := Aside0.mk (Kd.R_elder' (Rh cx) (Kd.R_base aI) hb); replace ac := Aside0.mk (blk_below (Bh ac) hb); replace aL := Aside0.mk (blk_below (Bh aL) hb); replace ba := Aside0.mk (blk_below (Bh ba) hb); replace HB := Aside0.mk (below_step uB hb); replace aa := Aside0.mk (IsS36.below (by repeat (first | (with_reducible first | exact aa.out | apply IsS36.alloc | apply IsS36.drewN | apply IsS36.drew | apply IsS36.set_1 | apply IsS36.set_2 | refine IsS36.far ?_ ab.out _ | refine IsS36.far ?_ aw.out _ | refine IsS36.far ?_ aZ.out _) | exact aa.out)) hb); clear uB; (try clear hb); (try clear hb2); (try clear hk); (try clear hi); (try clear aI)))
 (try simp only [Act.put, List.setIfInBounds_toArray, List.set_cons_zero, List.set_cons_succ])
 go_cut [127] (fun fV wc => ∃ (kq : Nat) (bs : Bool), fV = .bool bs ∧ Aside0 (laws_FnOneBit.j3 kq 167772161 167772162 aJ bs l0 aB aC = some r) ∧ Aside0 (kq ≤ bM) ∧ Aside0 (Kd.R (Kd.int .u8) 5 wc w.heap.size (fun k_ => some k_ ≠ ((.slice az al.length aA) : Value).ownBlock ∧ some k_ ≠ ((.slice aj a4.length ak) : Value).ownBlock ∧ some k_ ≠ ((.slice ap bk.length aq) : Value).ownBlock) fH aJ) ∧ Aside0 (Kd.R (Kd.int .u8) 5 wc w.heap.size (fun k_ => some k_ ≠ (fH : Value).ownBlock ∧ some k_ ≠ ((.slice aj a4.length ak) : Value).ownBlock ∧ some k_ ≠ ((.slice ap bk.length aq) : Value).ownBlock) (.slice az al.length aA) al) ∧ Aside0 (Kd.R (Kd.int .u8) 5 wc w.heap.size (fun k_ => some k_ ≠ (fH : Value).ownBlock ∧ some k_ ≠ ((.slice az al.length aA) : Value).ownBlock ∧ some k_ ≠ ((.slice ap bk.length aq) : Value).ownBlock) (.slice aj a4.length ak) a4) ∧ Aside0 (Kd.R k60 60 wc w.heap.size (fun _ => True) (.slice aR co.length aS) co) ∧ Aside0 (Kd.R (Kd.int .u8) 5 wc w.heap.size (fun k_ => some k_ ≠ (fH : Value).ownBlock ∧ some k_ ≠ ((.slice az al.length aA) : Value).ownBlock ∧ some k_ ≠ ((.slice aj a4.length ak) : Value).ownBlock) (.slice ap bk.length aq) bk) ∧ Aside0 (wc.heap[ay]? = some (.cells #[.int .i64 7, .int .i64 9, (.slice az al.length aA)] 39 (0, 0))) ∧ Aside0 (wc.heap[a9]? = some (.cells #[.int .i64 bO, .int .i64 cm, (.slice aj a4.length ak)] 39 (0, 0))) ∧ Aside0 (wc.heap[ad]? = some (.cells #[.int .i64 bn, .int .i64 bq, .int .i64 bv, .int .i64 bz, .int .i64 bJ, .int .i64 bP, .int .i64 cn, .bool cz, .int .i64 cG, .bool du, (.slice aR co.length aS), (.slice ap bk.length aq)] 25 (0, 0))) ∧ Aside0 (IsS36 w wc am l0 aB aC) ∧ Aside0 (Below w.heap.size w wc))
 case first => as_aux_lemma => (
 have H := eB.out
 clear eB
 by_cases bu : e0 = 0
 {
 rw [if_pos bu] at H
 have c4012b0 : (e0 == 0) = true := beq_iff_eq.mpr bu
 have c4012b1 : (e0 != 0) = false := bne_eq_false_iff_eq.mpr bu
 clear bu
 (first | rw [c4012b0] | (simp only [i64_w, i32_w]; rw [c4012b0]) | skip)
 have H' := Aside0.mk H
 clear H
 obtain ⟨fw, a3, eC⟩ := Kd.R_slice fI.out
 subst eC
 go_wp2
 all_goals (try (rename_i h_; exfalso; cases h_; done))
 all_goals (try (rename_i h_ h2_; exfalso; cases h_; done))
 go_meet
 case rel => exact ⟨_, (decide ((aJ.length : Int) < 20)), (by first | rfl | (simp; done) | (simp [*]; done)), H', ⟨by have := HJ5.out; have := HJ1018.out; have := HJ2020.out; first | omega | exact Nat.le_refl _⟩, ⟨Kd.R_mono (Rh fI) (fun _ hk => ⟨hk.1.1.2, ⟨hk.1.2, hk.2⟩⟩)⟩, ⟨Kd.R_mono (Rh HO_428002) (fun _ hk => ⟨hk.2, ⟨hk.1.1, hk.1.2⟩⟩)⟩, ⟨Kd.R_mono (Rh HO_457002) (fun _ hk => ⟨hk.2, ⟨hk.1.1, hk.1.2⟩⟩)⟩, ⟨Rh cD⟩, ⟨Kd.R_mono (Rh cx) (fun _ hk => ⟨hk.2, ⟨hk.1.1, hk.1.2⟩⟩)⟩, ⟨Bh ac⟩, ⟨Bh aL⟩, ⟨Bh ba⟩, ⟨by repeat (first | (with_reducible first | exact aa.out | apply IsS36.alloc | apply IsS36.drewN | apply IsS36.drew | apply IsS36.set_1 | apply IsS36.set_2 | refine IsS36.far ?_ ab.out _ | refine IsS36.far ?_ aw.out _ | refine IsS36.far ?_ aZ.out _) | exact aa.out)⟩, ⟨by repeat (first | (with_reducible first | exact HB.out | apply below_alloc | apply pw_below_drewN | apply below_drew1 | refine below_set ?_ (IsS36.ge aa.out) | refine below_set ?_ av.out | refine below_set ?_ bH.out | refine below_set ?_ eG.out) | exact HB.out)⟩⟩
 }
 {
 rw [if_neg bu] at H
 have c4012b0 : (e0 == 0) = false := beq_eq_false_iff_ne.mpr bu
 have c4012b1 : (e0 != 0) = true := bne_iff_ne.mpr bu
 (first | rw [c4012b0] | (simp only [i64_w, i32_w]; rw [c4012b0]) | skip)
 have H' := Aside0.mk H
 clear H
 go_wp2
 all_goals (try (rename_i h_; exfalso; cases h_; done))
 all_goals (try (rename_i h_ h2_; exfalso; cases h_; done))
 go_meet
 case rel => exact ⟨_, (true), (by first | rfl | (simp; done) | (simp [*]; done)), H', ⟨by have := HJ5.out; have := HJ1018.out; have := HJ2020.out; first | omega | exact Nat.le_refl _⟩, ⟨Kd.R_mono (Rh fI) (fun _ hk => ⟨hk.1.1.2, ⟨hk.1.2, hk.2⟩⟩)⟩, ⟨Kd.R_mono (Rh HO_428002) (fun _ hk => ⟨hk.2, ⟨hk.1.1, hk.1.2⟩⟩)⟩, ⟨Kd.R_mono (Rh HO_457002) (fun _ hk => ⟨hk.2, ⟨hk.1.1, hk.1.2⟩⟩)⟩, ⟨Rh cD⟩, ⟨Kd.R_mono (Rh cx) (fun _ hk => ⟨hk.2, ⟨hk.1.1, hk.1.2⟩⟩)⟩, ⟨Bh ac⟩, ⟨Bh aL⟩, ⟨Bh ba⟩, ⟨by repeat (first | (with_reducible first | exact aa.out | apply IsS36.alloc | apply IsS36.drewN | apply IsS36.drew | apply IsS36.set_1 | apply IsS36.set_2 | refine IsS36.far ?_ ab.out _ | refine IsS36.far ?_ aw.out _ | refine IsS36.far ?_ aZ.out _) | exact aa.out)⟩, ⟨by repeat (first | (with_reducible first | exact HB.out | apply below_alloc | apply pw_below_drewN | apply below_drew1 | refine below_set ?_ (IsS36.ge aa.out) | refine below_set ?_ av.out | refine below_set ?_ bH.out | refine below_set ?_ eG.out) | exact HB.out)⟩⟩
 }
 )
 case rest => (
 clear eB
 try clear c0
 try clear c2
 try clear c2b0
 try clear c2b1
 try clear p2
 try clear q2
 try clear hx2
 try clear hf2
 try clear p448
 try clear q448
 try clear hx448
 try clear bS
 try clear c1013b0
 try clear c1013b1
 try clear dI
 try clear cB
 try clear c2010b0
 try clear c2010b1
 try clear bT
 try clear eD
 try clear c2014b0
 try clear eE
 try clear c2015b0
 try clear eu
 try clear c2017b0
 try clear c2017b1
 try clear p2019
 try clear q2019
 try clear hx2019
 try clear hf2019
 try clear bh
 try clear c3012b0
 try clear c3012b1
 try clear bi
 try clear c3013b0
 try clear c3013b1
 try clear bj
 try clear c3014b0
 try clear c3014b1
 try clear dt
 try clear bu
 try clear c4012b0
 try clear c4012b1
 try clear bW bX bY bZ b0 b1
 try clear b2 b3 b4 b5 b6 b7
 try clear b8 b9 ca cb cc cd
 try clear bB bC bD bE bF bG
 try clear cI cJ cK cL cM cN
 try clear cO cP cQ cR cS cT
 try clear ce cf cg ch ci cj
 try clear cV cW cX cY cZ c1
 try clear da db dc dd de df
 try clear dg dh di dj dk dl
 try clear dL dM dv dw dN dO dP dQ dR dS dT dU dV dW dx dy dX dY dZ d0 d1 d2 d3 d4
 try clear d5 d6 dz dA d7 d8 d9 ea eb ec ed ee ef eg dB dC eh ei ej ek el em en eo
 try clear hx2019_0
 try clear hx448_0
 try clear p2
 try clear p2019
 try clear p448
 try clear q2
 try clear q2019
 try clear q448
 obtain ⟨kq, bs, rfl, HA, HJ3018, HO_14, HO_428002, HO_457002, HO_475010, HO_475011, ac, aL, ba, aa, HB⟩ := hcut
 cases kq with
 | zero => exact absurd HA.out (by simp [laws_FnOneBit.j3])
 | succ bo => {
 have H := HA.out
 clear HA
 simp only [laws_FnOneBit.j3] at H
 by_cases ew : bs = true
 {
 subst ew
 have H1 : (some false) = some r := by rw [if_pos rfl] at H; exact H
 clear H
 have H := H1
 clear H1
 obtain rfl := Option.some.inj H
 go_wp2
 all_goals (try (rename_i h_; exfalso; cases h_; done))
 all_goals (try (rename_i h_ h2_; exfalso; cases h_; done))
 go_ret
 exact ⟨by first | rfl | (simp [errW_none, errW_some] <;> rfl) | (simp only [← hji2013, ← hji2016, ← hji2018]; first | rfl | (simp [errW_none, errW_some] <;> rfl)) | (simp [*, errW_none, errW_some] <;> rfl), by repeat (first | (with_reducible first | exact HB.out | apply below_alloc | apply pw_below_drewN | apply below_drew1 | refine below_set ?_ (IsS36.ge aa.out) | refine below_set ?_ av.out | refine below_set ?_ bH.out | refine below_set ?_ eG.out) | exact HB.out)⟩
 }
 {
 replace ew := Bool.eq_false_iff.mpr ew
 subst ew
 have H1 : ((laws_lwNext.f l0 aB aC (wrap64 (8 * (aJ.length : Int)))).bind fun eR => (if 0 ≤ (wrap64 (Int.tdiv eR.1 8)) then (if (wrap64 (Int.tdiv eR.1 8)) < (aJ.length : Int) then (if 0 ≤ (IntKind.u64.wrap (Int.tmod eR.1 8)) then ((impl_DecodeSegment.f bo (aJ.set ((wrap64 (Int.tdiv eR.1 8)) : Int).toNat (Go.bits .xor .u8 (rd aJ (wrap64 (Int.tdiv eR.1 8))) (shl .u8 1 (IntKind.u64.wrap (Int.tmod eR.1 8))))) 167772161 167772162).bind fun dD => (some (dD.2.2.2.2.2.2.2.2.2.2.2.2 != 0))) else (none)) else (none)) else (none))) = some r := by rw [if_neg (show ¬ (false = true) by decide)] at H; exact H
 clear H
 have H := H1
 clear H1
 replace H := Option.bind_eq_some_iff.mp H
 obtain ⟨⟨er, gC, gD⟩, A40140, H⟩ := H
 replace H : (if 0 ≤ (wrap64 (Int.tdiv er 8)) then (if (wrap64 (Int.tdiv er 8)) < (aJ.length : Int) then (if 0 ≤ (IntKind.u64.wrap (Int.tmod er 8)) then ((impl_DecodeSegment.f bo (aJ.set ((wrap64 (Int.tdiv er 8)) : Int).toNat (Go.bits .xor .u8 (rd aJ (wrap64 (Int.tdiv er 8))) (shl .u8 1 (IntKind.u64.wrap (Int.tmod er 8))))) 167772161 167772162).bind fun dD => (some (dD.2.2.2.2.2.2.2.2.2.2.2.2 != 0))) else (none)) else (none)) else (none)) = some r := H
 have A4014 := Aside0.mk A40140
 clear A40140
 obtain ⟨af, hji4015⟩ : ∃ j_ : Int, (wrap64 (Int.tdiv er 8)) = j_ := ⟨_, rfl⟩
 replace H : (if 0 ≤ (af) then (if (af) < (aJ.length : Int) then (if 0 ≤ (IntKind.u64.wrap (Int.tmod er 8)) then ((impl_DecodeSegment.f bo (aJ.set ((af) : Int).toNat (Go.bits .xor .u8 (rd aJ (af)) (shl .u8 1 (IntKind.u64.wrap (Int.tmod er 8))))) 167772161 167772162).bind fun dD => (some (dD.2.2.2.2.2.2.2.2.2.2.2.2 != 0))) else (none)) else (none)) else (none)) = some r := by first | (rw [hji4015] at H; exact H) | (simp only [hji4015] at H ⊢; exact H)
 (try rw [hji4015] at A4014)
 have hji4015w : (IntKind.i64.wrap (Int.tdiv er 8)) = af := (i64_w _).trans hji4015
 by_cases ex : 0 ≤ (af)
 {
 rw [if_pos ex] at H
 have c4016b0 : decide (0 ≤ (af)) = true := decide_eq_true ex
 clear ex
 by_cases ey : (af) < (aJ.length : Int)
 {
 rw [if_pos ey] at H
 have c4017b0 : decide ((af) < (aJ.length : Int)) = true := decide_eq_true ey
 clear ey
 obtain ⟨aV, hji4018⟩ : ∃ j_ : Int, (IntKind.u64.wrap (Int.tmod er 8)) = j_ := ⟨_, rfl⟩
 replace H : (if 0 ≤ (aV) then ((impl_DecodeSegment.f bo (aJ.set ((af) : Int).toNat (Go.bits .xor .u8 (rd aJ (af)) (shl .u8 1 (aV)))) 167772161 167772162).bind fun dD => (some (dD.2.2.2.2.2.2.2.2.2.2.2.2 != 0))) else (none)) = some r := by first | (rw [hji4018] at H; exact H) | (simp only [hji4018] at H ⊢; exact H)
 (try rw [hji4018] at A4014)
 by_cases dE : 0 ≤ (aV)
 {
 rw [if_pos dE] at H
 have c4019b0 := eq_true dE
 have c4019b1 : decide (0 ≤ (aV)) = true := decide_eq_true dE
 clear dE
 obtain ⟨bf, hji4020⟩ : ∃ j_ : Int, (shl .u8 1 (aV)) = j_ := ⟨_, rfl⟩
 replace H : ((impl_DecodeSegment.f bo (aJ.set ((af) : Int).toNat (Go.bits .xor .u8 (rd aJ (af)) (bf))) 167772161 167772162).bind fun dD => (some (dD.2.2.2.2.2.2.2.2.2.2.2.2 != 0))) = some r := by first | (rw [hji4020] at H; exact H) | (simp only [hji4020] at H ⊢; exact H)
 (try rw [hji4020] at A4014)
 have hji4020_ : (IntKind.u8.wrap (1 * 2 ^ min (aV).toNat 8)) = bf := hji4020
 have hji4020z : (aV) ≤ 8 → (IntKind.u8.wrap (1 * 2 ^ (aV).toNat)) = bf := shl_small hji4020
 have hji4020u : (IntKind.u8.wrap (2 ^ min (aV).toNat 8)) = bf := by have h_ := hji4020_; rw [Int.one_mul] at h_; exact h_
 have hji4020v : (aV) ≤ 8 → (IntKind.u8.wrap (2 ^ (aV).toNat)) = bf := fun hle_ => by have h_ := hji4020z hle_; rw [Int.one_mul] at h_; exact h_
 obtain ⟨ff, e9⟩ : ∃ y_ : List Int, y_ = (aJ.set ((af) : Int).toNat (Go.bits .xor .u8 (rd aJ (af)) (bf))) := ⟨_, rfl⟩
 replace H : ((impl_DecodeSegment.f bo ff 167772161 167772162).bind fun dD => (some (dD.2.2.2.2.2.2.2.2.2.2.2.2 != 0))) = some r := by first | (rw [e9]; with_reducible exact H) | (have H2_ := (Option.bind_some _ _).symm.trans H; rw [e9]; with_reducible exact H2_) | (have H2_ := (Option.bind_some _ _).symm.trans H; with_reducible exact H2_) | with_reducible exact H | (rw [e9]; exact H) | exact H
 have Ny483 := Aside0.mk e9
 clear e9
 replace H := Option.bind_eq_some_iff.mp H
 obtain ⟨⟨gE, gF, gG, gH, gI, gJ, gK, gL, gM, gN, gO, gP, gm⟩, A40220, H⟩ := H
 replace H : (some (gm != 0)) = some r := H
 have A4022 := Aside0.mk A40220
 clear A40220
 obtain rfl := Option.some.inj H
 obtain ⟨fw, a3, eC⟩ := Kd.R_slice HO_14.out
 subst eC
 go_wp2_with (first | ((with_reducible refine gate_callee (f := 17) rfl ?_); refine goesL_ (some 131) rfl rfl Try.func17 (by kernel_rfl) rfl #[.pointer (some ⟨am, 0, none⟩), .int .i64 (wrap64 (8 * (aJ.length : Int)))] rfl wT ?_; (with_reducible refine (laws_lwNext.calls am l0 aB aC (wrap64 (8 * (aJ.length : Int))) er gC gD w _ ?side1 ?side2 A4014.out).mono ?_); (case side1 => repeat (first | (with_reducible first | exact aa.out | apply IsS36.alloc | apply IsS36.drewN | apply IsS36.drew | apply IsS36.set_1 | apply IsS36.set_2 | refine IsS36.far ?_ ab.out _ | refine IsS36.far ?_ aw.out _ | refine IsS36.far ?_ aZ.out _) | exact aa.out)); (case side2 => repeat (first | (with_reducible first | exact HB.out | apply below_alloc | apply pw_below_drewN | apply below_drew1 | refine below_set ?_ (IsS36.ge aa.out) | refine below_set ?_ av.out | refine below_set ?_ bH.out | refine below_set ?_ eG.out) | exact HB.out)); rintro e fa ⟨rfl, hi, hb, hk⟩; refine ⟨_, rfl, ?_⟩; replace HO_14 := Aside0.mk (Kd.R_mono (Kd.R_keep (IsS36.apart (show IsS36 w _ am l0 aB aC from by repeat (first | (with_reducible first | exact aa.out | apply IsS36.alloc | apply IsS36.drewN | apply IsS36.drew | apply IsS36.set_1 | apply IsS36.set_2 | refine IsS36.far ?_ ab.out _ | refine IsS36.far ?_ aw.out _ | refine IsS36.far ?_ aZ.out _) | exact aa.out)) (Rh HO_14) (by decide)) hk (fun _ h => h.2)) (fun _ h => h.1)); replace HO_428002 := Aside0.mk (Kd.R_mono (Kd.R_keep (IsS36.apart (show IsS36 w _ am l0 aB aC from by repeat (first | (with_reducible first | exact aa.out | apply IsS36.alloc | apply IsS36.drewN | apply IsS36.drew | apply IsS36.set_1 | apply IsS36.set_2 | refine IsS36.far ?_ ab.out _ | refine IsS36.far ?_ aw.out _ | refine IsS36.far ?_ aZ.out _) | exact aa.out)) (Rh HO_428002) (by decide)) hk (fun _ h => h.2)) (fun _ h => h.1)); replace HO_457002 := Aside0.mk (Kd.R_mono (Kd.R_keep (IsS36.apart (show IsS36 w _ am l0 aB aC from by repeat (first | (with_reducible first | exact aa.out | apply IsS36.alloc | apply IsS36.drewN | apply IsS36.drew | apply IsS36.set_1 | apply IsS36.set_2 | refine IsS36.far ?_ ab.out _ | refine IsS36.far ?_ aw.out _ | refine IsS36.far ?_ aZ.out _) | exact aa.out)) (Rh HO_457002) (by decide)) hk (fun _ h => h.2)) (fun _ h => h.1)); replace HO_475010 := Aside0.mk (Kd.R_mono (Kd.R_keep (IsS36.apart (show IsS36 w _ am l0 aB aC from by repeat (first | (with_reducible first | exact aa.out | apply IsS36.alloc | apply IsS36.drewN | apply IsS36.drew | apply IsS36.set_1 | apply IsS36.set_2 | refine IsS36.far ?_ ab.out _ | refine IsS36.far ?_ aw.out _ | refine IsS36.far ?_ aZ.out _) | exact aa.out)) (Rh HO_475010) (by decide)) hk (fun _ h => h.2)) (fun _ h => h.1)); replace HO_475011 := Aside0.mk (Kd.R_mono (Kd.R_keep (IsS36.apart (show IsS36 w _ am l0 aB aC from by repeat (first | (with_reducible first | exact aa.out | apply IsS36.alloc | apply IsS36.drewN | apply IsS36.drew | apply IsS36.set_1 | apply IsS36.set_2 | refine IsS36.far ?_ ab.out _ | refine IsS36.far ?_ aw.out _ | refine IsS36.far ?_ aZ.out _) | exact aa.out)) (Rh HO_475011) (by decide)) hk (fun _ h => h.2)) (fun _ h => h.1)); replace ac := Aside0.mk (KeepBut.blk hk (g' := ay) (o := .cells #[.int .i64 7, .int .i64 9, .slice az al.length aA] 39 (0, 0)) (Bh ac) aW.out (by simp)); replace aL := Aside0.mk (KeepBut.blk hk (g' := a9) (o := .cells #[.int .i64 bO, .int .i64 cm, .slice aj a4.length ak] 39 (0, 0)) (Bh aL) eN.out (by simp)); replace ba := Aside0.mk (KeepBut.blk hk (g' := ad) (o := .cells #[.int .i64 bn, .int .i64 bq, .int .i64 bv, .int .i64 bz, .int .i64 bJ, .int .i64 bP, .int .i64 cn, .bool cz, .int .i64 cG, .bool du, .slice aR co.length aS, .slice ap bk.length aq] 25 (0, 0)) (Bh ba) fi.out (by simp)); replace HB := Aside0.mk (hb); replace aa := Aside0.mk (hi); (try clear hb); (try clear hb2); (try clear hk); (try clear hi); have p482 : 0 ≤ ((af) : Int) := of_decide_eq_true (by first | (with_reducible assumption) | assumption); have q482 : (af) < (aJ.length : Int) := of_decide_eq_true (by first | (with_reducible assumption) | assumption); obtain ⟨ad482, e482, hx482_0⟩ := Kd.at_int (Kd.R_reads' HO_14.out).2.2 (af) p482 q482; cases e482; replace p482 := eq_true p482; replace q482 := eq_true q482; have p4021 : 0 ≤ ((af) : Int) := of_decide_eq_true (by first | (with_reducible assumption) | assumption); have q4021 : ((af) : Int) < ((aJ.length : Int) : Int) := of_decide_eq_true (by first | (with_reducible assumption) | assumption); obtain ⟨go4021, gn, eO, eP, gl4021, cl4021, HG4021⟩ := Kd.R_form HO_14.out (by omega); (first | cases eO | (injection eO with ea_ en_ ec_; (first | subst ea_ | (injection ea_ with ea_; subst ea_)); subst ec_; clear en_)); have GB4021 := Aside0.mk eP; have GG4021 := Aside0.mk HG4021; clear eP gl4021 HG4021; (first | simp only [add_plain] at hx482_0 | skip); obtain ⟨hx4021_0, hf4021_0⟩ := Kd.R_celln 0 HO_14.out ((af) : Int) p4021 q4021; replace p4021 := eq_true p4021; replace q4021 := eq_true q4021; obtain ⟨hy5003_, hz5003_⟩ := Kd.R_celln 0 HO_14.out ((af) : Int) (of_decide_eq_true (by first | (with_reducible assumption) | assumption)) (of_decide_eq_true (by first | (with_reducible assumption) | assumption)); have HP5003 := Kd.R_putg HO_14.out ((af) : Int) (Go.bits .xor .u8 (rd aJ (af)) (bf))) | ((with_reducible refine gate_store (t := 5) (p := 145) rfl ?_); refine store_event (t := 5) (p := 145) (v := ?_) (w1 := (fa.setCell ⟨go4021, ((af) : Int).toNat, none⟩ (.int .u8 (Go.bits .xor .u8 (rd aJ (af)) (bf))))) ?hg ?ho ?hn ?hr ?_; (case ho => rfl); (case hg => rfl); (case hn => rfl); (case hr => first | (go_simp; done) | (go_simp; rfl)); intro eL hw; have hg : fa.grownBy eL (some go4021) := (by rw [hw]; exact HP5003.2); have hp_ : Kd.R (Kd.int .u8) 5 eL w.heap.size (fun k_ => some k_ ≠ (.slice az al.length aA : Value).ownBlock ∧ some k_ ≠ (.slice aj a4.length ak : Value).ownBlock ∧ some k_ ≠ (.slice ap bk.length aq : Value).ownBlock) (.slice (some ⟨go4021, 0, none⟩) aJ.length a3) ff := (by rw [hw, Ny483.out]; exact HP5003.1); clear HP5003; replace HO_428002 := Aside0.mk (Kd.R_after (v := (.slice (some ⟨go4021, 0, none⟩) aJ.length a3)) (v1 := (.slice (some ⟨go4021, 0, none⟩) aJ.length a3)) (ok := (fun k_ => some k_ ≠ (.slice aj a4.length ak : Value).ownBlock ∧ some k_ ≠ (.slice ap bk.length aq : Value).ownBlock)) (Kd.R_mono (Rh HO_428002) (fun _ hk => ⟨⟨hk.2.1, hk.2.2⟩, hk.1⟩)) hg (.inl rfl)); replace HO_457002 := Aside0.mk (Kd.R_after (v := (.slice (some ⟨go4021, 0, none⟩) aJ.length a3)) (v1 := (.slice (some ⟨go4021, 0, none⟩) aJ.length a3)) (ok := (fun k_ => some k_ ≠ (.slice az al.length aA : Value).ownBlock ∧ some k_ ≠ (.slice ap bk.length aq : Value).ownBlock)) (Kd.R_mono (Rh HO_457002) (fun _ hk => ⟨⟨hk.2.1, hk.2.2⟩, hk.1⟩)) hg (.inl rfl)); replace HO_475010 := Aside0.mk (Kd.R_over' (v := (.slice (some ⟨go4021, 0, none⟩) aJ.length a3)) (Rh HO_475010) (Kd.R_typed HO_14.out) (by decide) hg); replace HO_475011 := Aside0.mk (Kd.R_after (v := (.slice (some ⟨go4021, 0, none⟩) aJ.length a3)) (v1 := (.slice (some ⟨go4021, 0, none⟩) aJ.length a3)) (ok := (fun k_ => some k_ ≠ (.slice az al.length aA : Value).ownBlock ∧ some k_ ≠ (.slice aj a4.length ak : Value).ownBlock)) (Kd.R_mono (Rh HO_475011) (fun _ hk => ⟨⟨hk.2.1, hk.2.2⟩, hk.1⟩)) hg (.inl rfl)); replace ac := Aside0.mk (blk_grown (Bh ac) hg (Kd.R_ne HO_14.out ac.out (by decide))); replace aL := Aside0.mk (blk_grown (Bh aL) hg (Kd.R_ne HO_14.out aL.out (by decide))); replace ba := Aside0.mk (blk_grown (Bh ba) hg (Kd.R_ne HO_14.out ba.out (by decide))); replace aa := Aside0.mk (IsS36.grown (by repeat (first | (with_reducible first | exact aa.out | apply IsS36.alloc | apply IsS36.drewN | apply IsS36.drew | apply IsS36.set_1 | apply IsS36.set_2 | refine IsS36.far ?_ ab.out _ | refine IsS36.far ?_ aw.out _ | refine IsS36.far ?_ aZ.out _) | exact aa.out)) hg (IsS36.own_ne aa.out HO_14.out (by decide))); replace HO_14 := Aside0.mk (hp_); replace HB := Aside0.mk ((by rw [hw]; exact below_set (HB.out) GB4021.out : Below w.heap.size w eL)); clear hg hw hp_) | ((with_reducible refine gate_callee (f := 7) rfl ?_); refine goesL_ (some 150) rfl rfl Try.func7 (by kernel_rfl) rfl #[.slice (some ⟨go4021, 0, none⟩) ff.length a3, .int .i64 167772161, .int .i64 167772162] rfl (by (try simp only [List.map_toArray, List.map_cons, List.map_nil]); first | done | (rw [show ff.length = aJ.length from (Kd.R_reads' HO_14.out).1.symm] <;> rfl) | rfl | (simp only [List.length_drop, List.length_take]; rfl)) ?_; (with_reducible refine (impl_DecodeSegment.calls bo _ _ ff 167772161 167772162 gE gF gG gH gI gJ gK gL gM gN gO gP gm _ ?side1 ?side2 A4022.out).mono ?_); (case side1 => exact Ch HO_14); (case side2 => rw [show ff.length = aJ.length from (Kd.R_reads' HO_14.out).1.symm]; exact (Kd.R_reads' HO_14.out).2.1); rintro e gy ⟨hC, hD, rfl, aI, cp, hb⟩; refine ⟨_, rfl, ?_⟩; have uB := below_pre (n := w.heap.size) (w := w) hb (by repeat (first | (with_reducible first | exact HB.out | apply below_alloc | apply pw_below_drewN | apply below_drew1 | refine below_set ?_ (IsS36.ge aa.out) | refine below_set ?_ av.out | refine below_set ?_ bH.out | refine below_set ?_ eG.out) | exact HB.out)); have hq := Aside0.mk (Kd.R_lower (Kd.R_new' aI (Kd.R_lt (Rh HO_475010))) (below_size uB)); replace HO_475010 := Aside0.mk (Kd.R_elder' (Rh HO_475010) (Kd.R_base aI) hb); have hs := Aside0.mk (Kd.R_lower (Kd.R_new' (Kd.R_new' (Kd.R_new' (Kd.R_new' cp (Kd.R_lt (Rh HO_14))) (Kd.R_lt (Rh HO_428002))) (Kd.R_lt (Rh HO_457002))) (Kd.R_lt (Rh HO_475011))) (below_size uB)); replace HO_14 := Aside0.mk (Kd.R_elder' (Rh HO_14) (Kd.R_base cp) hb); replace HO_428002 := Aside0.mk (Kd.R_elder' (Rh HO_428002) (Kd.R_base cp) hb); replace HO_457002 := Aside0.mk (Kd.R_elder' (Rh HO_457002) (Kd.R_base cp) hb); replace HO_475011 := Aside0.mk (Kd.R_elder' (Rh HO_475011) (Kd.R_base cp) hb); replace ac := Aside0.mk (blk_below (Bh ac) hb); replace aL := Aside0.mk (blk_below (Bh aL) hb); replace ba := Aside0.mk (blk_below (Bh ba) hb); replace HB := Aside0.mk (below_step uB hb); replace aa := Aside0.mk (IsS36.below (by repeat (first | (with_reducible first | exact aa.out | apply IsS36.alloc | apply IsS36.drewN | apply IsS36.drew | apply IsS36.set_1 | apply IsS36.set_2 | refine IsS36.far ?_ ab.out _ | refine IsS36.far ?_ aw.out _ | refine IsS36.far ?_ aZ.out _) | exact aa.out)) hb); clear uB; (try clear hb); (try clear hb2); (try clear hk); (try clear hi); (try clear aI); (try clear cp)))
 all_goals (try (rename_i h_; exfalso; cases h_; done))
 all_goals (try (rename_i h_ h2_; exfalso; cases h_; done))
 go_ret
 exact ⟨by first | rfl | (simp [errW_none, errW_some] <;> rfl) | (simp only [← hji2013, ← hji2016, ← hji2018, ← hji4015, ← hji4018, ← hji4020]; first | rfl | (simp [errW_none, errW_some] <;> rfl)) | (simp [*, errW_none, errW_some] <;> rfl), by repeat (first | (with_reducible first | exact HB.out | apply below_alloc | apply pw_below_drewN | apply below_drew1 | refine below_set ?_ (IsS36.ge aa.out) | refine below_set ?_ av.out | refine below_set ?_ bH.out | refine below_set ?_ eG.out) | exact HB.out)⟩
 }
 {
 rw [if_neg dE] at H
 exact absurd H (by simp)
 }
 }
 {
 rw [if_neg ey] at H
 exact absurd H (by simp)
 }
 }
 {
 rw [if_neg ex] at H
 exact absurd H (by simp)
 }
 }
 }
 )
 }
 }
 )
 }
 {
 rw [if_neg eu] at H
 exact absurd H (by simp)
 }
 }
 {
 rw [if_neg eE] at H
 exact absurd H (by simp)
 }
 }
 {
 rw [if_neg eD] at H
 exact absurd H (by simp)
 }
 }
 }
 )
 }
 {
 replace dI := Bool.eq_false_iff.mpr dI
 subst dI
 have H1 : ((impl_EncodeUdp.f bx aF aG ag ah ai).bind fun fo => (if fo.2 = 0 then (laws_FnOneBit.j4 bx l0 ah ai fo.1 ((fo.1.length : Int) != (wrap64 (8 + (ag.length : Int)))) l0 a7 a8 aF aG ag) else (laws_FnOneBit.j4 bx l0 ah ai fo.1 true l0 a7 a8 aF aG ag))) = some r := by rw [if_neg (show ¬ (false = true) by decide)] at H; exact H
 clear H
 have H := H1
 clear H1
 replace H := Option.bind_eq_some_iff.mp H
 obtain ⟨⟨aQ, e1⟩, A10190, H⟩ := H
 replace H : (if e1 = 0 then (laws_FnOneBit.j4 bx l0 ah ai aQ ((aQ.length : Int) != (wrap64 (8 + (ag.length : Int)))) l0 a7 a8 aF aG ag) else (laws_FnOneBit.j4 bx l0 ah ai aQ true l0 a7 a8 aF aG ag)) = some r := H
 have A1019 := Aside0.mk A10190
 clear A10190
 have fx := Aside0.mk H
 clear H
 have fZ := aW.out
 have f0 := ab.out
 obtain ⟨⟨bB, bC, bD⟩, bE, bF, bG⟩ := cells3 ac.out
 go_upto_region 11 with (first | ((with_reducible refine gate_callee (f := 18) rfl ?_); refine goesL_ (some 49) rfl rfl Try.func18 (by kernel_rfl) rfl #[.agg #[.int .i64 aF, .int .i64 aG, .slice an ag.length ao], .int .i64 ah, .int .i64 ai] rfl wT ?_; (with_reducible refine (impl_EncodeUdp.calls bx aF aG _ _ ag ah ai aQ e1 _ ?side1 ?side2 A1019.out).mono ?_); (case side1 => exact Ch HO_428002); (case side2 => exact (Kd.R_reads' HO_428002.out).2.1); rintro e fY ⟨go, rfl, aI, hb⟩; refine ⟨_, rfl, ?_⟩; have fJ := Aside0.mk (Kd.R_lower (Kd.R_new' aI (Kd.R_lt (Rh HO_428002))) (below_size wB)); replace HO_428002 := Aside0.mk (Kd.R_elder' (Rh HO_428002) (Kd.R_base aI) hb); replace a6 := Aside0.mk (blk_below (Bh a6) hb); replace ac := Aside0.mk (blk_below (Bh ac) hb); replace HB := Aside0.mk (below_step wB hb); (try clear hb); (try clear hb2); (try clear hk); (try clear hi); (try clear aI)))
 (try simp only [Act.put, List.setIfInBounds_toArray, List.set_cons_zero, List.set_cons_succ])
 go_cut [62] (fun gl wc => ∃ (kq : Nat) (eM : Bool), gl = .bool eM ∧ Aside0 (laws_FnOneBit.j4 kq l0 ah ai aQ eM l0 a7 a8 aF aG ag = some r) ∧ Aside0 (kq ≤ bx) ∧ Aside0 (Kd.R (Kd.int .u8) 5 wc w.heap.size (fun k_ => some k_ ≠ ((.slice an ag.length ao) : Value).ownBlock) go aQ) ∧ Aside0 (Kd.R (Kd.int .u8) 5 wc w.heap.size (fun k_ => some k_ ≠ (go : Value).ownBlock) (.slice an ag.length ao) ag) ∧ Aside0 (wc.heap[am]? = some (.cells #[(.slice A0 l0.length c0), .int .i64 a7, .int .u64 a8] 36 (0, 0))) ∧ Aside0 (wc.heap[ay]? = some (.cells #[.int .i64 aF, .int .i64 aG, (.slice an ag.length ao)] 39 (0, 0))) ∧ Aside0 (Below w.heap.size w wc))
 case first => as_aux_lemma => (
 have H := fx.out
 clear fx
 by_cases dJ : e1 = 0
 {
 rw [if_pos dJ] at H
 have c2004b0 : (e1 == 0) = true := beq_iff_eq.mpr dJ
 have c2004b1 : (e1 != 0) = false := bne_eq_false_iff_eq.mpr dJ
 clear dJ
 (first | rw [c2004b0] | (simp only [i64_w, i32_w]; rw [c2004b0]) | skip)
 have H' := Aside0.mk H
 clear H
 obtain ⟨fr, bd, eA⟩ := Kd.R_slice fJ.out
 subst eA
 have f1 := aW.out
 have f2 := ab.out
 obtain ⟨⟨ce, cf, cg⟩, ch, ci, cj⟩ := cells3 ac.out
 go_wp2
 all_goals (try (rename_i h_; exfalso; cases h_; done))
 all_goals (try (rename_i h_ h2_; exfalso; cases h_; done))
 go_meet
 case rel => exact ⟨_, (((aQ.length : Int) != (wrap64 (8 + (ag.length : Int))))), (by first | rfl | (simp; done) | (simp [*]; done)), H', ⟨by have := HJ5.out; first | omega | exact Nat.le_refl _⟩, ⟨Kd.R_mono (Rh fJ) (fun _ hk => hk.2)⟩, ⟨Kd.R_mono (Rh HO_428002) (fun _ hk => hk.2)⟩, ⟨Bh a6⟩, ⟨Bh ac⟩, ⟨wB⟩⟩
 }
 {
 rw [if_neg dJ] at H
 have c2004b0 : (e1 == 0) = false := beq_eq_false_iff_ne.mpr dJ
 have c2004b1 : (e1 != 0) = true := bne_iff_ne.mpr dJ
 (first | rw [c2004b0] | (simp only [i64_w, i32_w]; rw [c2004b0]) | skip)
 have H' := Aside0.mk H
 clear H
 go_wp2
 all_goals (try (rename_i h_; exfalso; cases h_; done))
 all_goals (try (rename_i h_ h2_; exfalso; cases h_; done))
 go_meet
 case rel => exact ⟨_, (true), (by first | rfl | (simp; done) | (simp [*]; done)), H', ⟨by have := HJ5.out; first | omega | exact Nat.le_refl _⟩, ⟨Kd.R_mono (Rh fJ) (fun _ hk => hk.2)⟩, ⟨Kd.R_mono (Rh HO_428002) (fun _ hk => hk.2)⟩, ⟨Bh a6⟩, ⟨Bh ac⟩, ⟨wB⟩⟩
 }
 )
 case rest => (
 clear fx
 try clear c0
 try clear c2
 try clear c2b0
 try clear c2b1
 try clear p2
 try clear q2
 try clear hx2
 try clear hf2
 try clear p448
 try clear q448
 try clear hx448
 try clear p482
 try clear q482
 try clear hx482
 try clear bS
 try clear c1013b0
 try clear c1013b1
 try clear dI
 try clear dJ
 try clear c2004b0
 try clear c2004b1
 try clear bW bX bY bZ b0 b1
 try clear b2 b3 b4 b5 b6 b7
 try clear b8 b9 ca cb cc cd
 try clear bB bC bD bE bF bG
 try clear cI cJ cK cL cM cN
 try clear cO cP cQ cR cS cT
 try clear ce cf cg ch ci cj
 try clear cV cW cX cY cZ c1
 try clear da db dc dd de df
 try clear dg dh di dj dk dl
 try clear dL dM dv dw dN dO dP dQ dR dS dT dU dV dW dx dy dX dY dZ d0 d1 d2 d3 d4
 try clear d5 d6 dz dA d7 d8 d9 ea eb ec ed ee ef eg dB dC eh ei ej ek el em en eo
 try clear hx2019_0
 try clear hx4021_0
 try clear hx448_0
 try clear hx482_0
 try clear p2
 try clear p2019
 try clear p4021
 try clear p448
 try clear p482
 try clear q2
 try clear q2019
 try clear q4021
 try clear q448
 try clear q482
 obtain ⟨kq, eM, rfl, HA, HJ1019, HO_9, HO_428002, a6, ac, HB⟩ := hcut
 cases kq with
 | zero => exact absurd HA.out (by simp [laws_FnOneBit.j4])
 | succ au => {
 have H := HA.out
 clear HA
 simp only [laws_FnOneBit.j4] at H
 by_cases eS : eM = true
 {
 subst eS
 have H1 : (some false) = some r := by rw [if_pos rfl] at H; exact H
 clear H
 have H := H1
 clear H1
 obtain rfl := Option.some.inj H
 go_wp2
 all_goals (try (rename_i h_; exfalso; cases h_; done))
 all_goals (try (rename_i h_ h2_; exfalso; cases h_; done))
 go_ret
 exact ⟨by first | rfl | (simp [errW_none, errW_some] <;> rfl) | (simp [*, errW_none, errW_some] <;> rfl), wB⟩
 }
 {
 replace eS := Bool.eq_false_iff.mpr eS
 subst eS
 have H1 : ((laws_lwNext.f l0 a7 a8 (wrap64 (8 * (aQ.length : Int)))).bind fun bV => (if 0 ≤ (wrap64 (Int.tdiv bV.1 8)) then (if (wrap64 (Int.tdiv bV.1 8)) < (aQ.length : Int) then (if 0 ≤ (IntKind.u64.wrap (Int.tmod bV.1 8)) then ((impl_DecodeUdp.f au (aQ.set ((wrap64 (Int.tdiv bV.1 8)) : Int).toNat (Go.bits .xor .u8 (rd aQ (wrap64 (Int.tdiv bV.1 8))) (shl .u8 1 (IntKind.u64.wrap (Int.tmod bV.1 8))))) ah ai).bind fun aU => (if aU.2.2.2 = 0 then (if aU.1 = aF then (if aU.2.1 = aG then ((laws_lwSame.f aU.2.2.1 ag).bind fun cq => (laws_FnOneBit.j5 au l0 ah ai (!cq) l0 bV.2.1 bV.2.2)) else (laws_FnOneBit.j5 au l0 ah ai true l0 bV.2.1 bV.2.2)) else (laws_FnOneBit.j5 au l0 ah ai true l0 bV.2.1 bV.2.2)) else (laws_FnOneBit.j5 au l0 ah ai false l0 bV.2.1 bV.2.2))) else (none)) else (none)) else (none))) = some r := by rw [if_neg (show ¬ (false = true) by decide)] at H; exact H
 clear H
 have H := H1
 clear H1
 replace H := Option.bind_eq_some_iff.mp H
 obtain ⟨⟨es, aD, aE⟩, A20060, H⟩ := H
 replace H : (if 0 ≤ (wrap64 (Int.tdiv es 8)) then (if (wrap64 (Int.tdiv es 8)) < (aQ.length : Int) then (if 0 ≤ (IntKind.u64.wrap (Int.tmod es 8)) then ((impl_DecodeUdp.f au (aQ.set ((wrap64 (Int.tdiv es 8)) : Int).toNat (Go.bits .xor .u8 (rd aQ (wrap64 (Int.tdiv es 8))) (shl .u8 1 (IntKind.u64.wrap (Int.tmod es 8))))) ah ai).bind fun aU => (if aU.2.2.2 = 0 then (if aU.1 = aF then (if aU.2.1 = aG then ((laws_lwSame.f aU.2.2.1 ag).bind fun cq => (laws_FnOneBit.j5 au l0 ah ai (!cq) l0 aD aE)) else (laws_FnOneBit.j5 au l0 ah ai true l0 aD aE)) else (laws_FnOneBit.j5 au l0 ah ai true l0 aD aE)) else (laws_FnOneBit.j5 au l0 ah ai false l0 aD aE))) else (none)) else (none)) else (none)) = some r := H
 have A2006 := Aside0.mk A20060
 clear A20060
 obtain ⟨aO, hji2007⟩ : ∃ j_ : Int, (wrap64 (Int.tdiv es 8)) = j_ := ⟨_, rfl⟩
 replace H : (if 0 ≤ (aO) then (if (aO) < (aQ.length : Int) then (if 0 ≤ (IntKind.u64.wrap (Int.tmod es 8)) then ((impl_DecodeUdp.f au (aQ.set ((aO) : Int).toNat (Go.bits .xor .u8 (rd aQ (aO)) (shl .u8 1 (IntKind.u64.wrap (Int.tmod es 8))))) ah ai).bind fun aU => (if aU.2.2.2 = 0 then (if aU.1 = aF then (if aU.2.1 = aG then ((laws_lwSame.f aU.2.2.1 ag).bind fun cq => (laws_FnOneBit.j5 au l0 ah ai (!cq) l0 aD aE)) else (laws_FnOneBit.j5 au l0 ah ai true l0 aD aE)) else (laws_FnOneBit.j5 au l0 ah ai true l0 aD aE)) else (laws_FnOneBit.j5 au l0 ah ai false l0 aD aE))) else (none)) else (none)) else (none)) = some r := by first | (rw [hji2007] at H; exact H) | (simp only [hji2007] at H ⊢; exact H)
 (try rw [hji2007] at A2006)
 have hji2007w : (IntKind.i64.wrap (Int.tdiv es 8)) = aO := (i64_w _).trans hji2007
 by_cases eT : 0 ≤ (aO)
 {
 rw [if_pos eT] at H
 have c2008b0 : decide (0 ≤ (aO)) = true := decide_eq_true eT
 clear eT
 by_cases eU : (aO) < (aQ.length : Int)
 {
 rw [if_pos eU] at H
 have c2009b0 : decide ((aO) < (aQ.length : Int)) = true := decide_eq_true eU
 clear eU
 obtain ⟨cr, hji2010⟩ : ∃ j_ : Int, (IntKind.u64.wrap (Int.tmod es 8)) = j_ := ⟨_, rfl⟩
 replace H : (if 0 ≤ (cr) then ((impl_DecodeUdp.f au (aQ.set ((aO) : Int).toNat (Go.bits .xor .u8 (rd aQ (aO)) (shl .u8 1 (cr)))) ah ai).bind fun aU => (if aU.2.2.2 = 0 then (if aU.1 = aF then (if aU.2.1 = aG then ((laws_lwSame.f aU.2.2.1 ag).bind fun cq => (laws_FnOneBit.j5 au l0 ah ai (!cq) l0 aD aE)) else (laws_FnOneBit.j5 au l0 ah ai true l0 aD aE)) else (laws_FnOneBit.j5 au l0 ah ai true l0 aD aE)) else (laws_FnOneBit.j5 au l0 ah ai false l0 aD aE))) else (none)) = some r := by first | (rw [hji2010] at H; exact H) | (simp only [hji2010] at H ⊢; exact H)
 (try rw [hji2010] at A2006)
 by_cases bT : 0 ≤ (cr)
 {
 rw [if_pos bT] at H
 have c2011b0 := eq_true bT
 have c2011b1 : decide (0 ≤ (cr)) = true := decide_eq_true bT
 clear bT
 obtain ⟨ep, hji2012⟩ : ∃ j_ : Int, (shl .u8 1 (cr)) = j_ := ⟨_, rfl⟩
 replace H : ((impl_DecodeUdp.f au (aQ.set ((aO) : Int).toNat (Go.bits .xor .u8 (rd aQ (aO)) (ep))) ah ai).bind fun aU => (if aU.2.2.2 = 0 then (if aU.1 = aF then (if aU.2.1 = aG then ((laws_lwSame.f aU.2.2.1 ag).bind fun cq => (laws_FnOneBit.j5 au l0 ah ai (!cq) l0 aD aE)) else (laws_FnOneBit.j5 au l0 ah ai true l0 aD aE)) else (laws_FnOneBit.j5 au l0 ah ai true l0 aD aE)) else (laws_FnOneBit.j5 au l0 ah ai false l0 aD aE))) = some r := by first | (rw [hji2012] at H; exact H) | (simp only [hji2012] at H ⊢; exact H)
 (try rw [hji2012] at A2006)
 have hji2012_ : (IntKind.u8.wrap (1 * 2 ^ min (cr).toNat 8)) = ep := hji2012
 have hji2012z : (cr) ≤ 8 → (IntKind.u8.wrap (1 * 2 ^ (cr).toNat)) = ep := shl_small hji2012
 have hji2012u : (IntKind.u8.wrap (2 ^ min (cr).toNat 8)) = ep := by have h_ := hji2012_; rw [Int.one_mul] at h_; exact h_
 have hji2012v : (cr) ≤ 8 → (IntKind.u8.wrap (2 ^ (cr).toNat)) = ep := fun hle_ => by have h_ := hji2012z hle_; rw [Int.one_mul] at h_; exact h_
 obtain ⟨e2, fb⟩ : ∃ y_ : List Int, y_ = (aQ.set ((aO) : Int).toNat (Go.bits .xor .u8 (rd aQ (aO)) (ep))) := ⟨_, rfl⟩
 replace H : ((impl_DecodeUdp.f au e2 ah ai).bind fun aU => (if aU.2.2.2 = 0 then (if aU.1 = aF then (if aU.2.1 = aG then ((laws_lwSame.f aU.2.2.1 ag).bind fun cq => (laws_FnOneBit.j5 au l0 ah ai (!cq) l0 aD aE)) else (laws_FnOneBit.j5 au l0 ah ai true l0 aD aE)) else (laws_FnOneBit.j5 au l0 ah ai true l0 aD aE)) else (laws_FnOneBit.j5 au l0 ah ai false l0 aD aE))) = some r := by first | (rw [fb]; with_reducible exact H) | (have H2_ := (Option.bind_some _ _).symm.trans H; rw [fb]; with_reducible exact H2_) | (have H2_ := (Option.bind_some _ _).symm.trans H; with_reducible exact H2_) | with_reducible exact H | (rw [fb]; exact H) | exact H
 have Ny509 := Aside0.mk fb
 clear fb
 replace H := Option.bind_eq_some_iff.mp H
 obtain ⟨⟨bQ, ct, a5, e3⟩, A20140, H⟩ := H
 replace H : (if e3 = 0 then (if bQ = aF then (if ct = aG then ((laws_lwSame.f a5 ag).bind fun cq => (laws_FnOneBit.j5 au l0 ah ai (!cq) l0 aD aE)) else (laws_FnOneBit.j5 au l0 ah ai true l0 aD aE)) else (laws_FnOneBit.j5 au l0 ah ai true l0 aD aE)) else (laws_FnOneBit.j5 au l0 ah ai false l0 aD aE)) = some r := H
 have A2014 := Aside0.mk A20140
 clear A20140
 have fy := Aside0.mk H
 clear H
 obtain ⟨fr, bd, eA⟩ := Kd.R_slice HO_9.out
 subst eA
 have aa := Aside0.mk (show IsS36 w wc am l0 a7 a8 from ⟨_, _, by (with_reducible repeat (first | refine blk_drewN ?_ _ | refine blk_drew ?_ | refine blk_alloc ?_ _)); exact a6.out, fz.out, HR0.out⟩)
 go_upto_region 16 with (first | ((with_reducible refine gate_callee (f := 17) rfl ?_); refine goesL_ (some 66) rfl rfl Try.func17 (by kernel_rfl) rfl #[.pointer (some ⟨am, 0, none⟩), .int .i64 (wrap64 (8 * (aQ.length : Int)))] rfl wT ?_; (with_reducible refine (laws_lwNext.calls am l0 a7 a8 (wrap64 (8 * (aQ.length : Int))) es aD aE w _ ?side1 ?side2 A2006.out).mono ?_); (case side1 => repeat (first | (with_reducible first | exact aa.out | apply IsS36.alloc | apply IsS36.drewN | apply IsS36.drew | apply IsS36.set_1 | apply IsS36.set_2 | refine IsS36.far ?_ ab.out _) | exact aa.out)); (case side2 => repeat (first | (with_reducible first | exact HB.out | apply below_alloc | apply pw_below_drewN | apply below_drew1 | refine below_set ?_ (IsS36.ge aa.out) | refine below_set ?_ av.out) | exact HB.out)); rintro e e8 ⟨rfl, hi, hb, hk⟩; refine ⟨_, rfl, ?_⟩; replace HO_9 := Aside0.mk (Kd.R_mono (Kd.R_keep (IsS36.apart (show IsS36 w _ am l0 a7 a8 from by repeat (first | (with_reducible first | exact aa.out | apply IsS36.alloc | apply IsS36.drewN | apply IsS36.drew | apply IsS36.set_1 | apply IsS36.set_2 | refine IsS36.far ?_ ab.out _) | exact aa.out)) (Rh HO_9) (by decide)) hk (fun _ h => h.2)) (fun _ h => h.1)); replace HO_428002 := Aside0.mk (Kd.R_mono (Kd.R_keep (IsS36.apart (show IsS36 w _ am l0 a7 a8 from by repeat (first | (with_reducible first | exact aa.out | apply IsS36.alloc | apply IsS36.drewN | apply IsS36.drew | apply IsS36.set_1 | apply IsS36.set_2 | refine IsS36.far ?_ ab.out _) | exact aa.out)) (Rh HO_428002) (by decide)) hk (fun _ h => h.2)) (fun _ h => h.1)); replace ac := Aside0.mk (KeepBut.blk hk (g' := ay) (o := .cells #[.int .i64 aF, .int .i64 aG, .slice an ag.length ao] 39 (0, 0)) (Bh ac) aW.out (by simp)); replace HB := Aside0.mk (hb); replace aa := Aside0.mk (hi); (try clear hb); (try clear hb2); (try clear hk); (try clear hi); have p508 : 0 ≤ ((aO) : Int) := of_decide_eq_true (by first | (with_reducible assumption) | assumption); have q508 : (aO) < (aQ.length : Int) := of_decide_eq_true (by first | (with_reducible assumption) | assumption); obtain ⟨ad508, e508, hx508_0⟩ := Kd.at_int (Kd.R_reads' HO_9.out).2.2 (aO) p508 q508; cases e508; replace p508 := eq_true p508; replace q508 := eq_true q508; have p2013 : 0 ≤ ((aO) : Int) := of_decide_eq_true (by first | (with_reducible assumption) | assumption); have q2013 : ((aO) : Int) < ((aQ.length : Int) : Int) := of_decide_eq_true (by first | (with_reducible assumption) | assumption); obtain ⟨go2013, ha, fQ, fR, gl2013, cl2013, HG2013⟩ := Kd.R_form HO_9.out (by omega); (first | cases fQ | (injection fQ with ea_ en_ ec_; (first | subst ea_ | (injection ea_ with ea_; subst ea_)); subst ec_; clear en_)); have GB2013 := Aside0.mk fR; have GG2013 := Aside0.mk HG2013; clear fR gl2013 HG2013; (first | simp only [add_plain] at hx508_0 | skip); obtain ⟨hx2013_0, hf2013_0⟩ := Kd.R_celln 0 HO_9.out ((aO) : Int) p2013 q2013; replace p2013 := eq_true p2013; replace q2013 := eq_true q2013; obtain ⟨hy3003_, hz3003_⟩ := Kd.R_celln 0 HO_9.out ((aO) : Int) (of_decide_eq_true (by first | (with_reducible assumption) | assumption)) (of_decide_eq_true (by first | (with_reducible assumption) | assumption)); have HP3003 := Kd.R_putg HO_9.out ((aO) : Int) (Go.bits .xor .u8 (rd aQ (aO)) (ep))) | ((with_reducible refine gate_store (t := 5) (p := 80) rfl ?_); refine store_event (t := 5) (p := 80) (v := ?_) (w1 := (e8.setCell ⟨go2013, ((aO) : Int).toNat, none⟩ (.int .u8 (Go.bits .xor .u8 (rd aQ (aO)) (ep))))) ?hg ?ho ?hn ?hr ?_; (case ho => rfl); (case hg => rfl); (case hn => rfl); (case hr => first | (go_simp; done) | (go_simp; rfl)); intro eK hw; have hg : e8.grownBy eK (some go2013) := (by rw [hw]; exact HP3003.2); have hp_ : Kd.R (Kd.int .u8) 5 eK w.heap.size (fun k_ => some k_ ≠ (.slice an ag.length ao : Value).ownBlock) (.slice (some ⟨go2013, 0, none⟩) aQ.length bd) e2 := (by rw [hw, Ny509.out]; exact HP3003.1); clear HP3003; replace HO_428002 := Aside0.mk (Kd.R_after (v := (.slice (some ⟨go2013, 0, none⟩) aQ.length bd)) (v1 := (.slice (some ⟨go2013, 0, none⟩) aQ.length bd)) (ok := (fun _ => True)) (Kd.R_mono (Rh HO_428002) (fun _ hk => ⟨trivial, hk⟩)) hg (.inl rfl)); replace aa := Aside0.mk (IsS36.grown (by repeat (first | (with_reducible first | exact aa.out | apply IsS36.alloc | apply IsS36.drewN | apply IsS36.drew | apply IsS36.set_1 | apply IsS36.set_2 | refine IsS36.far ?_ ab.out _) | exact aa.out)) hg (IsS36.own_ne aa.out HO_9.out (by decide))); replace ac := Aside0.mk (blk_grown (Bh ac) hg (Kd.R_ne HO_9.out ac.out (by decide))); replace HO_9 := Aside0.mk (hp_); replace HB := Aside0.mk ((by rw [hw]; exact below_set (HB.out) GB2013.out : Below w.heap.size w eK)); clear hg hw hp_) | ((with_reducible refine gate_callee (f := 19) rfl ?_); refine goesL_ (some 85) rfl rfl Try.func19 (by kernel_rfl) rfl #[.slice (some ⟨go2013, 0, none⟩) e2.length bd, .int .i64 ah, .int .i64 ai] rfl (by (try simp only [List.map_toArray, List.map_cons, List.map_nil]); first | done | (rw [show e2.length = aQ.length from (Kd.R_reads' HO_9.out).1.symm] <;> rfl) | rfl | (simp only [List.length_drop, List.length_take]; rfl)) ?_; (with_reducible refine (impl_DecodeUdp.calls au _ _ e2 ah ai bQ ct a5 e3 _ ?side1 ?side2 A2014.out).mono ?_); (case side1 => exact Ch HO_9); (case side2 => rw [show e2.length = aQ.length from (Kd.R_reads' HO_9.out).1.symm]; exact (Kd.R_reads' HO_9.out).2.1); rintro e gt ⟨hE, rfl, aI, hb⟩; refine ⟨_, rfl, ?_⟩; have uB := below_pre (n := w.heap.size) (w := w) hb (by repeat (first | (with_reducible first | exact HB.out | apply below_alloc | apply pw_below_drewN | apply below_drew1 | refine below_set ?_ (IsS36.ge aa.out) | refine below_set ?_ av.out) | exact HB.out)); have dF := Aside0.mk (Kd.R_lower (Kd.R_new' (Kd.R_new' aI (Kd.R_lt (Rh HO_9))) (Kd.R_lt (Rh HO_428002))) (below_size uB)); replace HO_9 := Aside0.mk (Kd.R_elder' (Rh HO_9) (Kd.R_base aI) hb); replace HO_428002 := Aside0.mk (Kd.R_elder' (Rh HO_428002) (Kd.R_base aI) hb); replace ac := Aside0.mk (blk_below (Bh ac) hb); replace HB := Aside0.mk (below_step uB hb); replace aa := Aside0.mk (IsS36.below (by repeat (first | (with_reducible first | exact aa.out | apply IsS36.alloc | apply IsS36.drewN | apply IsS36.drew | apply IsS36.set_1 | apply IsS36.set_2 | refine IsS36.far ?_ ab.out _) | exact aa.out)) hb); clear uB; (try clear hb); (try clear hb2); (try clear hk); (try clear hi); (try clear aI)) | ((with_reducible refine gate_dst (N := 12) rfl ?_); (try (refine gate_guard (by rfl) ?_; dsimp only)); refine box_event ?hg (N := 12) ?hd (cs := #[.int .i64 0, .int .i64 0, .slice none 0 0]) (t := 39) ?hr ?_; (case hd => rfl); (case hg => rfl); (case hr => first | (go_simp; done) | (go_simp; rfl)); intro bb hg fF hbox hb; have uB := below_pre (n := w.heap.size) (w := w) hb (by repeat (first | (with_reducible first | exact HB.out | apply below_alloc | apply pw_below_drewN | apply below_drew1 | refine below_set ?_ (IsS36.ge aa.out) | refine below_set ?_ av.out) | exact HB.out)); replace HO_9 := Aside0.mk (Kd.R_below (Rh HO_9) hb); replace HO_428002 := Aside0.mk (Kd.R_below (Rh HO_428002) hb); replace dF := Aside0.mk (Kd.R_below (Rh dF) hb); have aM := Aside0.mk (hbox); have gz := Aside0.mk ((by rw [hg]; exact (below_size uB) : w.heap.size ≤ bb)); replace HB := Aside0.mk (below_step uB hb); have bK := gz; have dm := Aside0.mk ((by rw [hg]; exact Nat.ne_of_lt (blk_lt (Bh ac)) : ay ≠ bb)); replace ac := Aside0.mk (blk_below (Bh ac) hb); have fj := Aside0.mk dm.out.symm; have ax := Aside0.mk ((by rw [hg]; exact Nat.ne_of_lt (IsS36.lt (show IsS36 w _ am l0 aD aE from by repeat (first | (with_reducible first | exact aa.out | apply IsS36.alloc | apply IsS36.drewN | apply IsS36.drew | apply IsS36.set_1 | apply IsS36.set_2 | refine IsS36.far ?_ ab.out _) | exact aa.out))) : am ≠ bb)); replace aa := Aside0.mk (IsS36.below (by repeat (first | (with_reducible first | exact aa.out | apply IsS36.alloc | apply IsS36.drewN | apply IsS36.drew | apply IsS36.set_1 | apply IsS36.set_2 | refine IsS36.far ?_ ab.out _) | exact aa.out)) hb); have eQ := Aside0.mk ax.out.symm; clear uB; clear hb hbox hg; have f3 := fj.out; have f4 := dm.out; have f5 := eQ.out; have f6 := ax.out; obtain ⟨⟨cV, cW, cX⟩, cY, cZ, c1⟩ := cells3 aM.out; obtain ⟨aj, ak, ft⟩ := Kd.R_slice dF.out; subst ft) | ((with_reducible refine gate_store (t := 39) (p := 12) rfl ?_); refine store_event (t := 39) (p := 12) (v := ?_) (w1 := (((fF.setCell ⟨bb, 0, none⟩ (.int .i64 bQ)).setCell ⟨bb, 1, none⟩ (.int .i64 ct)).setCell ⟨bb, 2, none⟩ (.slice aj a5.length ak))) ?hg ?ho ?hn ?hr ?_; (case ho => rfl); (case hg => rfl); (case hn => rfl); (case hr => first | (go_simp; done) | (go_simp; rfl)); intro bI hw; have n0_ : Aside0 (Kd.R (Kd.int .u8) 5 bI w.heap.size (fun k_ => some k_ ≠ (.slice an ag.length ao : Value).ownBlock ∧ some k_ ≠ (.slice aj a5.length ak : Value).ownBlock) (.slice (some ⟨go2013, 0, none⟩) aQ.length bd) e2) := ⟨(by rw [hw]; exact (by (with_reducible repeat (first | apply Kd.R_alloc | apply Kd.R_drewN | apply Kd.R_drew)); exact Kd.R_mono (Kd.R_far (p := ⟨bb, 2, none⟩) (Kd.R_far (p := ⟨bb, 1, none⟩) (Kd.R_far (p := ⟨bb, 0, none⟩) (Kd.R_types HO_9.out aM.out (by decide)) (fun _ hk => hk.2) (.int .i64 bQ)) (fun _ hk => hk.2) (.int .i64 ct)) (fun _ hk => hk.2) (.slice aj a5.length ak)) (fun _ hk => ⟨hk.1.1, hk.1.2⟩)))⟩; have n1_ : Aside0 (Kd.R (Kd.int .u8) 5 bI w.heap.size (fun k_ => some k_ ≠ (.slice (some ⟨go2013, 0, none⟩) aQ.length bd : Value).ownBlock ∧ some k_ ≠ (.slice aj a5.length ak : Value).ownBlock) (.slice an ag.length ao) ag) := ⟨(by rw [hw]; exact (by (with_reducible repeat (first | apply Kd.R_alloc | apply Kd.R_drewN | apply Kd.R_drew)); exact Kd.R_mono (Kd.R_far (p := ⟨bb, 2, none⟩) (Kd.R_far (p := ⟨bb, 1, none⟩) (Kd.R_far (p := ⟨bb, 0, none⟩) (Kd.R_types HO_428002.out aM.out (by decide)) (fun _ hk => hk.2) (.int .i64 bQ)) (fun _ hk => hk.2) (.int .i64 ct)) (fun _ hk => hk.2) (.slice aj a5.length ak)) (fun _ hk => ⟨hk.1.1.2, hk.1.2⟩)))⟩; have n2_ : Aside0 (Kd.R (Kd.int .u8) 5 bI w.heap.size (fun k_ => some k_ ≠ (.slice (some ⟨go2013, 0, none⟩) aQ.length bd : Value).ownBlock ∧ some k_ ≠ (.slice an ag.length ao : Value).ownBlock) (.slice aj a5.length ak) a5) := ⟨(by rw [hw]; exact (by (with_reducible repeat (first | apply Kd.R_alloc | apply Kd.R_drewN | apply Kd.R_drew)); exact Kd.R_mono (Kd.R_far (p := ⟨bb, 2, none⟩) (Kd.R_far (p := ⟨bb, 1, none⟩) (Kd.R_far (p := ⟨bb, 0, none⟩) (Kd.R_types dF.out aM.out (by decide)) (fun _ hk => hk.2) (.int .i64 bQ)) (fun _ hk => hk.2) (.int .i64 ct)) (fun _ hk => hk.2) (.slice aj a5.length ak)) (fun _ hk => ⟨hk.1.1.2, hk.1.2⟩)))⟩; have n3_ : Aside0 (bI.heap[ay]? = some (.cells #[.int .i64 aF, .int .i64 aG, .slice an ag.length ao] 39 (0, 0))) := ⟨(by rw [hw]; exact (by (with_reducible repeat (first | refine blk_drewN ?_ _ | refine blk_drew ?_ | refine blk_alloc ?_ _)); refine blk_far ?_ dm.out _; (with_reducible repeat (first | refine blk_drewN ?_ _ | refine blk_drew ?_ | refine blk_alloc ?_ _)); refine blk_far ?_ dm.out _; (with_reducible repeat (first | refine blk_drewN ?_ _ | refine blk_drew ?_ | refine blk_alloc ?_ _)); refine blk_far ?_ dm.out _; (with_reducible repeat (first | refine blk_drewN ?_ _ | refine blk_drew ?_ | refine blk_alloc ?_ _)); exact ac.out))⟩; have n4_ : Aside0 (bI.heap[bb]? = some (.cells #[.int .i64 bQ, .int .i64 ct, .slice aj a5.length ak] 39 (0, 0))) := ⟨(by rw [hw]; exact (by (with_reducible repeat (first | refine blk_drewN ?_ _ | refine blk_drew ?_ | refine blk_alloc ?_ _)); refine blk_put (cs := #[.int .i64 bQ, .int .i64 ct, .slice none 0 0]) ?_ 2 _ rfl; (with_reducible repeat (first | refine blk_drewN ?_ _ | refine blk_drew ?_ | refine blk_alloc ?_ _)); refine blk_put (cs := #[.int .i64 bQ, .int .i64 0, .slice none 0 0]) ?_ 1 _ rfl; (with_reducible repeat (first | refine blk_drewN ?_ _ | refine blk_drew ?_ | refine blk_alloc ?_ _)); refine blk_put (cs := #[.int .i64 0, .int .i64 0, .slice none 0 0]) ?_ 0 _ rfl; (with_reducible repeat (first | refine blk_drewN ?_ _ | refine blk_drew ?_ | refine blk_alloc ?_ _)); exact aM.out))⟩; have n5_ : Aside0 (IsS36 w bI am l0 aD aE) := ⟨(by rw [hw]; exact (by repeat (first | (with_reducible first | exact aa.out | apply IsS36.alloc | apply IsS36.drewN | apply IsS36.drew | apply IsS36.set_1 | apply IsS36.set_2 | refine IsS36.far ?_ ab.out _ | refine IsS36.far ?_ ax.out _) | exact aa.out)))⟩; have n6_ : Aside0 (Below w.heap.size w bI) := ⟨(by rw [hw]; exact (by repeat (first | (with_reducible first | exact HB.out | apply below_alloc | apply pw_below_drewN | apply below_drew1 | refine below_set ?_ (IsS36.ge aa.out) | refine below_set ?_ av.out | refine below_set ?_ bK.out) | exact HB.out)))⟩; clear hw; clear HO_9; clear HO_428002; clear dF; clear ac; clear aM; clear aa; clear HB; have HO_9 := n0_; have HO_428002 := n1_; have dF := n2_; have ac := n3_; have aM := n4_; have aa := n5_; have HB := n6_; clear n0_ n1_ n2_ n3_ n4_ n5_ n6_))
 (try simp only [Act.put, List.setIfInBounds_toArray, List.set_cons_zero, List.set_cons_succ])
 go_cut [111] (fun fU wc => ∃ (kq : Nat) (eH : Bool), fU = .bool eH ∧ Aside0 (laws_FnOneBit.j5 kq l0 ah ai eH l0 aD aE = some r) ∧ Aside0 (kq ≤ au) ∧ Aside0 (Kd.R (Kd.int .u8) 5 wc w.heap.size (fun k_ => some k_ ≠ ((.slice aj a5.length ak) : Value).ownBlock) (.slice an ag.length ao) ag) ∧ Aside0 (Kd.R (Kd.int .u8) 5 wc w.heap.size (fun k_ => some k_ ≠ ((.slice an ag.length ao) : Value).ownBlock) (.slice aj a5.length ak) a5) ∧ Aside0 (wc.heap[ay]? = some (.cells #[.int .i64 aF, .int .i64 aG, (.slice an ag.length ao)] 39 (0, 0))) ∧ Aside0 (wc.heap[bb]? = some (.cells #[.int .i64 bQ, .int .i64 ct, (.slice aj a5.length ak)] 39 (0, 0))) ∧ Aside0 (IsS36 w wc am l0 aD aE) ∧ Aside0 (Below w.heap.size w wc))
 case first => as_aux_lemma => (
 have H := fy.out
 clear fy
 by_cases bh : e3 = 0
 rw [if_pos bh] at H
 have c3012b0 : (e3 == 0) = true := beq_iff_eq.mpr bh
 have c3012b1 : (e3 != 0) = false := bne_eq_false_iff_eq.mpr bh
 clear bh
 (first | rw [c3012b0] | (simp only [i64_w, i32_w]; rw [c3012b0]) | skip)
 by_cases bi : bQ = aF
 rw [if_pos bi] at H
 have c3013b0 : (bQ == aF) = true := beq_iff_eq.mpr bi
 have c3013b1 : (bQ != aF) = false := bne_eq_false_iff_eq.mpr bi
 clear bi
 by_cases bj : ct = aG
 rw [if_pos bj] at H
 have c3014b0 : (ct == aG) = true := beq_iff_eq.mpr bj
 have c3014b1 : (ct != aG) = false := bne_eq_false_iff_eq.mpr bj
 clear bj
 replace H := Option.bind_eq_some_iff.mp H
 obtain ⟨cq, A30150, H⟩ := H
 replace H : (laws_FnOneBit.j5 au l0 ah ai (!cq) l0 aD aE) = some r := H
 have A3015 := Aside0.mk A30150
 clear A30150
 have H' := Aside0.mk H
 clear H
 rotate_left
 rw [if_neg bj] at H
 have c3014b0 : (ct == aG) = false := beq_eq_false_iff_ne.mpr bj
 have c3014b1 : (ct != aG) = true := bne_iff_ne.mpr bj
 have H' := Aside0.mk H
 clear H
 rotate_left
 rw [if_neg bi] at H
 have c3013b0 : (bQ == aF) = false := beq_eq_false_iff_ne.mpr bi
 have c3013b1 : (bQ != aF) = true := bne_iff_ne.mpr bi
 have H' := Aside0.mk H
 clear H
 rotate_left
 rw [if_neg bh] at H
 have c3012b0 : (e3 == 0) = false := beq_eq_false_iff_ne.mpr bh
 have c3012b1 : (e3 != 0) = true := bne_iff_ne.mpr bh
 (first | rw [c3012b0] | (simp only [i64_w, i32_w]; rw [c3012b0]) | skip)
 have H' := Aside0.mk H
 clear H
 rotate_left
 iterate 3 (
 focus (
 have f7 := fj.out
 have f8 := dm.out
 have f9 := eQ.out
 have ga := ax.out
 obtain ⟨⟨da, db, dc⟩, dd, de, df⟩ := cells3 aM.out
 have fd := aW.out
 have fe := ab.out
 obtain ⟨⟨dg, dh, di⟩, dj, dk, dl⟩ := cells3 ac.out
 )
 rotate_left
 )
 rotate_right 3
 {
 go_wp2_with (first | (go_at_call 20; (with_reducible refine (laws_lwSame.calls _ _ a5 _ _ ag cq _ ?side1 ?side2 ?side3 ?side4 A3015.out).mono ?_); (case side1 => exact Ch dF); (case side2 => exact (Kd.R_reads' dF.out).2.1); (case side3 => exact Ch HO_428002); (case side4 => exact (Kd.R_reads' HO_428002.out).2.1); rintro e w' ⟨rfl, ⟨nd, rfl⟩⟩))
 all_goals (try (rename_i h_; exfalso; cases h_; done))
 all_goals (try (rename_i h_ h2_; exfalso; cases h_; done))
 go_meet
 case rel => exact ⟨_, (!cq), (by first | rfl | (simp; done) | (simp [*]; done)), H', ⟨by have := HJ5.out; have := HJ1019.out; first | omega | exact Nat.le_refl _⟩, ⟨Kd.R_mono (Rh HO_428002) (fun _ hk => hk.2)⟩, ⟨Kd.R_mono (Rh dF) (fun _ hk => hk.2)⟩, ⟨Bh ac⟩, ⟨Bh aM⟩, ⟨by repeat (first | (with_reducible first | exact aa.out | apply IsS36.alloc | apply IsS36.drewN | apply IsS36.drew | apply IsS36.set_1 | apply IsS36.set_2 | refine IsS36.far ?_ ab.out _ | refine IsS36.far ?_ ax.out _) | exact aa.out)⟩, ⟨by repeat (first | (with_reducible first | exact HB.out | apply below_alloc | apply pw_below_drewN | apply below_drew1 | refine below_set ?_ (IsS36.ge aa.out) | refine below_set ?_ av.out | refine below_set ?_ bK.out) | exact HB.out)⟩⟩
 }
 iterate 2 (
 focus (
 go_wp2
 all_goals (try (rename_i h_; exfalso; cases h_; done))
 all_goals (try (rename_i h_ h2_; exfalso; cases h_; done))
 go_meet
 case rel => exact ⟨_, (true), (by first | rfl | (simp; done) | (simp [*]; done)), H', ⟨by have := HJ5.out; have := HJ1019.out; first | omega | exact Nat.le_refl _⟩, ⟨Kd.R_mono (Rh HO_428002) (fun _ hk => hk.2)⟩, ⟨Kd.R_mono (Rh dF) (fun _ hk => hk.2)⟩, ⟨Bh ac⟩, ⟨Bh aM⟩, ⟨by repeat (first | (with_reducible first | exact aa.out | apply IsS36.alloc | apply IsS36.drewN | apply IsS36.drew | apply IsS36.set_1 | apply IsS36.set_2 | refine IsS36.far ?_ ab.out _ | refine IsS36.far ?_ ax.out _) | exact aa.out)⟩, ⟨by repeat (first | (with_reducible first | exact HB.out | apply below_alloc | apply pw_below_drewN | apply below_drew1 | refine below_set ?_ (IsS36.ge aa.out) | refine below_set ?_ av.out | refine below_set ?_ bK.out) | exact HB.out)⟩⟩
 )
 )
 {
 go_wp2
 all_goals (try (rename_i h_; exfalso; cases h_; done))
 all_goals (try (rename_i h_ h2_; exfalso; cases h_; done))
 go_meet
 case rel => exact ⟨_, (false), (by first | rfl | (simp; done) | (simp [*]; done)), H', ⟨by have := HJ5.out; have := HJ1019.out; first | omega | exact Nat.le_refl _⟩, ⟨Kd.R_mono (Rh HO_428002) (fun _ hk => hk.2)⟩, ⟨Kd.R_mono (Rh dF) (fun _ hk => hk.2)⟩, ⟨Bh ac⟩, ⟨Bh aM⟩, ⟨by repeat (first | (with_reducible first | exact aa.out | apply IsS36.alloc | apply IsS36.drewN | apply IsS36.drew | apply IsS36.set_1 | apply IsS36.set_2 | refine IsS36.far ?_ ab.out _ | refine IsS36.far ?_ ax.out _) | exact aa.out)⟩, ⟨by repeat (first | (with_reducible first | exact HB.out | apply below_alloc | apply pw_below_drewN | apply below_drew1 | refine below_set ?_ (IsS36.ge aa.out) | refine below_set ?_ av.out | refine below_set ?_ bK.out) | exact HB.out)⟩⟩
 }
 )
 case rest => (
 clear fy
 try clear c0
 try clear c2
 try clear c2b0
 try clear c2b1
 try clear p2
 try clear q2
 try clear hx2
 try clear hf2
 try clear p448
 try clear q448
 try clear hx448
 try clear p482
 try clear q482
 try clear hx482
 try clear p508
 try clear q508
 try clear hx508
 try clear bS
 try clear c1013b0
 try clear c1013b1
 try clear dI
 try clear dJ
 try clear c2004b0
 try clear c2004b1
 try clear eS
 try clear eT
 try clear c2008b0
 try clear eU
 try clear c2009b0
 try clear cB
 try clear c2010b0
 try clear c2010b1
 try clear bT
 try clear c2011b0
 try clear c2011b1
 try clear p2013
 try clear q2013
 try clear hx2013
 try clear hf2013
 try clear eD
 try clear c2014b0
 try clear eE
 try clear c2015b0
 try clear eu
 try clear c2017b0
 try clear c2017b1
 try clear p2019
 try clear q2019
 try clear hx2019
 try clear hf2019
 try clear bh
 try clear c3012b0
 try clear c3012b1
 try clear bi
 try clear c3013b0
 try clear c3013b1
 try clear bj
 try clear c3014b0
 try clear c3014b1
 try clear bW bX bY bZ b0 b1
 try clear b2 b3 b4 b5 b6 b7
 try clear b8 b9 ca cb cc cd
 try clear bB bC bD bE bF bG
 try clear cI cJ cK cL cM cN
 try clear cO cP cQ cR cS cT
 try clear ce cf cg ch ci cj
 try clear cV cW cX cY cZ c1
 try clear da db dc dd de df
 try clear dg dh di dj dk dl
 try clear dL dM dv dw dN dO dP dQ dR dS dT dU dV dW dx dy dX dY dZ d0 d1 d2 d3 d4
 try clear d5 d6 dz dA d7 d8 d9 ea eb ec ed ee ef eg dB dC eh ei ej ek el em en eo
 try clear hx2013_0
 try clear hx2019_0
 try clear hx4021_0
 try clear hx448_0
 try clear hx482_0
 try clear hx508_0
 try clear p2
 try clear p2013
 try clear p2019
 try clear p4021
 try clear p448
 try clear p482
 try clear p508
 try clear q2
 try clear q2013
 try clear q2019
 try clear q4021
 try clear q448
 try clear q482
 try clear q508
 obtain ⟨kq, eH, rfl, HA, HJ2014, HO_428002, HO_517002, ac, aM, aa, HB⟩ := hcut
 cases kq with
 | zero => exact absurd HA.out (by simp [laws_FnOneBit.j5])
 | succ bN => {
 have H := HA.out
 clear HA
 simp only [laws_FnOneBit.j5] at H
 by_cases dt : eH = true
 {
 subst dt
 have H1 : (some false) = some r := by rw [if_pos rfl] at H; exact H
 clear H
 have H := H1
 clear H1
 obtain rfl := Option.some.inj H
 go_wp2
 all_goals (try (rename_i h_; exfalso; cases h_; done))
 all_goals (try (rename_i h_ h2_; exfalso; cases h_; done))
 go_ret
 exact ⟨by first | rfl | (simp [errW_none, errW_some] <;> rfl) | (simp only [← hji2007, ← hji2010, ← hji2012]; first | rfl | (simp [errW_none, errW_some] <;> rfl)) | (simp [*, errW_none, errW_some] <;> rfl), by repeat (first | (with_reducible first | exact HB.out | apply below_alloc | apply pw_below_drewN | apply below_drew1 | refine below_set ?_ (IsS36.ge aa.out) | refine below_set ?_ av.out | refine below_set ?_ bK.out) | exact HB.out)⟩
 }
 {
 replace dt := Bool.eq_false_iff.mpr dt
 subst dt
 have H1 : ((spec_DrawSegmentLength.f bN l0).bind fun cE => ((impl_EncodeSegment.f bN cE.1 cE.2.1 cE.2.2.1 cE.2.2.2.1 cE.2.2.2.2.1 cE.2.2.2.2.2.1 cE.2.2.2.2.2.2.1 cE.2.2.2.2.2.2.2.1 cE.2.2.2.2.2.2.2.2.1 cE.2.2.2.2.2.2.2.2.2.1 cE.2.2.2.2.2.2.2.2.2.2.1 cE.2.2.2.2.2.2.2.2.2.2.2 ah ai).bind fun ez => (if ez.2 = 0 then (laws_FnOneBit.j6 bN ah ai ez.1 (decide ((ez.1.length : Int) < 20)) l0 aD aE) else (laws_FnOneBit.j6 bN ah ai ez.1 true l0 aD aE)))) = some r := by rw [if_neg (show ¬ (false = true) by decide)] at H; exact H
 clear H
 have H := H1
 clear H1
 replace H := Option.bind_eq_some_iff.mp H
 obtain ⟨⟨bp, br, bw, bA, bL, bR, cu, cA, cH, dG, cv, bm⟩, A30170, H⟩ := H
 replace H : ((impl_EncodeSegment.f bN bp br bw bA bL bR cu cA cH dG cv bm ah ai).bind fun ez => (if ez.2 = 0 then (laws_FnOneBit.j6 bN ah ai ez.1 (decide ((ez.1.length : Int) < 20)) l0 aD aE) else (laws_FnOneBit.j6 bN ah ai ez.1 true l0 aD aE))) = some r := H
 have A3017 := Aside0.mk A30170
 clear A30170
 replace H := Option.bind_eq_some_iff.mp H
 obtain ⟨⟨aK, e4⟩, A30180, H⟩ := H
 replace H : (if e4 = 0 then (laws_FnOneBit.j6 bN ah ai aK (decide ((aK.length : Int) < 20)) l0 aD aE) else (laws_FnOneBit.j6 bN ah ai aK true l0 aD aE)) = some r := H
 have A3018 := Aside0.mk A30180
 clear A30180
 have eB := Aside0.mk H
 clear H
 go_upto_region 20 with (first | ((with_reducible refine gate_callee (f := 21) rfl ?_); refine goesL_ (some 113) rfl rfl Try.func21 (by kernel_rfl) rfl #[.slice A0 l0.length c0] rfl wT ?_; (with_reducible refine (spec_DrawSegmentLength.calls bN _ _ l0 bp br bw bA bL bR cu cA cH dG cv bm _ ?side1 ?side2 A3017.out).mono ?_); (case side1 => exact Kd.C_below HR0.out wB); (case side2 => exact fW.out); rintro e gv ⟨hF, hG, rfl, aI, cp, hb⟩; refine ⟨_, rfl, ?_⟩; have uB := below_pre (n := w.heap.size) (w := w) hb (by repeat (first | (with_reducible first | exact HB.out | apply below_alloc | apply pw_below_drewN | apply below_drew1 | refine below_set ?_ (IsS36.ge aa.out) | refine below_set ?_ av.out | refine below_set ?_ bK.out) | exact HB.out)); have cF := Aside0.mk (Kd.R_lower aI (below_size uB)); have cy := Aside0.mk (Kd.R_lower (Kd.R_new' (Kd.R_new' cp (Kd.R_lt (Rh HO_428002))) (Kd.R_lt (Rh HO_517002))) (below_size uB)); replace HO_428002 := Aside0.mk (Kd.R_elder' (Rh HO_428002) (Kd.R_base cp) hb); replace HO_517002 := Aside0.mk (Kd.R_elder' (Rh HO_517002) (Kd.R_base cp) hb); replace ac := Aside0.mk (blk_below (Bh ac) hb); replace aM := Aside0.mk (blk_below (Bh aM) hb); replace HB := Aside0.mk (below_step uB hb); replace aa := Aside0.mk (IsS36.below (by repeat (first | (with_reducible first | exact aa.out | apply IsS36.alloc | apply IsS36.drewN | apply IsS36.drew | apply IsS36.set_1 | apply IsS36.set_2 | refine IsS36.far ?_ ab.out _ | refine IsS36.far ?_ ax.out _) | exact aa.out)) hb); clear uB; (try clear hb); (try clear hb2); (try clear hk); (try clear hi); (try clear aI); (try clear cp)) | ((with_reducible refine gate_dst (N := 13) rfl ?_); (try (refine gate_guard (by rfl) ?_; dsimp only)); refine box_event ?hg (N := 13) ?hd (cs := #[.int .i64 0, .int .i64 0, .int .i64 0, .int .i64 0, .int .i64 0, .int .i64 0, .int .i64 0, .bool false, .int .i64 0, .bool false, .slice none 0 0, .slice none 0 0]) (t := 25) ?hr ?_; (case hd => rfl); (case hg => rfl); (case hr => first | (go_simp; done) | (go_simp; rfl)); intro ae hg fG hbox hb; have uB := below_pre (n := w.heap.size) (w := w) hb (by repeat (first | (with_reducible first | exact HB.out | apply below_alloc | apply pw_below_drewN | apply below_drew1 | refine below_set ?_ (IsS36.ge aa.out) | refine below_set ?_ av.out | refine below_set ?_ bK.out) | exact HB.out)); replace HO_428002 := Aside0.mk (Kd.R_below (Rh HO_428002) hb); replace HO_517002 := Aside0.mk (Kd.R_below (Rh HO_517002) hb); replace cF := Aside0.mk (Kd.R_below (Rh cF) hb); replace cy := Aside0.mk (Kd.R_below (Rh cy) hb); have bc := Aside0.mk (hbox); have gA := Aside0.mk ((by rw [hg]; exact (below_size uB) : w.heap.size ≤ ae)); replace HB := Aside0.mk (below_step uB hb); have eI := gA; have a0 := Aside0.mk ((by rw [hg]; exact Nat.ne_of_lt (blk_lt (Bh ac)) : ay ≠ ae)); replace ac := Aside0.mk (blk_below (Bh ac) hb); have fS := Aside0.mk a0.out.symm; have a1 := Aside0.mk ((by rw [hg]; exact Nat.ne_of_lt (blk_lt (Bh aM)) : bb ≠ ae)); replace aM := Aside0.mk (blk_below (Bh aM) hb); have fT := Aside0.mk a1.out.symm; have a2 := Aside0.mk ((by rw [hg]; exact Nat.ne_of_lt (IsS36.lt (show IsS36 w _ am l0 aD aE from by repeat (first | (with_reducible first | exact aa.out | apply IsS36.alloc | apply IsS36.drewN | apply IsS36.drew | apply IsS36.set_1 | apply IsS36.set_2 | refine IsS36.far ?_ ab.out _ | refine IsS36.far ?_ ax.out _) | exact aa.out))) : am ≠ ae)); replace aa := Aside0.mk (IsS36.below (by repeat (first | (with_reducible first | exact aa.out | apply IsS36.alloc | apply IsS36.drewN | apply IsS36.drew | apply IsS36.set_1 | apply IsS36.set_2 | refine IsS36.far ?_ ab.out _ | refine IsS36.far ?_ ax.out _) | exact aa.out)) hb); have fk := Aside0.mk a2.out.symm; clear uB; clear hb hbox hg; have gb := fS.out; have gc := a0.out; have fd := fT.out; have fe := a1.out; have gf := fk.out; have gg := a2.out; obtain ⟨⟨dL, dM, dN, dO, dP, dQ, dR, dS, dT, dU, dv, dw⟩, dV, dW, dX, dY, dZ, d0, d1, d2, d3, d4, dx, dy⟩ := cells12 bc.out; obtain ⟨aR, aS, fu⟩ := Kd.R_slice cF.out; subst fu; obtain ⟨ap, aq, fv⟩ := Kd.R_slice cy.out; subst fv) | ((with_reducible refine gate_store (t := 25) (p := 13) rfl ?_); refine store_event (t := 25) (p := 13) (v := ?_) (w1 := ((((((((((((fG.setCell ⟨ae, 0, none⟩ (.int .i64 bp)).setCell ⟨ae, 1, none⟩ (.int .i64 br)).setCell ⟨ae, 2, none⟩ (.int .i64 bw)).setCell ⟨ae, 3, none⟩ (.int .i64 bA)).setCell ⟨ae, 4, none⟩ (.int .i64 bL)).setCell ⟨ae, 5, none⟩ (.int .i64 bR)).setCell ⟨ae, 6, none⟩ (.int .i64 cu)).setCell ⟨ae, 7, none⟩ (.bool cA)).setCell ⟨ae, 8, none⟩ (.int .i64 cH)).setCell ⟨ae, 9, none⟩ (.bool dG)).setCell ⟨ae, 10, none⟩ (.slice aR cv.length aS)).setCell ⟨ae, 11, none⟩ (.slice ap bm.length aq))) ?hg ?ho ?hn ?hr ?_; (case ho => rfl); (case hg => rfl); (case hn => rfl); (case hr => first | (go_simp; done) | (go_simp; rfl)); intro bl hw; have n0_ : Aside0 (Kd.R (Kd.int .u8) 5 bl w.heap.size (fun k_ => some k_ ≠ (.slice aj a5.length ak : Value).ownBlock ∧ some k_ ≠ (.slice ap bm.length aq : Value).ownBlock) (.slice an ag.length ao) ag) := ⟨(by rw [hw]; exact (by (with_reducible repeat (first | apply Kd.R_alloc | apply Kd.R_drewN | apply Kd.R_drew)); exact Kd.R_mono (Kd.R_far (p := ⟨ae, 11, none⟩) (Kd.R_far (p := ⟨ae, 10, none⟩) (Kd.R_far (p := ⟨ae, 9, none⟩) (Kd.R_far (p := ⟨ae, 8, none⟩) (Kd.R_far (p := ⟨ae, 7, none⟩) (Kd.R_far (p := ⟨ae, 6, none⟩) (Kd.R_far (p := ⟨ae, 5, none⟩) (Kd.R_far (p := ⟨ae, 4, none⟩) (Kd.R_far (p := ⟨ae, 3, none⟩) (Kd.R_far (p := ⟨ae, 2, none⟩) (Kd.R_far (p := ⟨ae, 1, none⟩) (Kd.R_far (p := ⟨ae, 0, none⟩) (Kd.R_types HO_428002.out bc.out (by decide)) (fun _ hk => hk.2) (.int .i64 bp)) (fun _ hk => hk.2) (.int .i64 br)) (fun _ hk => hk.2) (.int .i64 bw)) (fun _ hk => hk.2) (.int .i64 bA)) (fun _ hk => hk.2) (.int .i64 bL)) (fun _ hk => hk.2) (.int .i64 bR)) (fun _ hk => hk.2) (.int .i64 cu)) (fun _ hk => hk.2) (.bool cA)) (fun _ hk => hk.2) (.int .i64 cH)) (fun _ hk => hk.2) (.bool dG)) (fun _ hk => hk.2) (.slice aR cv.length aS)) (fun _ hk => hk.2) (.slice ap bm.length aq)) (fun _ hk => ⟨hk.1.1, hk.1.2⟩)))⟩; have n1_ : Aside0 (Kd.R (Kd.int .u8) 5 bl w.heap.size (fun k_ => some k_ ≠ (.slice an ag.length ao : Value).ownBlock ∧ some k_ ≠ (.slice ap bm.length aq : Value).ownBlock) (.slice aj a5.length ak) a5) := ⟨(by rw [hw]; exact (by (with_reducible repeat (first | apply Kd.R_alloc | apply Kd.R_drewN | apply Kd.R_drew)); exact Kd.R_mono (Kd.R_far (p := ⟨ae, 11, none⟩) (Kd.R_far (p := ⟨ae, 10, none⟩) (Kd.R_far (p := ⟨ae, 9, none⟩) (Kd.R_far (p := ⟨ae, 8, none⟩) (Kd.R_far (p := ⟨ae, 7, none⟩) (Kd.R_far (p := ⟨ae, 6, none⟩) (Kd.R_far (p := ⟨ae, 5, none⟩) (Kd.R_far (p := ⟨ae, 4, none⟩) (Kd.R_far (p := ⟨ae, 3, none⟩) (Kd.R_far (p := ⟨ae, 2, none⟩) (Kd.R_far (p := ⟨ae, 1, none⟩) (Kd.R_far (p := ⟨ae, 0, none⟩) (Kd.R_types HO_517002.out bc.out (by decide)) (fun _ hk => hk.2) (.int .i64 bp)) (fun _ hk => hk.2) (.int .i64 br)) (fun _ hk => hk.2) (.int .i64 bw)) (fun _ hk => hk.2) (.int .i64 bA)) (fun _ hk => hk.2) (.int .i64 bL)) (fun _ hk => hk.2) (.int .i64 bR)) (fun _ hk => hk.2) (.int .i64 cu)) (fun _ hk => hk.2) (.bool cA)) (fun _ hk => hk.2) (.int .i64 cH)) (fun _ hk => hk.2) (.bool dG)) (fun _ hk => hk.2) (.slice aR cv.length aS)) (fun _ hk => hk.2) (.slice ap bm.length aq)) (fun _ hk => ⟨hk.1.1, hk.1.2⟩)))⟩; have n2_ : Aside0 (Kd.R k60 60 bl w.heap.size (fun _ => True) (.slice aR cv.length aS) cv) := ⟨(by rw [hw]; exact (by (with_reducible repeat (first | apply Kd.R_alloc | apply Kd.R_drewN | apply Kd.R_drew)); exact Kd.R_mono (Kd.R_far (p := ⟨ae, 11, none⟩) (Kd.R_far (p := ⟨ae, 10, none⟩) (Kd.R_far (p := ⟨ae, 9, none⟩) (Kd.R_far (p := ⟨ae, 8, none⟩) (Kd.R_far (p := ⟨ae, 7, none⟩) (Kd.R_far (p := ⟨ae, 6, none⟩) (Kd.R_far (p := ⟨ae, 5, none⟩) (Kd.R_far (p := ⟨ae, 4, none⟩) (Kd.R_far (p := ⟨ae, 3, none⟩) (Kd.R_far (p := ⟨ae, 2, none⟩) (Kd.R_far (p := ⟨ae, 1, none⟩) (Kd.R_far (p := ⟨ae, 0, none⟩) (Kd.R_types cF.out bc.out (by decide)) (fun _ hk => hk.2) (.int .i64 bp)) (fun _ hk => hk.2) (.int .i64 br)) (fun _ hk => hk.2) (.int .i64 bw)) (fun _ hk => hk.2) (.int .i64 bA)) (fun _ hk => hk.2) (.int .i64 bL)) (fun _ hk => hk.2) (.int .i64 bR)) (fun _ hk => hk.2) (.int .i64 cu)) (fun _ hk => hk.2) (.bool cA)) (fun _ hk => hk.2) (.int .i64 cH)) (fun _ hk => hk.2) (.bool dG)) (fun _ hk => hk.2) (.slice aR cv.length aS)) (fun _ hk => hk.2) (.slice ap bm.length aq)) (fun _ hk => trivial)))⟩; have n3_ : Aside0 (Kd.R (Kd.int .u8) 5 bl w.heap.size (fun k_ => some k_ ≠ (.slice an ag.length ao : Value).ownBlock ∧ some k_ ≠ (.slice aj a5.length ak : Value).ownBlock) (.slice ap bm.length aq) bm) := ⟨(by rw [hw]; exact (by (with_reducible repeat (first | apply Kd.R_alloc | apply Kd.R_drewN | apply Kd.R_drew)); exact Kd.R_mono (Kd.R_far (p := ⟨ae, 11, none⟩) (Kd.R_far (p := ⟨ae, 10, none⟩) (Kd.R_far (p := ⟨ae, 9, none⟩) (Kd.R_far (p := ⟨ae, 8, none⟩) (Kd.R_far (p := ⟨ae, 7, none⟩) (Kd.R_far (p := ⟨ae, 6, none⟩) (Kd.R_far (p := ⟨ae, 5, none⟩) (Kd.R_far (p := ⟨ae, 4, none⟩) (Kd.R_far (p := ⟨ae, 3, none⟩) (Kd.R_far (p := ⟨ae, 2, none⟩) (Kd.R_far (p := ⟨ae, 1, none⟩) (Kd.R_far (p := ⟨ae, 0, none⟩) (Kd.R_types cy.out bc.out (by decide)) (fun _ hk => hk.2) (.int .i64 bp)) (fun _ hk => hk.2) (.int .i64 br)) (fun _ hk => hk.2) (.int .i64 bw)) (fun _ hk => hk.2) (.int .i64 bA)) (fun _ hk => hk.2) (.int .i64 bL)) (fun _ hk => hk.2) (.int .i64 bR)) (fun _ hk => hk.2) (.int .i64 cu)) (fun _ hk => hk.2) (.bool cA)) (fun _ hk => hk.2) (.int .i64 cH)) (fun _ hk => hk.2) (.bool dG)) (fun _ hk => hk.2) (.slice aR cv.length aS)) (fun _ hk => hk.2) (.slice ap bm.length aq)) (fun _ hk => ⟨hk.1.1.2, hk.1.2⟩)))⟩; have n4_ : Aside0 (bl.heap[ay]? = some (.cells #[.int .i64 aF, .int .i64 aG, .slice an ag.length ao] 39 (0, 0))) := ⟨(by rw [hw]; exact (by (with_reducible repeat (first | refine blk_drewN ?_ _ | refine blk_drew ?_ | refine blk_alloc ?_ _)); refine blk_far ?_ a0.out _; (with_reducible repeat (first | refine blk_drewN ?_ _ | refine blk_drew ?_ | refine blk_alloc ?_ _)); refine blk_far ?_ a0.out _; (with_reducible repeat (first | refine blk_drewN ?_ _ | refine blk_drew ?_ | refine blk_alloc ?_ _)); refine blk_far ?_ a0.out _; (with_reducible repeat (first | refine blk_drewN ?_ _ | refine blk_drew ?_ | refine blk_alloc ?_ _)); refine blk_far ?_ a0.out _; (with_reducible repeat (first | refine blk_drewN ?_ _ | refine blk_drew ?_ | refine blk_alloc ?_ _)); refine blk_far ?_ a0.out _; (with_reducible repeat (first | refine blk_drewN ?_ _ | refine blk_drew ?_ | refine blk_alloc ?_ _)); refine blk_far ?_ a0.out _; (with_reducible repeat (first | refine blk_drewN ?_ _ | refine blk_drew ?_ | refine blk_alloc ?_ _)); refine blk_far ?_ a0.out _; (with_reducible repeat (first | refine blk_drewN ?_ _ | refine blk_drew ?_ | refine blk_alloc ?_ _)); refine blk_far ?_ a0.out _; (with_reducible repeat (first | refine blk_drewN ?_ _ | refine blk_drew ?_ | refine blk_alloc ?_ _)); refine blk_far ?_ a0.out _; (with_reducible repeat (first | refine blk_drewN ?_ _ | refine blk_drew ?_ | refine blk_alloc ?_ _)); refine blk_far ?_ a0.out _; (with_reducible repeat (first | refine blk_drewN ?_ _ | refine blk_drew ?_ | refine blk_alloc ?_ _)); refine blk_far ?_ a0.out _; (with_reducible repeat (first | refine blk_drewN ?_ _ | refine blk_drew ?_ | refine blk_alloc ?_ _)); refine blk_far ?_ a0.out _; (with_reducible repeat (first | refine blk_drewN ?_ _ | refine blk_drew ?_ | refine blk_alloc ?_ _)); exact ac.out))⟩; have n5_ : Aside0 (bl.heap[bb]? = some (.cells #[.int .i64 bQ, .int .i64 ct, .slice aj a5.length ak] 39 (0, 0))) := ⟨(by rw [hw]; exact (by (with_reducible repeat (first | refine blk_drewN ?_ _ | refine blk_drew ?_ | refine blk_alloc ?_ _)); refine blk_far ?_ a1.out _; (with_reducible repeat (first | refine blk_drewN ?_ _ | refine blk_drew ?_ | refine blk_alloc ?_ _)); refine blk_far ?_ a1.out _; (with_reducible repeat (first | refine blk_drewN ?_ _ | refine blk_drew ?_ | refine blk_alloc ?_ _)); refine blk_far ?_ a1.out _; (with_reducible repeat (first | refine blk_drewN ?_ _ | refine blk_drew ?_ | refine blk_alloc ?_ _)); refine blk_far ?_ a1.out _; (with_reducible repeat (first | refine blk_drewN ?_ _ | refine blk_drew ?_ | refine blk_alloc ?_ _)); refine blk_far ?_ a1.out _; (with_reducible repeat (first | refine blk_drewN ?_ _ | refine blk_drew ?_ | refine blk_alloc ?_ _)); refine blk_far ?_ a1.out _; (with_reducible repeat (first | refine blk_drewN ?_ _ | refine blk_drew ?_ | refine blk_alloc ?_ _)); refine blk_far ?_ a1.out _; (with_reducible repeat (first | refine blk_drewN ?_ _ | refine blk_drew ?_ | refine blk_alloc ?_ _)); refine blk_far ?_ a1.out _; (with_reducible repeat (first | refine blk_drewN ?_ _ | refine blk_drew ?_ | refine blk_alloc ?_ _)); refine blk_far ?_ a1.out _; (with_reducible repeat (first | refine blk_drewN ?_ _ | refine blk_drew ?_ | refine blk_alloc ?_ _)); refine blk_far ?_ a1.out _; (with_reducible repeat (first | refine blk_drewN ?_ _ | refine blk_drew ?_ | refine blk_alloc ?_ _)); refine blk_far ?_ a1.out _; (with_reducible repeat (first | refine blk_drewN ?_ _ | refine blk_drew ?_ | refine blk_alloc ?_ _)); refine blk_far ?_ a1.out _; (with_reducible repeat (first | refine blk_drewN ?_ _ | refine blk_drew ?_ | refine blk_alloc ?_ _)); exact aM.out))⟩; have n6_ : Aside0 (bl.heap[ae]? = some (.cells #[.int .i64 bp, .int .i64 br, .int .i64 bw, .int .i64 bA, .int .i64 bL, .int .i64 bR, .int .i64 cu, .bool cA, .int .i64 cH, .bool dG, .slice aR cv.length aS, .slice ap bm.length aq] 25 (0, 0))) := ⟨(by rw [hw]; exact (by (with_reducible repeat (first | refine blk_drewN ?_ _ | refine blk_drew ?_ | refine blk_alloc ?_ _)); refine blk_put (cs := #[.int .i64 bp, .int .i64 br, .int .i64 bw, .int .i64 bA, .int .i64 bL, .int .i64 bR, .int .i64 cu, .bool cA, .int .i64 cH, .bool dG, .slice aR cv.length aS, .slice none 0 0]) ?_ 11 _ rfl; (with_reducible repeat (first | refine blk_drewN ?_ _ | refine blk_drew ?_ | refine blk_alloc ?_ _)); refine blk_put (cs := #[.int .i64 bp, .int .i64 br, .int .i64 bw, .int .i64 bA, .int .i64 bL, .int .i64 bR, .int .i64 cu, .bool cA, .int .i64 cH, .bool dG, .slice none 0 0, .slice none 0 0]) ?_ 10 _ rfl; (with_reducible repeat (first | refine blk_drewN ?_ _ | refine blk_drew ?_ | refine blk_alloc ?_ _)); refine blk_put (cs := #[.int .i64 bp, .int .i64 br, .int .i64 bw, .int .i64 bA, .int .i64 bL, .int .i64 bR, .int .i64 cu, .bool cA, .int .i64 cH, .bool false, .slice none 0 0, .slice none 0 0]) ?_ 9 _ rfl; (with_reducible repeat (first | refine blk_drewN ?_ _ | refine blk_drew ?_ | refine blk_alloc ?_ _)); refine blk_put (cs := #[.int .i64 bp, .int .i64 br, .int .i64 bw, .int .i64 bA, .int .i64 bL, .int .i64 bR, .int .i64 cu, .bool cA, .int .i64 0, .bool false, .slice none 0 0, .slice none 0 0]) ?_ 8 _ rfl; (with_reducible repeat (first | refine blk_drewN ?_ _ | refine blk_drew ?_ | refine blk_alloc ?_ _)); refine blk_put (cs := #[.int .i64 bp, .int .i64 br, .int .i64 bw, .int .i64 bA, .int .i64 bL, .int .i64 bR, .int .i64 cu, .bool false, .int .i64 0, .bool false, .slice none 0 0, .slice none 0 0]) ?_ 7 _ rfl; (with_reducible repeat (first | refine blk_drewN ?_ _ | refine blk_drew ?_ | refine blk_alloc ?_ _)); refine blk_put (cs := #[.int .i64 bp, .int .i64 br, .int .i64 bw, .int .i64 bA, .int .i64 bL, .int .i64 bR, .int .i64 0, .bool false, .int .i64 0, .bool false, .slice none 0 0, .slice none 0 0]) ?_ 6 _ rfl; (with_reducible repeat (first | refine blk_drewN ?_ _ | refine blk_drew ?_ | refine blk_alloc ?_ _)); refine blk_put (cs := #[.int .i64 bp, .int .i64 br, .int .i64 bw, .int .i64 bA, .int .i64 bL, .int .i64 0, .int .i64 0, .bool false, .int .i64 0, .bool false, .slice none 0 0, .slice none 0 0]) ?_ 5 _ rfl; (with_reducible repeat (first | refine blk_drewN ?_ _ | refine blk_drew ?_ | refine blk_alloc ?_ _)); refine blk_put (cs := #[.int .i64 bp, .int .i64 br, .int .i64 bw, .int .i64 bA, .int .i64 0, .int .i64 0, .int .i64 0, .bool false, .int .i64 0, .bool false, .slice none 0 0, .slice none 0 0]) ?_ 4 _ rfl; (with_reducible repeat (first | refine blk_drewN ?_ _ | refine blk_drew ?_ | refine blk_alloc ?_ _)); refine blk_put (cs := #[.int .i64 bp, .int .i64 br, .int .i64 bw, .int .i64 0, .int .i64 0, .int .i64 0, .int .i64 0, .bool false, .int .i64 0, .bool false, .slice none 0 0, .slice none 0 0]) ?_ 3 _ rfl; (with_reducible repeat (first | refine blk_drewN ?_ _ | refine blk_drew ?_ | refine blk_alloc ?_ _)); refine blk_put (cs := #[.int .i64 bp, .int .i64 br, .int .i64 0, .int .i64 0, .int .i64 0, .int .i64 0, .int .i64 0, .bool false, .int .i64 0, .bool false, .slice none 0 0, .slice none 0 0]) ?_ 2 _ rfl; (with_reducible repeat (first | refine blk_drewN ?_ _ | refine blk_drew ?_ | refine blk_alloc ?_ _)); refine blk_put (cs := #[.int .i64 bp, .int .i64 0, .int .i64 0, .int .i64 0, .int .i64 0, .int .i64 0, .int .i64 0, .bool false, .int .i64 0, .bool false, .slice none 0 0, .slice none 0 0]) ?_ 1 _ rfl; (with_reducible repeat (first | refine blk_drewN ?_ _ | refine blk_drew ?_ | refine blk_alloc ?_ _)); refine blk_put (cs := #[.int .i64 0, .int .i64 0, .int .i64 0, .int .i64 0, .int .i64 0, .int .i64 0, .int .i64 0, .bool false, .int .i64 0, .bool false, .slice none 0 0, .slice none 0 0]) ?_ 0 _ rfl; (with_reducible repeat (first | refine blk_drewN ?_ _ | refine blk_drew ?_ | refine blk_alloc ?_ _)); exact bc.out))⟩; have n7_ : Aside0 (IsS36 w bl am l0 aD aE) := ⟨(by rw [hw]; exact (by repeat (first | (with_reducible first | exact aa.out | apply IsS36.alloc | apply IsS36.drewN | apply IsS36.drew | apply IsS36.set_1 | apply IsS36.set_2 | refine IsS36.far ?_ ab.out _ | refine IsS36.far ?_ ax.out _ | refine IsS36.far ?_ a2.out _) | exact aa.out)))⟩; have n8_ : Aside0 (Below w.heap.size w bl) := ⟨(by rw [hw]; exact (by repeat (first | (with_reducible first | exact HB.out | apply below_alloc | apply pw_below_drewN | apply below_drew1 | refine below_set ?_ (IsS36.ge aa.out) | refine below_set ?_ av.out | refine below_set ?_ bK.out | refine below_set ?_ eI.out) | exact HB.out)))⟩; clear hw; clear HO_428002; clear HO_517002; clear cF; clear cy; clear ac; clear aM; clear bc; clear aa; clear HB; have HO_428002 := n0_; have HO_517002 := n1_; have cF := n2_; have cy := n3_; have ac := n4_; have aM := n5_; have bc := n6_; have aa := n7_; have HB := n8_; clear n0_ n1_ n2_ n3_ n4_ n5_ n6_ n7_ n8_; obtain ⟨⟨d5, d6, d7, d8, d9, ea, eb, ec, ed, ee, dz, dA⟩, ef, eg, eh, ei, ej, ek, el, em, en, eo, dB, dC⟩ := cells12 bc.out) | ((with_reducible refine gate_callee (f := 22) rfl ?_); refine goesL_ (some 118) rfl rfl Try.func22 (by kernel_rfl) rfl #[.agg #[.int .i64 bp, .int .i64 br, .int .i64 bw, .int .i64 bA, .int .i64 bL, .int .i64 bR, .int .i64 cu, .bool cA, .int .i64 cH, .bool dG, .slice aR cv.length aS, .slice ap bm.length aq], .int .i64 ah, .int .i64 ai] rfl wT ?_; (with_reducible refine (impl_EncodeSegment.calls bN bp br bw bA bL bR cu cA cH dG _ _ cv _ _ bm ah ai aK e4 _ ?side1 ?side2 ?side3 ?side4 A3018.out).mono ?_); (case side1 => exact Ch cF); (case side2 => exact (Kd.R_reads' cF.out).2.1); (case side3 => exact Ch cy); (case side4 => exact (Kd.R_reads' cy.out).2.1); rintro e gx ⟨fK, rfl, aI, hb⟩; refine ⟨_, rfl, ?_⟩; have uB := below_pre (n := w.heap.size) (w := w) hb (by repeat (first | (with_reducible first | exact HB.out | apply below_alloc | apply pw_below_drewN | apply below_drew1 | refine below_set ?_ (IsS36.ge aa.out) | refine below_set ?_ av.out | refine below_set ?_ bK.out | refine below_set ?_ eI.out) | exact HB.out)); replace cF := Aside0.mk (Kd.R_below (Rh cF) hb); have fL := Aside0.mk (Kd.R_lower (Kd.R_new' (Kd.R_new' (Kd.R_new' aI (Kd.R_lt (Rh HO_428002))) (Kd.R_lt (Rh HO_517002))) (Kd.R_lt (Rh cy))) (below_size uB)); replace HO_428002 := Aside0.mk (Kd.R_elder' (Rh HO_428002) (Kd.R_base aI) hb); replace HO_517002 := Aside0.mk (Kd.R_elder' (Rh HO_517002) (Kd.R_base aI) hb); replace cy := Aside0.mk (Kd.R_elder' (Rh cy) (Kd.R_base aI) hb); replace ac := Aside0.mk (blk_below (Bh ac) hb); replace aM := Aside0.mk (blk_below (Bh aM) hb); replace bc := Aside0.mk (blk_below (Bh bc) hb); replace HB := Aside0.mk (below_step uB hb); replace aa := Aside0.mk (IsS36.below (by repeat (first | (with_reducible first | exact aa.out | apply IsS36.alloc | apply IsS36.drewN | apply IsS36.drew | apply IsS36.set_1 | apply IsS36.set_2 | refine IsS36.far ?_ ab.out _ | refine IsS36.far ?_ ax.out _ | refine IsS36.far ?_ a2.out _) | exact aa.out)) hb); clear uB; (try clear hb); (try clear hb2); (try clear hk); (try clear hi); (try clear aI)))
 (try simp only [Act.put, List.setIfInBounds_toArray, List.set_cons_zero, List.set_cons_succ])
 go_cut [127] (fun fV wc => ∃ (kq : Nat) (bs : Bool), fV = .bool bs ∧ Aside0 (laws_FnOneBit.j6 kq ah ai aK bs l0 aD aE = some r) ∧ Aside0 (kq ≤ bN) ∧ Aside0 (Kd.R (Kd.int .u8) 5 wc w.heap.size (fun k_ => some k_ ≠ ((.slice an ag.length ao) : Value).ownBlock ∧ some k_ ≠ ((.slice aj a5.length ak) : Value).ownBlock ∧ some k_ ≠ ((.slice ap bm.length aq) : Value).ownBlock) fK aK) ∧ Aside0 (Kd.R (Kd.int .u8) 5 wc w.heap.size (fun k_ => some k_ ≠ (fK : Value).ownBlock ∧ some k_ ≠ ((.slice aj a5.length ak) : Value).ownBlock ∧ some k_ ≠ ((.slice ap bm.length aq) : Value).ownBlock) (.slice an ag.length ao) ag) ∧ Aside0 (Kd.R (Kd.int .u8) 5 wc w.heap.size (fun k_ => some k_ ≠ (fK : Value).ownBlock ∧ some k_ ≠ ((.slice an ag.length ao) : Value).ownBlock ∧ some k_ ≠ ((.slice ap bm.length aq) : Value).ownBlock) (.slice aj a5.length ak) a5) ∧ Aside0 (Kd.R k60 60 wc w.heap.size (fun _ => True) (.slice aR cv.length aS) cv) ∧ Aside0 (Kd.R (Kd.int .u8) 5 wc w.heap.size (fun k_ => some k_ ≠ (fK : Value).ownBlock ∧ some k_ ≠ ((.slice an ag.length ao) : Value).ownBlock ∧ some k_ ≠ ((.slice aj a5.length ak) : Value).ownBlock) (.slice ap bm.length aq) bm) ∧ Aside0 (wc.heap[ay]? = some (.cells #[.int .i64 aF, .int .i64 aG, (.slice an ag.length ao)] 39 (0, 0))) ∧ Aside0 (wc.heap[bb]? = some (.cells #[.int .i64 bQ, .int .i64 ct, (.slice aj a5.length ak)] 39 (0, 0))) ∧ Aside0 (wc.heap[ae]? = some (.cells #[.int .i64 bp, .int .i64 br, .int .i64 bw, .int .i64 bA, .int .i64 bL, .int .i64 bR, .int .i64 cu, .bool cA, .int .i64 cH, .bool dG, (.slice aR cv.length aS), (.slice ap bm.length aq)] 25 (0, 0))) ∧ Aside0 (IsS36 w wc am l0 aD aE) ∧ Aside0 (Below w.heap.size w wc))
 case first => as_aux_lemma => (
 have H := eB.out
 clear eB
 by_cases bu : e4 = 0
 {
 rw [if_pos bu] at H
 have c4012b0 : (e4 == 0) = true := beq_iff_eq.mpr bu
 have c4012b1 : (e4 != 0) = false := bne_eq_false_iff_eq.mpr bu
 clear bu
 (first | rw [c4012b0] | (simp only [i64_w, i32_w]; rw [c4012b0]) | skip)
 have H' := Aside0.mk H
 clear H
 obtain ⟨fw, a3, eC⟩ := Kd.R_slice fL.out
 subst eC
 go_wp2
 all_goals (try (rename_i h_; exfalso; cases h_; done))
 all_goals (try (rename_i h_ h2_; exfalso; cases h_; done))
 go_meet
 case rel => exact ⟨_, (decide ((aK.length : Int) < 20)), (by first | rfl | (simp; done) | (simp [*]; done)), H', ⟨by have := HJ5.out; have := HJ1019.out; have := HJ2014.out; first | omega | exact Nat.le_refl _⟩, ⟨Kd.R_mono (Rh fL) (fun _ hk => ⟨hk.1.1.2, ⟨hk.1.2, hk.2⟩⟩)⟩, ⟨Kd.R_mono (Rh HO_428002) (fun _ hk => ⟨hk.2, ⟨hk.1.1, hk.1.2⟩⟩)⟩, ⟨Kd.R_mono (Rh HO_517002) (fun _ hk => ⟨hk.2, ⟨hk.1.1, hk.1.2⟩⟩)⟩, ⟨Rh cF⟩, ⟨Kd.R_mono (Rh cy) (fun _ hk => ⟨hk.2, ⟨hk.1.1, hk.1.2⟩⟩)⟩, ⟨Bh ac⟩, ⟨Bh aM⟩, ⟨Bh bc⟩, ⟨by repeat (first | (with_reducible first | exact aa.out | apply IsS36.alloc | apply IsS36.drewN | apply IsS36.drew | apply IsS36.set_1 | apply IsS36.set_2 | refine IsS36.far ?_ ab.out _ | refine IsS36.far ?_ ax.out _ | refine IsS36.far ?_ a2.out _) | exact aa.out)⟩, ⟨by repeat (first | (with_reducible first | exact HB.out | apply below_alloc | apply pw_below_drewN | apply below_drew1 | refine below_set ?_ (IsS36.ge aa.out) | refine below_set ?_ av.out | refine below_set ?_ bK.out | refine below_set ?_ eI.out) | exact HB.out)⟩⟩
 }
 {
 rw [if_neg bu] at H
 have c4012b0 : (e4 == 0) = false := beq_eq_false_iff_ne.mpr bu
 have c4012b1 : (e4 != 0) = true := bne_iff_ne.mpr bu
 (first | rw [c4012b0] | (simp only [i64_w, i32_w]; rw [c4012b0]) | skip)
 have H' := Aside0.mk H
 clear H
 go_wp2
 all_goals (try (rename_i h_; exfalso; cases h_; done))
 all_goals (try (rename_i h_ h2_; exfalso; cases h_; done))
 go_meet
 case rel => exact ⟨_, (true), (by first | rfl | (simp; done) | (simp [*]; done)), H', ⟨by have := HJ5.out; have := HJ1019.out; have := HJ2014.out; first | omega | exact Nat.le_refl _⟩, ⟨Kd.R_mono (Rh fL) (fun _ hk => ⟨hk.1.1.2, ⟨hk.1.2, hk.2⟩⟩)⟩, ⟨Kd.R_mono (Rh HO_428002) (fun _ hk => ⟨hk.2, ⟨hk.1.1, hk.1.2⟩⟩)⟩, ⟨Kd.R_mono (Rh HO_517002) (fun _ hk => ⟨hk.2, ⟨hk.1.1, hk.1.2⟩⟩)⟩, ⟨Rh cF⟩, ⟨Kd.R_mono (Rh cy) (fun _ hk => ⟨hk.2, ⟨hk.1.1, hk.1.2⟩⟩)⟩, ⟨Bh ac⟩, ⟨Bh aM⟩, ⟨Bh bc⟩, ⟨by repeat (first | (with_reducible first | exact aa.out | apply IsS36.alloc | apply IsS36.drewN | apply IsS36.drew | apply IsS36.set_1 | apply IsS36.set_2 | refine IsS36.far ?_ ab.out _ | refine IsS36.far ?_ ax.out _ | refine IsS36.far ?_ a2.out _) | exact aa.out)⟩, ⟨by repeat (first | (with_reducible first | exact HB.out | apply below_alloc | apply pw_below_drewN | apply below_drew1 | refine below_set ?_ (IsS36.ge aa.out) | refine below_set ?_ av.out | refine below_set ?_ bK.out | refine below_set ?_ eI.out) | exact HB.out)⟩⟩
 }
 )
 case rest => (
 clear eB
 try clear c0
 try clear c2
 try clear c2b0
 try clear c2b1
 try clear p2
 try clear q2
 try clear hx2
 try clear hf2
 try clear p448
 try clear q448
 try clear hx448
 try clear p482
 try clear q482
 try clear hx482
 try clear p508
 try clear q508
 try clear hx508
 try clear bS
 try clear c1013b0
 try clear c1013b1
 try clear dI
 try clear dJ
 try clear c2004b0
 try clear c2004b1
 try clear eS
 try clear eT
 try clear c2008b0
 try clear eU
 try clear c2009b0
 try clear cB
 try clear c2010b0
 try clear c2010b1
 try clear bT
 try clear c2011b0
 try clear c2011b1
 try clear p2013
 try clear q2013
 try clear hx2013
 try clear hf2013
 try clear eD
 try clear c2014b0
 try clear eE
 try clear c2015b0
 try clear eu
 try clear c2017b0
 try clear c2017b1
 try clear p2019
 try clear q2019
 try clear hx2019
 try clear hf2019
 try clear bh
 try clear c3012b0
 try clear c3012b1
 try clear bi
 try clear c3013b0
 try clear c3013b1
 try clear bj
 try clear c3014b0
 try clear c3014b1
 try clear dt
 try clear bu
 try clear c4012b0
 try clear c4012b1
 try clear bW bX bY bZ b0 b1
 try clear b2 b3 b4 b5 b6 b7
 try clear b8 b9 ca cb cc cd
 try clear bB bC bD bE bF bG
 try clear cI cJ cK cL cM cN
 try clear cO cP cQ cR cS cT
 try clear ce cf cg ch ci cj
 try clear cV cW cX cY cZ c1
 try clear da db dc dd de df
 try clear dg dh di dj dk dl
 try clear dL dM dv dw dN dO dP dQ dR dS dT dU dV dW dx dy dX dY dZ d0 d1 d2 d3 d4
 try clear d5 d6 dz dA d7 d8 d9 ea eb ec ed ee ef eg dB dC eh ei ej ek el em en eo
 try clear hx2013_0
 try clear hx2019_0
 try clear hx4021_0
 try clear hx448_0
 try clear hx482_0
 try clear hx508_0
 try clear p2
 try clear p2013
 try clear p2019
 try clear p4021
 try clear p448
 try clear p482
 try clear p508
 try clear q2
 try clear q2013
 try clear q2019
 try clear q4021
 try clear q448
 try clear q482
 try clear q508
 obtain ⟨kq, bs, rfl, HA, HJ3018, HO_14, HO_428002, HO_517002, HO_535010, HO_535011, ac, aM, bc, aa, HB⟩ := hcut
 cases kq with
 | zero => exact absurd HA.out (by simp [laws_FnOneBit.j6])
 | succ bo => {
 have H := HA.out
 clear HA
 simp only [laws_FnOneBit.j6] at H
 by_cases ew : bs = true
 {
 subst ew
 have H1 : (some false) = some r := by rw [if_pos rfl] at H; exact H
 clear H
 have H := H1
 clear H1
 obtain rfl := Option.some.inj H
 go_wp2
 all_goals (try (rename_i h_; exfalso; cases h_; done))
 all_goals (try (rename_i h_ h2_; exfalso; cases h_; done))
 go_ret
 exact ⟨by first | rfl | (simp [errW_none, errW_some] <;> rfl) | (simp only [← hji2007, ← hji2010, ← hji2012]; first | rfl | (simp [errW_none, errW_some] <;> rfl)) | (simp [*, errW_none, errW_some] <;> rfl), by repeat (first | (with_reducible first | exact HB.out | apply below_alloc | apply pw_below_drewN | apply below_drew1 | refine below_set ?_ (IsS36.ge aa.out) | refine below_set ?_ av.out | refine below_set ?_ bK.out | refine below_set ?_ eI.out) | exact HB.out)⟩
 }
 {
 replace ew := Bool.eq_false_iff.mpr ew
 subst ew
 have H1 : ((laws_lwNext.f l0 aD aE (wrap64 (8 * (aK.length : Int)))).bind fun eV => (if 0 ≤ (wrap64 (Int.tdiv eV.1 8)) then (if (wrap64 (Int.tdiv eV.1 8)) < (aK.length : Int) then (if 0 ≤ (IntKind.u64.wrap (Int.tmod eV.1 8)) then ((impl_DecodeSegment.f bo (aK.set ((wrap64 (Int.tdiv eV.1 8)) : Int).toNat (Go.bits .xor .u8 (rd aK (wrap64 (Int.tdiv eV.1 8))) (shl .u8 1 (IntKind.u64.wrap (Int.tmod eV.1 8))))) ah ai).bind fun dH => (some (dH.2.2.2.2.2.2.2.2.2.2.2.2 != 0))) else (none)) else (none)) else (none))) = some r := by rw [if_neg (show ¬ (false = true) by decide)] at H; exact H
 clear H
 have H := H1
 clear H1
 replace H := Option.bind_eq_some_iff.mp H
 obtain ⟨⟨et, gQ, gR⟩, A40140, H⟩ := H
 replace H : (if 0 ≤ (wrap64 (Int.tdiv et 8)) then (if (wrap64 (Int.tdiv et 8)) < (aK.length : Int) then (if 0 ≤ (IntKind.u64.wrap (Int.tmod et 8)) then ((impl_DecodeSegment.f bo (aK.set ((wrap64 (Int.tdiv et 8)) : Int).toNat (Go.bits .xor .u8 (rd aK (wrap64 (Int.tdiv et 8))) (shl .u8 1 (IntKind.u64.wrap (Int.tmod et 8))))) ah ai).bind fun dH => (some (dH.2.2.2.2.2.2.2.2.2.2.2.2 != 0))) else (none)) else (none)) else (none)) = some r := H
 have A4014 := Aside0.mk A40140
 clear A40140
 obtain ⟨af, hji4015⟩ : ∃ j_ : Int, (wrap64 (Int.tdiv et 8)) = j_ := ⟨_, rfl⟩
 replace H : (if 0 ≤ (af) then (if (af) < (aK.length : Int) then (if 0 ≤ (IntKind.u64.wrap (Int.tmod et 8)) then ((impl_DecodeSegment.f bo (aK.set ((af) : Int).toNat (Go.bits .xor .u8 (rd aK (af)) (shl .u8 1 (IntKind.u64.wrap (Int.tmod et 8))))) ah ai).bind fun dH => (some (dH.2.2.2.2.2.2.2.2.2.2.2.2 != 0))) else (none)) else (none)) else (none)) = some r := by first | (rw [hji4015] at H; exact H) | (simp only [hji4015] at H ⊢; exact H)
 (try rw [hji4015] at A4014)
 have hji4015w : (IntKind.i64.wrap (Int.tdiv et 8)) = af := (i64_w _).trans hji4015
 by_cases ex : 0 ≤ (af)
 {
 rw [if_pos ex] at H
 have c4016b0 : decide (0 ≤ (af)) = true := decide_eq_true ex
 clear ex
 by_cases ey : (af) < (aK.length : Int)
 {
 rw [if_pos ey] at H
 have c4017b0 : decide ((af) < (aK.length : Int)) = true := decide_eq_true ey
 clear ey
 obtain ⟨aV, hji4018⟩ : ∃ j_ : Int, (IntKind.u64.wrap (Int.tmod et 8)) = j_ := ⟨_, rfl⟩
 replace H : (if 0 ≤ (aV) then ((impl_DecodeSegment.f bo (aK.set ((af) : Int).toNat (Go.bits .xor .u8 (rd aK (af)) (shl .u8 1 (aV)))) ah ai).bind fun dH => (some (dH.2.2.2.2.2.2.2.2.2.2.2.2 != 0))) else (none)) = some r := by first | (rw [hji4018] at H; exact H) | (simp only [hji4018] at H ⊢; exact H)
 (try rw [hji4018] at A4014)
 by_cases dE : 0 ≤ (aV)
 {
 rw [if_pos dE] at H
 have c4019b0 := eq_true dE
 have c4019b1 : decide (0 ≤ (aV)) = true := decide_eq_true dE
 clear dE
 obtain ⟨bf, hji4020⟩ : ∃ j_ : Int, (shl .u8 1 (aV)) = j_ := ⟨_, rfl⟩
 replace H : ((impl_DecodeSegment.f bo (aK.set ((af) : Int).toNat (Go.bits .xor .u8 (rd aK (af)) (bf))) ah ai).bind fun dH => (some (dH.2.2.2.2.2.2.2.2.2.2.2.2 != 0))) = some r := by first | (rw [hji4020] at H; exact H) | (simp only [hji4020] at H ⊢; exact H)
 (try rw [hji4020] at A4014)
 have hji4020_ : (IntKind.u8.wrap (1 * 2 ^ min (aV).toNat 8)) = bf := hji4020
 have hji4020z : (aV) ≤ 8 → (IntKind.u8.wrap (1 * 2 ^ (aV).toNat)) = bf := shl_small hji4020
 have hji4020u : (IntKind.u8.wrap (2 ^ min (aV).toNat 8)) = bf := by have h_ := hji4020_; rw [Int.one_mul] at h_; exact h_
 have hji4020v : (aV) ≤ 8 → (IntKind.u8.wrap (2 ^ (aV).toNat)) = bf := fun hle_ => by have h_ := hji4020z hle_; rw [Int.one_mul] at h_; exact h_
 obtain ⟨fg, fc⟩ : ∃ y_ : List Int, y_ = (aK.set ((af) : Int).toNat (Go.bits .xor .u8 (rd aK (af)) (bf))) := ⟨_, rfl⟩
 replace H : ((impl_DecodeSegment.f bo fg ah ai).bind fun dH => (some (dH.2.2.2.2.2.2.2.2.2.2.2.2 != 0))) = some r := by first | (rw [fc]; with_reducible exact H) | (have H2_ := (Option.bind_some _ _).symm.trans H; rw [fc]; with_reducible exact H2_) | (have H2_ := (Option.bind_some _ _).symm.trans H; with_reducible exact H2_) | with_reducible exact H | (rw [fc]; exact H) | exact H
 have Ny543 := Aside0.mk fc
 clear fc
 replace H := Option.bind_eq_some_iff.mp H
 obtain ⟨⟨gS, gT, gU, gV, gW, gX, gY, gZ, g0, g1, g2, g3, gp⟩, A40220, H⟩ := H
 replace H : (some (gp != 0)) = some r := H
 have A4022 := Aside0.mk A40220
 clear A40220
 obtain rfl := Option.some.inj H
 obtain ⟨fw, a3, eC⟩ := Kd.R_slice HO_14.out
 subst eC
 go_wp2_with (first | ((with_reducible refine gate_callee (f := 17) rfl ?_); refine goesL_ (some 131) rfl rfl Try.func17 (by kernel_rfl) rfl #[.pointer (some ⟨am, 0, none⟩), .int .i64 (wrap64 (8 * (aK.length : Int)))] rfl wT ?_; (with_reducible refine (laws_lwNext.calls am l0 aD aE (wrap64 (8 * (aK.length : Int))) et gQ gR w _ ?side1 ?side2 A4014.out).mono ?_); (case side1 => repeat (first | (with_reducible first | exact aa.out | apply IsS36.alloc | apply IsS36.drewN | apply IsS36.drew | apply IsS36.set_1 | apply IsS36.set_2 | refine IsS36.far ?_ ab.out _ | refine IsS36.far ?_ ax.out _ | refine IsS36.far ?_ a2.out _) | exact aa.out)); (case side2 => repeat (first | (with_reducible first | exact HB.out | apply below_alloc | apply pw_below_drewN | apply below_drew1 | refine below_set ?_ (IsS36.ge aa.out) | refine below_set ?_ av.out | refine below_set ?_ bK.out | refine below_set ?_ eI.out) | exact HB.out)); rintro e fa ⟨rfl, hi, hb, hk⟩; refine ⟨_, rfl, ?_⟩; replace HO_14 := Aside0.mk (Kd.R_mono (Kd.R_keep (IsS36.apart (show IsS36 w _ am l0 aD aE from by repeat (first | (with_reducible first | exact aa.out | apply IsS36.alloc | apply IsS36.drewN | apply IsS36.drew | apply IsS36.set_1 | apply IsS36.set_2 | refine IsS36.far ?_ ab.out _ | refine IsS36.far ?_ ax.out _ | refine IsS36.far ?_ a2.out _) | exact aa.out)) (Rh HO_14) (by decide)) hk (fun _ h => h.2)) (fun _ h => h.1)); replace HO_428002 := Aside0.mk (Kd.R_mono (Kd.R_keep (IsS36.apart (show IsS36 w _ am l0 aD aE from by repeat (first | (with_reducible first | exact aa.out | apply IsS36.alloc | apply IsS36.drewN | apply IsS36.drew | apply IsS36.set_1 | apply IsS36.set_2 | refine IsS36.far ?_ ab.out _ | refine IsS36.far ?_ ax.out _ | refine IsS36.far ?_ a2.out _) | exact aa.out)) (Rh HO_428002) (by decide)) hk (fun _ h => h.2)) (fun _ h => h.1)); replace HO_517002 := Aside0.mk (Kd.R_mono (Kd.R_keep (IsS36.apart (show IsS36 w _ am l0 aD aE from by repeat (first | (with_reducible first | exact aa.out | apply IsS36.alloc | apply IsS36.drewN | apply IsS36.drew | apply IsS36.set_1 | apply IsS36.set_2 | refine IsS36.far ?_ ab.out _ | refine IsS36.far ?_ ax.out _ | refine IsS36.far ?_ a2.out _) | exact aa.out)) (Rh HO_517002) (by decide)) hk (fun _ h => h.2)) (fun _ h => h.1)); replace HO_535010 := Aside0.mk (Kd.R_mono (Kd.R_keep (IsS36.apart (show IsS36 w _ am l0 aD aE from by repeat (first | (with_reducible first | exact aa.out | apply IsS36.alloc | apply IsS36.drewN | apply IsS36.drew | apply IsS36.set_1 | apply IsS36.set_2 | refine IsS36.far ?_ ab.out _ | refine IsS36.far ?_ ax.out _ | refine IsS36.far ?_ a2.out _) | exact aa.out)) (Rh HO_535010) (by decide)) hk (fun _ h => h.2)) (fun _ h => h.1)); replace HO_535011 := Aside0.mk (Kd.R_mono (Kd.R_keep (IsS36.apart (show IsS36 w _ am l0 aD aE from by repeat (first | (with_reducible first | exact aa.out | apply IsS36.alloc | apply IsS36.drewN | apply IsS36.drew | apply IsS36.set_1 | apply IsS36.set_2 | refine IsS36.far ?_ ab.out _ | refine IsS36.far ?_ ax.out _ | refine IsS36.far ?_ a2.out _) | exact aa.out)) (Rh HO_535011) (by decide)) hk (fun _ h => h.2)) (fun _ h => h.1)); replace ac := Aside0.mk (KeepBut.blk hk (g' := ay) (o := .cells #[.int .i64 aF, .int .i64 aG, .slice an ag.length ao] 39 (0, 0)) (Bh ac) aW.out (by simp)); replace aM := Aside0.mk (KeepBut.blk hk (g' := bb) (o := .cells #[.int .i64 bQ, .int .i64 ct, .slice aj a5.length ak] 39 (0, 0)) (Bh aM) eQ.out (by simp)); replace bc := Aside0.mk (KeepBut.blk hk (g' := ae) (o := .cells #[.int .i64 bp, .int .i64 br, .int .i64 bw, .int .i64 bA, .int .i64 bL, .int .i64 bR, .int .i64 cu, .bool cA, .int .i64 cH, .bool dG, .slice aR cv.length aS, .slice ap bm.length aq] 25 (0, 0)) (Bh bc) fk.out (by simp)); replace HB := Aside0.mk (hb); replace aa := Aside0.mk (hi); (try clear hb); (try clear hb2); (try clear hk); (try clear hi); have p542 : 0 ≤ ((af) : Int) := of_decide_eq_true (by first | (with_reducible assumption) | assumption); have q542 : (af) < (aK.length : Int) := of_decide_eq_true (by first | (with_reducible assumption) | assumption); obtain ⟨ad542, e542, hx542_0⟩ := Kd.at_int (Kd.R_reads' HO_14.out).2.2 (af) p542 q542; cases e542; replace p542 := eq_true p542; replace q542 := eq_true q542; have p4021 : 0 ≤ ((af) : Int) := of_decide_eq_true (by first | (with_reducible assumption) | assumption); have q4021 : ((af) : Int) < ((aK.length : Int) : Int) := of_decide_eq_true (by first | (with_reducible assumption) | assumption); obtain ⟨go4021, gn, eO, eP, gl4021, cl4021, HG4021⟩ := Kd.R_form HO_14.out (by omega); (first | cases eO | (injection eO with ea_ en_ ec_; (first | subst ea_ | (injection ea_ with ea_; subst ea_)); subst ec_; clear en_)); have GB4021 := Aside0.mk eP; have GG4021 := Aside0.mk HG4021; clear eP gl4021 HG4021; (first | simp only [add_plain] at hx542_0 | skip); obtain ⟨hx4021_0, hf4021_0⟩ := Kd.R_celln 0 HO_14.out ((af) : Int) p4021 q4021; replace p4021 := eq_true p4021; replace q4021 := eq_true q4021; obtain ⟨hy5003_, hz5003_⟩ := Kd.R_celln 0 HO_14.out ((af) : Int) (of_decide_eq_true (by first | (with_reducible assumption) | assumption)) (of_decide_eq_true (by first | (with_reducible assumption) | assumption)); have HP5003 := Kd.R_putg HO_14.out ((af) : Int) (Go.bits .xor .u8 (rd aK (af)) (bf))) | ((with_reducible refine gate_store (t := 5) (p := 145) rfl ?_); refine store_event (t := 5) (p := 145) (v := ?_) (w1 := (fa.setCell ⟨go4021, ((af) : Int).toNat, none⟩ (.int .u8 (Go.bits .xor .u8 (rd aK (af)) (bf))))) ?hg ?ho ?hn ?hr ?_; (case ho => rfl); (case hg => rfl); (case hn => rfl); (case hr => first | (go_simp; done) | (go_simp; rfl)); intro eL hw; have hg : fa.grownBy eL (some go4021) := (by rw [hw]; exact HP5003.2); have hp_ : Kd.R (Kd.int .u8) 5 eL w.heap.size (fun k_ => some k_ ≠ (.slice an ag.length ao : Value).ownBlock ∧ some k_ ≠ (.slice aj a5.length ak : Value).ownBlock ∧ some k_ ≠ (.slice ap bm.length aq : Value).ownBlock) (.slice (some ⟨go4021, 0, none⟩) aK.length a3) fg := (by rw [hw, Ny543.out]; exact HP5003.1); clear HP5003; replace HO_428002 := Aside0.mk (Kd.R_after (v := (.slice (some ⟨go4021, 0, none⟩) aK.length a3)) (v1 := (.slice (some ⟨go4021, 0, none⟩) aK.length a3)) (ok := (fun k_ => some k_ ≠ (.slice aj a5.length ak : Value).ownBlock ∧ some k_ ≠ (.slice ap bm.length aq : Value).ownBlock)) (Kd.R_mono (Rh HO_428002) (fun _ hk => ⟨⟨hk.2.1, hk.2.2⟩, hk.1⟩)) hg (.inl rfl)); replace HO_517002 := Aside0.mk (Kd.R_after (v := (.slice (some ⟨go4021, 0, none⟩) aK.length a3)) (v1 := (.slice (some ⟨go4021, 0, none⟩) aK.length a3)) (ok := (fun k_ => some k_ ≠ (.slice an ag.length ao : Value).ownBlock ∧ some k_ ≠ (.slice ap bm.length aq : Value).ownBlock)) (Kd.R_mono (Rh HO_517002) (fun _ hk => ⟨⟨hk.2.1, hk.2.2⟩, hk.1⟩)) hg (.inl rfl)); replace HO_535010 := Aside0.mk (Kd.R_over' (v := (.slice (some ⟨go4021, 0, none⟩) aK.length a3)) (Rh HO_535010) (Kd.R_typed HO_14.out) (by decide) hg); replace HO_535011 := Aside0.mk (Kd.R_after (v := (.slice (some ⟨go4021, 0, none⟩) aK.length a3)) (v1 := (.slice (some ⟨go4021, 0, none⟩) aK.length a3)) (ok := (fun k_ => some k_ ≠ (.slice an ag.length ao : Value).ownBlock ∧ some k_ ≠ (.slice aj a5.length ak : Value).ownBlock)) (Kd.R_mono (Rh HO_535011) (fun _ hk => ⟨⟨hk.2.1, hk.2.2⟩, hk.1⟩)) hg (.inl rfl)); replace ac := Aside0.mk (blk_grown (Bh ac) hg (Kd.R_ne HO_14.out ac.out (by decide))); replace aM := Aside0.mk (blk_grown (Bh aM) hg (Kd.R_ne HO_14.out aM.out (by decide))); replace bc := Aside0.mk (blk_grown (Bh bc) hg (Kd.R_ne HO_14.out bc.out (by decide))); replace aa := Aside0.mk (IsS36.grown (by repeat (first | (with_reducible first | exact aa.out | apply IsS36.alloc | apply IsS36.drewN | apply IsS36.drew | apply IsS36.set_1 | apply IsS36.set_2 | refine IsS36.far ?_ ab.out _ | refine IsS36.far ?_ ax.out _ | refine IsS36.far ?_ a2.out _) | exact aa.out)) hg (IsS36.own_ne aa.out HO_14.out (by decide))); replace HO_14 := Aside0.mk (hp_); replace HB := Aside0.mk ((by rw [hw]; exact below_set (HB.out) GB4021.out : Below w.heap.size w eL)); clear hg hw hp_) | ((with_reducible refine gate_callee (f := 7) rfl ?_); refine goesL_ (some 150) rfl rfl Try.func7 (by kernel_rfl) rfl #[.slice (some ⟨go4021, 0, none⟩) fg.length a3, .int .i64 ah, .int .i64 ai] rfl (by (try simp only [List.map_toArray, List.map_cons, List.map_nil]); first | done | (rw [show fg.length = aK.length from (Kd.R_reads' HO_14.out).1.symm] <;> rfl) | rfl | (simp only [List.length_drop, List.length_take]; rfl)) ?_; (with_reducible refine (impl_DecodeSegment.calls bo _ _ fg ah ai gS gT gU gV gW gX gY gZ g0 g1 g2 g3 gp _ ?side1 ?side2 A4022.out).mono ?_); (case side1 => exact Ch HO_14); (case side2 => rw [show fg.length = aK.length from (Kd.R_reads' HO_14.out).1.symm]; exact (Kd.R_reads' HO_14.out).2.1); rintro e gy ⟨hH, hI, rfl, aI, cp, hb⟩; refine ⟨_, rfl, ?_⟩; have uB := below_pre (n := w.heap.size) (w := w) hb (by repeat (first | (with_reducible first | exact HB.out | apply below_alloc | apply pw_below_drewN | apply below_drew1 | refine below_set ?_ (IsS36.ge aa.out) | refine below_set ?_ av.out | refine below_set ?_ bK.out | refine below_set ?_ eI.out) | exact HB.out)); have ht := Aside0.mk (Kd.R_lower (Kd.R_new' aI (Kd.R_lt (Rh HO_535010))) (below_size uB)); replace HO_535010 := Aside0.mk (Kd.R_elder' (Rh HO_535010) (Kd.R_base aI) hb); have hu := Aside0.mk (Kd.R_lower (Kd.R_new' (Kd.R_new' (Kd.R_new' (Kd.R_new' cp (Kd.R_lt (Rh HO_14))) (Kd.R_lt (Rh HO_428002))) (Kd.R_lt (Rh HO_517002))) (Kd.R_lt (Rh HO_535011))) (below_size uB)); replace HO_14 := Aside0.mk (Kd.R_elder' (Rh HO_14) (Kd.R_base cp) hb); replace HO_428002 := Aside0.mk (Kd.R_elder' (Rh HO_428002) (Kd.R_base cp) hb); replace HO_517002 := Aside0.mk (Kd.R_elder' (Rh HO_517002) (Kd.R_base cp) hb); replace HO_535011 := Aside0.mk (Kd.R_elder' (Rh HO_535011) (Kd.R_base cp) hb); replace ac := Aside0.mk (blk_below (Bh ac) hb); replace aM := Aside0.mk (blk_below (Bh aM) hb); replace bc := Aside0.mk (blk_below (Bh bc) hb); replace HB := Aside0.mk (below_step uB hb); replace aa := Aside0.mk (IsS36.below (by repeat (first | (with_reducible first | exact aa.out | apply IsS36.alloc | apply IsS36.drewN | apply IsS36.drew | apply IsS36.set_1 | apply IsS36.set_2 | refine IsS36.far ?_ ab.out _ | refine IsS36.far ?_ ax.out _ | refine IsS36.far ?_ a2.out _) | exact aa.out)) hb); clear uB; (try clear hb); (try clear hb2); (try clear hk); (try clear hi); (try clear aI); (try clear cp)))
 all_goals (try (rename_i h_; exfalso; cases h_; done))
 all_goals (try (rename_i h_ h2_; exfalso; cases h_; done))
 go_ret
 exact ⟨by first | rfl | (simp [errW_none, errW_some] <;> rfl) | (simp only [← hji2007, ← hji2010, ← hji2012, ← hji4015, ← hji4018, ← hji4020]; first | rfl | (simp [errW_none, errW_some] <;> rfl)) | (simp [*, errW_none, errW_some] <;> rfl), by repeat (first | (with_reducible first | exact HB.out | apply below_alloc | apply pw_below_drewN | apply below_drew1 | refine below_set ?_ (IsS36.ge aa.out) | refine below_set ?_ av.out | refine below_set ?_ bK.out | refine below_set ?_ eI.out) | exact HB.out)⟩
 }
 {
 rw [if_neg dE] at H
 exact absurd H (by simp)
 }
 }
 {
 rw [if_neg ey] at H
 exact absurd H (by simp)
 }
 }
 {
 rw [if_neg ex] at H
 exact absurd H (by simp)
 }
 }
 }
 )
 }
 }
 )
 }
 {
 rw [if_neg bT] at H
 exact absurd H (by simp)
 }
 }
 {
 rw [if_neg eU] at H
 exact absurd H (by simp)
 }
 }
 {
 rw [if_neg eT] at H
 exact absurd H (by simp)
 }
 }
 }
 )
 }
 }
 )
 }

/-- THE ONE PURE STATEMENT of laws_FnOneBit: yours. -/
def laws_FnOneBit.Pure : Prop := ∀ (l0 : List Int), l0.length ≤ maxLen → l0.length * 1 ≤ 140737488351232 → (∀ x ∈ l0, (Lit.int .u8 x).wf = true) → ∃ k, laws_FnOneBit.f k l0 = some true
theorem laws_FnOneBit.walk (P : laws_FnOneBit.Pure) (a0 : Option Addr) (len0 cap0 : Nat) (z0 : List Int) (w : World) (w0 : (a0 = none ∧ len0 = 0 ∧ cap0 = 0 ∧ z0 = []) ∨ ∃ x, a0 = some x ∧ len0 ≤ cap0 ∧ cap0 ≤ maxLen ∧ z0.length = cap0 ∧ (∀ i, i < z0.length → w.cell? (x.add i) = some (.int .u8 (z0.getD i 0))) ∧ ∀ n ∈ z0, (Lit.int .u8 n).wf = true) (y0 : len0 * 1 ≤ 140737488351232) :
 Calls Try.prog 4 #[.slice a0 len0 cap0] w fun e w' => e = .returned (.bool true) ∧ Below w.heap.size w w' := by
 obtain ⟨l0, rfl, hr0, hm0, hw0, hc0⟩ := ReadsInt.ofRowC w0
 obtain ⟨k, h⟩ := P l0 hm0 y0 hw0
 refine (laws_FnOneBit.calls k _ _ l0 true w (Kd.C_of_reads (d := (0 : Int)) (h1 := fun _ => rfl) hr0) hc0 h).mono ?_
 rintro e w' ⟨rfl, hd⟩
 exact ⟨rfl, hd⟩

end Go.Proofs.Ytfllcmeakcbiaaa.PFnOneBit
