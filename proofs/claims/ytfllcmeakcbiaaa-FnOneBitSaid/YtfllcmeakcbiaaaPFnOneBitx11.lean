-- Written for this claim by a program of this session (wip/mkprint.py: the print, turned at a few places). Not trusted: Lean checks it.
import Derived.Test.YtfllcmeakcbiaaaPFnOneBitx0
import Derived.Test.YtfllcmeakcbiaaaPFnOneBitx1
import Derived.Test.YtfllcmeakcbiaaaPFnOneBitx10
namespace Go.Proofs.Ytfllcmeakcbiaaa.PFnOneBit
open Go.RowKit Go.Proofs.YtfllcmeakcbiaaaW.PrintWords Go.Proofs.YtfllcmeakcbiaaaW.PrintLast Go.Proofs.YtfllcmeakcbiaaaW.PrintMore
attribute [local go_sem] max2_int min2_int max_two min_two max_three min_three max_four min_four   -- for this text's walks alone
set_option linter.unusedVariables false
set_option linter.unusedSimpArgs false

/-! ### impl_EncodeSegment: function 22 -/
/-! ### impl_EncodeSegment: function 22 -/
mutual
def impl_EncodeSegment.j0 : Nat → Int → Int → Bool → Int → Int → Int → Int → Int → Int → Int → Bool → Int → Bool → List (S60) → List Int → Option (List Int × Int)
  | 0, _, _, _, _, _, _, _, _, _, _, _, _, _, _, _ => none
  | k + 1, x1, x2, ao, ab, ac, ad, ae, af, ag, aa, ah, ai, aj, ak, al => if ao = true then (some (([] : List Int), 1)) else (if aa = 0 then (impl_EncodeSegment.j1 k x1 x2 ([] : List Int) ab ac ad ae af ag aa ah ai aj ak al) else ((some (([2, 4] : List Int) : List Int)).bind fun am => (if ([] : List Int).length + am.length < 140737488355328 then ((impl_put.f k (([] : List Int) ++ am) 2 aa).bind fun an => (impl_EncodeSegment.j1 k x1 x2 an ab ac ad ae af ag aa ah ai aj ak al)) else (none))))
def impl_EncodeSegment.j1 : Nat → Int → Int → List Int → Int → Int → Int → Int → Int → Int → Int → Bool → Int → Bool → List (S60) → List Int → Option (List Int × Int)
  | 0, _, _, _, _, _, _, _, _, _, _, _, _, _, _, _ => none
  | k + 1, x1, x2, x8, ac, ad, ae, af, ag, ah, ai, aa, ab, aj, ak, al => if aa = true then ((some (([1, 3, 3, (ab) % 256] : List Int) : List Int)).bind fun am => (if x8.length + am.length < 140737488355328 then (impl_EncodeSegment.j2 k x1 x2 (x8 ++ am) ac ad ae af ag ah ai aa ab aj ak al) else (none))) else (impl_EncodeSegment.j2 k x1 x2 x8 ac ad ae af ag ah ai aa ab aj ak al)
def impl_EncodeSegment.j2 : Nat → Int → Int → List Int → Int → Int → Int → Int → Int → Int → Int → Bool → Int → Bool → List (S60) → List Int → Option (List Int × Int)
  | 0, _, _, _, _, _, _, _, _, _, _, _, _, _, _, _ => none
  | k + 1, x1, x2, x8, ab, ac, ad, ae, af, ag, ah, ai, aj, aa, ak, al => if aa = true then ((some (([1, 1, 4, 2] : List Int) : List Int)).bind fun am => (if x8.length + am.length < 140737488355328 then (impl_EncodeSegment.j3 k x1 x2 (x8 ++ am) ab ac ad ae af ag ah ai aj aa ak al) else (none))) else (impl_EncodeSegment.j3 k x1 x2 x8 ab ac ad ae af ag ah ai aj aa ak al)
def impl_EncodeSegment.j3 : Nat → Int → Int → List Int → Int → Int → Int → Int → Int → Int → Int → Bool → Int → Bool → List (S60) → List Int → Option (List Int × Int)
  | 0, _, _, _, _, _, _, _, _, _, _, _, _, _, _, _ => none
  | k + 1, x1, x2, x8, ab, ac, ad, ae, af, ag, ah, ai, aj, ak, aa, al => if (aa.length : Int) > 0 then ((some (([1, 1, 5, (wrap64 ((wrap64 (8 * (aa.length : Int))) + 2)) % 256] : List Int) : List Int)).bind fun am => (if x8.length + am.length < 140737488355328 then (impl_EncodeSegment.l0 k x1 x2 (x8 ++ am) aa (aa.length : Int) 0 ab ac ad ae af ag ah ai aj ak aa al) else (none))) else (impl_EncodeSegment.j5 k x1 x2 x8 ab ac ad ae af ag ah ai aj ak aa al)
def impl_EncodeSegment.j5 : Nat → Int → Int → List Int → Int → Int → Int → Int → Int → Int → Int → Bool → Int → Bool → List (S60) → List Int → Option (List Int × Int)
  | 0, _, _, _, _, _, _, _, _, _, _, _, _, _, _, _ => none
  | k + 1, x1, x2, x8, ac, ad, ae, af, ag, ah, av, aw, ax, ay, az, aa => if (wrap64 ((wrap64 (20 + (x8.length : Int))) + (aa.length : Int))) > 65515 then (some (([] : List Int), 7)) else ((impl_put.f k ([] : List Int) 2 ac).bind fun aq => ((impl_put.f k aq 2 ad).bind fun ar => ((impl_put.f k ar 4 ae).bind fun au => ((impl_put.f k au 4 af).bind fun ai => ((some (([(wrap64 ((wrap64 (Int.tdiv (wrap64 (20 + (x8.length : Int))) 4)) * 16)) % 256, (ag) % 256] : List Int) : List Int)).bind fun aj => (if ai.length + aj.length < 140737488355328 then ((impl_put.f k (ai ++ aj) 2 ah).bind fun ak => ((some (([0, 0, 0, 0] : List Int) : List Int)).bind fun al => (if ak.length + al.length < 140737488355328 then ((some (ak ++ al : List Int)).bind fun am => (if am.length + x8.length < 140737488355328 then ((some (am ++ x8 : List Int)).bind fun an => (if an.length + aa.length < 140737488355328 then ((some (an ++ aa : List Int)).bind fun ab => ((impl_FalseHead.f k x1 x2 6 (ab.length : Int)).bind fun ao => (if ao.length + ab.length < 140737488355328 then ((impl_Checksum.f k (ao ++ ab)).bind fun ap => (if 16 < (ab.length : Int) then (if 17 < (ab.length : Int) then (some (((ab.set (16 : Int).toNat ((ap / 256) % 256)).set (17 : Int).toNat ((ap) % 256)), 0)) else (none)) else (none))) else (none)))) else (none))) else (none))) else (none)))) else (none)))))))
def impl_EncodeSegment.l0 : Nat → Int → Int → List Int → List (S60) → Int → Int → Int → Int → Int → Int → Int → Int → Int → Bool → Int → Bool → List (S60) → List Int → Option (List Int × Int)
  | 0, _, _, _, _, _, _, _, _, _, _, _, _, _, _, _, _, _, _ => none
  | k + 1, x1, x2, x8, an, ao, aa, ab, ac, ad, ae, af, ag, ah, ai, aj, ak, al, am => if aa < ao then (if 0 ≤ aa then (if aa < (an.length : Int) then ((impl_put.f k x8 4 ((rd_T60 an aa).f0)).bind fun ap => ((impl_put.f k ap 4 ((rd_T60 an aa).f1)).bind fun aq => (impl_EncodeSegment.l0 k x1 x2 aq an ao (wrap64 (aa + 1)) ab ac ad ae af ag ah ai aj ak al am))) else (none)) else (none)) else (impl_EncodeSegment.j5 k x1 x2 x8 ab ac ad ae af ag ah ai aj ak al am)
end
def impl_EncodeSegment.f (k : Nat) (ac : Int) (ad : Int) (ae : Int) (af : Int) (ag : Int) (ah : Int) (ai : Int) (aj : Bool) (ak : Int) (al : Bool) (aa : List (S60)) (ab : List Int) (a1 : Int) (a2 : Int) : Option (List Int × Int) := (impl_okSegment.f k ac ad ae af ag ah ai aj ak al aa ab).bind fun am => (if am = true then ((impl_isAddr.f a1).bind fun an => (if an = true then ((impl_isAddr.f a2).bind fun ao => (impl_EncodeSegment.j0 k a1 a2 (!ao) ac ad ae af ag ah ai aj ak al aa ab)) else (impl_EncodeSegment.j0 k a1 a2 true ac ad ae af ag ah ai aj ak al aa ab))) else (impl_EncodeSegment.j0 k a1 a2 true ac ad ae af ag ah ai aj ak al aa ab))
theorem impl_EncodeSegment.mono_l : ∀ k, (∀ y0 y1 y2 y3 y4 y5 y6 y7 y8 y9 aa ab ac ad ae, LeO (impl_EncodeSegment.j0 k y0 y1 y2 y3 y4 y5 y6 y7 y8 y9 aa ab ac ad ae) (impl_EncodeSegment.j0 (k + 1) y0 y1 y2 y3 y4 y5 y6 y7 y8 y9 aa ab ac ad ae)) ∧ (∀ y0 y1 y2 y3 y4 y5 y6 y7 y8 y9 aa ab ac ad ae, LeO (impl_EncodeSegment.j1 k y0 y1 y2 y3 y4 y5 y6 y7 y8 y9 aa ab ac ad ae) (impl_EncodeSegment.j1 (k + 1) y0 y1 y2 y3 y4 y5 y6 y7 y8 y9 aa ab ac ad ae)) ∧ (∀ y0 y1 y2 y3 y4 y5 y6 y7 y8 y9 aa ab ac ad ae, LeO (impl_EncodeSegment.j2 k y0 y1 y2 y3 y4 y5 y6 y7 y8 y9 aa ab ac ad ae) (impl_EncodeSegment.j2 (k + 1) y0 y1 y2 y3 y4 y5 y6 y7 y8 y9 aa ab ac ad ae)) ∧ (∀ y0 y1 y2 y3 y4 y5 y6 y7 y8 y9 aa ab ac ad ae, LeO (impl_EncodeSegment.j3 k y0 y1 y2 y3 y4 y5 y6 y7 y8 y9 aa ab ac ad ae) (impl_EncodeSegment.j3 (k + 1) y0 y1 y2 y3 y4 y5 y6 y7 y8 y9 aa ab ac ad ae)) ∧ (∀ y0 y1 y2 y3 y4 y5 y6 y7 y8 y9 aa ab ac ad ae, LeO (impl_EncodeSegment.j5 k y0 y1 y2 y3 y4 y5 y6 y7 y8 y9 aa ab ac ad ae) (impl_EncodeSegment.j5 (k + 1) y0 y1 y2 y3 y4 y5 y6 y7 y8 y9 aa ab ac ad ae)) ∧ (∀ y0 y1 y2 y3 y4 y5 y6 y7 y8 y9 aa ab ac ad ae af ag ah, LeO (impl_EncodeSegment.l0 k y0 y1 y2 y3 y4 y5 y6 y7 y8 y9 aa ab ac ad ae af ag ah) (impl_EncodeSegment.l0 (k + 1) y0 y1 y2 y3 y4 y5 y6 y7 y8 y9 aa ab ac ad ae af ag ah))
  | 0 => ⟨fun _ _ _ _ _ _ _ _ _ _ _ _ _ _ _ r h => by simp [impl_EncodeSegment.j0] at h, fun _ _ _ _ _ _ _ _ _ _ _ _ _ _ _ r h => by simp [impl_EncodeSegment.j1] at h, fun _ _ _ _ _ _ _ _ _ _ _ _ _ _ _ r h => by simp [impl_EncodeSegment.j2] at h, fun _ _ _ _ _ _ _ _ _ _ _ _ _ _ _ r h => by simp [impl_EncodeSegment.j3] at h, fun _ _ _ _ _ _ _ _ _ _ _ _ _ _ _ r h => by simp [impl_EncodeSegment.j5] at h, fun _ _ _ _ _ _ _ _ _ _ _ _ _ _ _ _ _ _ r h => by simp [impl_EncodeSegment.l0] at h⟩
  | k + 1 => by
    obtain ⟨ih0, ih1, ih2, ih3, ih4, ih5⟩ := impl_EncodeSegment.mono_l k
    refine ⟨?_, ?_, ?_, ?_, ?_, ?_⟩
    · intro y0 y1 y2 y3 y4 y5 y6 y7 y8 y9 aa ab ac ad ae
      unfold impl_EncodeSegment.j0
      repeat' first
      | (with_reducible exact ih0 _ _ _ _ _ _ _ _ _ _ _ _ _ _ _)
      | (with_reducible exact ih1 _ _ _ _ _ _ _ _ _ _ _ _ _ _ _)
      | (with_reducible exact ih2 _ _ _ _ _ _ _ _ _ _ _ _ _ _ _)
      | (with_reducible exact ih3 _ _ _ _ _ _ _ _ _ _ _ _ _ _ _)
      | (with_reducible exact ih4 _ _ _ _ _ _ _ _ _ _ _ _ _ _ _)
      | (with_reducible exact ih5 _ _ _ _ _ _ _ _ _ _ _ _ _ _ _ _ _ _)
      | (with_reducible exact impl_Checksum.mono _ _)
      | (with_reducible exact impl_FalseHead.mono _ _ _ _ _)
      | (with_reducible exact impl_okSegment.mono _ _ _ _ _ _ _ _ _ _ _ _ _)
      | (with_reducible exact impl_put.mono _ _ _ _)
      | (with_reducible exact LeO.refl _)
      | (with_reducible exact LeO.none _)
      | (with_reducible refine LeO.ite ?_ ?_)
      | (with_reducible refine LeO.bind ?_ (fun _ => ?_))
      | exact ih0 _ _ _ _ _ _ _ _ _ _ _ _ _ _ _
      | exact ih1 _ _ _ _ _ _ _ _ _ _ _ _ _ _ _
      | exact ih2 _ _ _ _ _ _ _ _ _ _ _ _ _ _ _
      | exact ih3 _ _ _ _ _ _ _ _ _ _ _ _ _ _ _
      | exact ih4 _ _ _ _ _ _ _ _ _ _ _ _ _ _ _
      | exact ih5 _ _ _ _ _ _ _ _ _ _ _ _ _ _ _ _ _ _
      | exact impl_Checksum.mono _ _
      | exact impl_FalseHead.mono _ _ _ _ _
      | exact impl_okSegment.mono _ _ _ _ _ _ _ _ _ _ _ _ _
      | exact impl_put.mono _ _ _ _
      | exact LeO.none _
      | refine LeO.ite ?_ ?_
      | refine LeO.bind ?_ (fun _ => ?_)
    · intro y0 y1 y2 y3 y4 y5 y6 y7 y8 y9 aa ab ac ad ae
      unfold impl_EncodeSegment.j1
      repeat' first
      | (with_reducible exact ih0 _ _ _ _ _ _ _ _ _ _ _ _ _ _ _)
      | (with_reducible exact ih1 _ _ _ _ _ _ _ _ _ _ _ _ _ _ _)
      | (with_reducible exact ih2 _ _ _ _ _ _ _ _ _ _ _ _ _ _ _)
      | (with_reducible exact ih3 _ _ _ _ _ _ _ _ _ _ _ _ _ _ _)
      | (with_reducible exact ih4 _ _ _ _ _ _ _ _ _ _ _ _ _ _ _)
      | (with_reducible exact ih5 _ _ _ _ _ _ _ _ _ _ _ _ _ _ _ _ _ _)
      | (with_reducible exact impl_Checksum.mono _ _)
      | (with_reducible exact impl_FalseHead.mono _ _ _ _ _)
      | (with_reducible exact impl_okSegment.mono _ _ _ _ _ _ _ _ _ _ _ _ _)
      | (with_reducible exact impl_put.mono _ _ _ _)
      | (with_reducible exact LeO.refl _)
      | (with_reducible exact LeO.none _)
      | (with_reducible refine LeO.ite ?_ ?_)
      | (with_reducible refine LeO.bind ?_ (fun _ => ?_))
      | exact ih0 _ _ _ _ _ _ _ _ _ _ _ _ _ _ _
      | exact ih1 _ _ _ _ _ _ _ _ _ _ _ _ _ _ _
      | exact ih2 _ _ _ _ _ _ _ _ _ _ _ _ _ _ _
      | exact ih3 _ _ _ _ _ _ _ _ _ _ _ _ _ _ _
      | exact ih4 _ _ _ _ _ _ _ _ _ _ _ _ _ _ _
      | exact ih5 _ _ _ _ _ _ _ _ _ _ _ _ _ _ _ _ _ _
      | exact impl_Checksum.mono _ _
      | exact impl_FalseHead.mono _ _ _ _ _
      | exact impl_okSegment.mono _ _ _ _ _ _ _ _ _ _ _ _ _
      | exact impl_put.mono _ _ _ _
      | exact LeO.none _
      | refine LeO.ite ?_ ?_
      | refine LeO.bind ?_ (fun _ => ?_)
    · intro y0 y1 y2 y3 y4 y5 y6 y7 y8 y9 aa ab ac ad ae
      unfold impl_EncodeSegment.j2
      repeat' first
      | (with_reducible exact ih0 _ _ _ _ _ _ _ _ _ _ _ _ _ _ _)
      | (with_reducible exact ih1 _ _ _ _ _ _ _ _ _ _ _ _ _ _ _)
      | (with_reducible exact ih2 _ _ _ _ _ _ _ _ _ _ _ _ _ _ _)
      | (with_reducible exact ih3 _ _ _ _ _ _ _ _ _ _ _ _ _ _ _)
      | (with_reducible exact ih4 _ _ _ _ _ _ _ _ _ _ _ _ _ _ _)
      | (with_reducible exact ih5 _ _ _ _ _ _ _ _ _ _ _ _ _ _ _ _ _ _)
      | (with_reducible exact impl_Checksum.mono _ _)
      | (with_reducible exact impl_FalseHead.mono _ _ _ _ _)
      | (with_reducible exact impl_okSegment.mono _ _ _ _ _ _ _ _ _ _ _ _ _)
      | (with_reducible exact impl_put.mono _ _ _ _)
      | (with_reducible exact LeO.refl _)
      | (with_reducible exact LeO.none _)
      | (with_reducible refine LeO.ite ?_ ?_)
      | (with_reducible refine LeO.bind ?_ (fun _ => ?_))
      | exact ih0 _ _ _ _ _ _ _ _ _ _ _ _ _ _ _
      | exact ih1 _ _ _ _ _ _ _ _ _ _ _ _ _ _ _
      | exact ih2 _ _ _ _ _ _ _ _ _ _ _ _ _ _ _
      | exact ih3 _ _ _ _ _ _ _ _ _ _ _ _ _ _ _
      | exact ih4 _ _ _ _ _ _ _ _ _ _ _ _ _ _ _
      | exact ih5 _ _ _ _ _ _ _ _ _ _ _ _ _ _ _ _ _ _
      | exact impl_Checksum.mono _ _
      | exact impl_FalseHead.mono _ _ _ _ _
      | exact impl_okSegment.mono _ _ _ _ _ _ _ _ _ _ _ _ _
      | exact impl_put.mono _ _ _ _
      | exact LeO.none _
      | refine LeO.ite ?_ ?_
      | refine LeO.bind ?_ (fun _ => ?_)
    · intro y0 y1 y2 y3 y4 y5 y6 y7 y8 y9 aa ab ac ad ae
      unfold impl_EncodeSegment.j3
      repeat' first
      | (with_reducible exact ih0 _ _ _ _ _ _ _ _ _ _ _ _ _ _ _)
      | (with_reducible exact ih1 _ _ _ _ _ _ _ _ _ _ _ _ _ _ _)
      | (with_reducible exact ih2 _ _ _ _ _ _ _ _ _ _ _ _ _ _ _)
      | (with_reducible exact ih3 _ _ _ _ _ _ _ _ _ _ _ _ _ _ _)
      | (with_reducible exact ih4 _ _ _ _ _ _ _ _ _ _ _ _ _ _ _)
      | (with_reducible exact ih5 _ _ _ _ _ _ _ _ _ _ _ _ _ _ _ _ _ _)
      | (with_reducible exact impl_Checksum.mono _ _)
      | (with_reducible exact impl_FalseHead.mono _ _ _ _ _)
      | (with_reducible exact impl_okSegment.mono _ _ _ _ _ _ _ _ _ _ _ _ _)
      | (with_reducible exact impl_put.mono _ _ _ _)
      | (with_reducible exact LeO.refl _)
      | (with_reducible exact LeO.none _)
      | (with_reducible refine LeO.ite ?_ ?_)
      | (with_reducible refine LeO.bind ?_ (fun _ => ?_))
      | exact ih0 _ _ _ _ _ _ _ _ _ _ _ _ _ _ _
      | exact ih1 _ _ _ _ _ _ _ _ _ _ _ _ _ _ _
      | exact ih2 _ _ _ _ _ _ _ _ _ _ _ _ _ _ _
      | exact ih3 _ _ _ _ _ _ _ _ _ _ _ _ _ _ _
      | exact ih4 _ _ _ _ _ _ _ _ _ _ _ _ _ _ _
      | exact ih5 _ _ _ _ _ _ _ _ _ _ _ _ _ _ _ _ _ _
      | exact impl_Checksum.mono _ _
      | exact impl_FalseHead.mono _ _ _ _ _
      | exact impl_okSegment.mono _ _ _ _ _ _ _ _ _ _ _ _ _
      | exact impl_put.mono _ _ _ _
      | exact LeO.none _
      | refine LeO.ite ?_ ?_
      | refine LeO.bind ?_ (fun _ => ?_)
    · intro y0 y1 y2 y3 y4 y5 y6 y7 y8 y9 aa ab ac ad ae
      unfold impl_EncodeSegment.j5
      repeat' first
      | (with_reducible exact ih0 _ _ _ _ _ _ _ _ _ _ _ _ _ _ _)
      | (with_reducible exact ih1 _ _ _ _ _ _ _ _ _ _ _ _ _ _ _)
      | (with_reducible exact ih2 _ _ _ _ _ _ _ _ _ _ _ _ _ _ _)
      | (with_reducible exact ih3 _ _ _ _ _ _ _ _ _ _ _ _ _ _ _)
      | (with_reducible exact ih4 _ _ _ _ _ _ _ _ _ _ _ _ _ _ _)
      | (with_reducible exact ih5 _ _ _ _ _ _ _ _ _ _ _ _ _ _ _ _ _ _)
      | (with_reducible exact impl_Checksum.mono _ _)
      | (with_reducible exact impl_FalseHead.mono _ _ _ _ _)
      | (with_reducible exact impl_okSegment.mono _ _ _ _ _ _ _ _ _ _ _ _ _)
      | (with_reducible exact impl_put.mono _ _ _ _)
      | (with_reducible exact LeO.refl _)
      | (with_reducible exact LeO.none _)
      | (with_reducible refine LeO.ite ?_ ?_)
      | (with_reducible refine LeO.bind ?_ (fun _ => ?_))
      | exact ih0 _ _ _ _ _ _ _ _ _ _ _ _ _ _ _
      | exact ih1 _ _ _ _ _ _ _ _ _ _ _ _ _ _ _
      | exact ih2 _ _ _ _ _ _ _ _ _ _ _ _ _ _ _
      | exact ih3 _ _ _ _ _ _ _ _ _ _ _ _ _ _ _
      | exact ih4 _ _ _ _ _ _ _ _ _ _ _ _ _ _ _
      | exact ih5 _ _ _ _ _ _ _ _ _ _ _ _ _ _ _ _ _ _
      | exact impl_Checksum.mono _ _
      | exact impl_FalseHead.mono _ _ _ _ _
      | exact impl_okSegment.mono _ _ _ _ _ _ _ _ _ _ _ _ _
      | exact impl_put.mono _ _ _ _
      | exact LeO.none _
      | refine LeO.ite ?_ ?_
      | refine LeO.bind ?_ (fun _ => ?_)
    · intro y0 y1 y2 y3 y4 y5 y6 y7 y8 y9 aa ab ac ad ae af ag ah
      unfold impl_EncodeSegment.l0
      repeat' first
      | (with_reducible exact ih0 _ _ _ _ _ _ _ _ _ _ _ _ _ _ _)
      | (with_reducible exact ih1 _ _ _ _ _ _ _ _ _ _ _ _ _ _ _)
      | (with_reducible exact ih2 _ _ _ _ _ _ _ _ _ _ _ _ _ _ _)
      | (with_reducible exact ih3 _ _ _ _ _ _ _ _ _ _ _ _ _ _ _)
      | (with_reducible exact ih4 _ _ _ _ _ _ _ _ _ _ _ _ _ _ _)
      | (with_reducible exact ih5 _ _ _ _ _ _ _ _ _ _ _ _ _ _ _ _ _ _)
      | (with_reducible exact impl_Checksum.mono _ _)
      | (with_reducible exact impl_FalseHead.mono _ _ _ _ _)
      | (with_reducible exact impl_okSegment.mono _ _ _ _ _ _ _ _ _ _ _ _ _)
      | (with_reducible exact impl_put.mono _ _ _ _)
      | (with_reducible exact LeO.refl _)
      | (with_reducible exact LeO.none _)
      | (with_reducible refine LeO.ite ?_ ?_)
      | (with_reducible refine LeO.bind ?_ (fun _ => ?_))
      | exact ih0 _ _ _ _ _ _ _ _ _ _ _ _ _ _ _
      | exact ih1 _ _ _ _ _ _ _ _ _ _ _ _ _ _ _
      | exact ih2 _ _ _ _ _ _ _ _ _ _ _ _ _ _ _
      | exact ih3 _ _ _ _ _ _ _ _ _ _ _ _ _ _ _
      | exact ih4 _ _ _ _ _ _ _ _ _ _ _ _ _ _ _
      | exact ih5 _ _ _ _ _ _ _ _ _ _ _ _ _ _ _ _ _ _
      | exact impl_Checksum.mono _ _
      | exact impl_FalseHead.mono _ _ _ _ _
      | exact impl_okSegment.mono _ _ _ _ _ _ _ _ _ _ _ _ _
      | exact impl_put.mono _ _ _ _
      | exact LeO.none _
      | refine LeO.ite ?_ ?_
      | refine LeO.bind ?_ (fun _ => ?_)
theorem impl_EncodeSegment.mono : ∀ a0 a1 a2 a3 a4 a5 a6 a7 a8 a9 aa ab ac ad k, LeO (impl_EncodeSegment.f k a0 a1 a2 a3 a4 a5 a6 a7 a8 a9 aa ab ac ad) (impl_EncodeSegment.f (k + 1) a0 a1 a2 a3 a4 a5 a6 a7 a8 a9 aa ab ac ad) := by
 intro a0 a1 a2 a3 a4 a5 a6 a7 a8 a9 aa ab ac ad k
 obtain ⟨ih0, ih1, ih2, ih3, ih4, ih5⟩ := impl_EncodeSegment.mono_l k
 unfold impl_EncodeSegment.f
 repeat' first
     | (with_reducible exact ih0 _ _ _ _ _ _ _ _ _ _ _ _ _ _ _)
     | (with_reducible exact ih1 _ _ _ _ _ _ _ _ _ _ _ _ _ _ _)
     | (with_reducible exact ih2 _ _ _ _ _ _ _ _ _ _ _ _ _ _ _)
     | (with_reducible exact ih3 _ _ _ _ _ _ _ _ _ _ _ _ _ _ _)
     | (with_reducible exact ih4 _ _ _ _ _ _ _ _ _ _ _ _ _ _ _)
     | (with_reducible exact ih5 _ _ _ _ _ _ _ _ _ _ _ _ _ _ _ _ _ _)
     | (with_reducible exact impl_Checksum.mono _ _)
     | (with_reducible exact impl_FalseHead.mono _ _ _ _ _)
     | (with_reducible exact impl_okSegment.mono _ _ _ _ _ _ _ _ _ _ _ _ _)
     | (with_reducible exact impl_put.mono _ _ _ _)
     | (with_reducible exact LeO.refl _)
     | (with_reducible exact LeO.none _)
     | (with_reducible refine LeO.ite ?_ ?_)
     | (with_reducible refine LeO.bind ?_ (fun _ => ?_))
     | exact ih0 _ _ _ _ _ _ _ _ _ _ _ _ _ _ _
     | exact ih1 _ _ _ _ _ _ _ _ _ _ _ _ _ _ _
     | exact ih2 _ _ _ _ _ _ _ _ _ _ _ _ _ _ _
     | exact ih3 _ _ _ _ _ _ _ _ _ _ _ _ _ _ _
     | exact ih4 _ _ _ _ _ _ _ _ _ _ _ _ _ _ _
     | exact ih5 _ _ _ _ _ _ _ _ _ _ _ _ _ _ _ _ _ _
     | exact impl_Checksum.mono _ _
     | exact impl_FalseHead.mono _ _ _ _ _
     | exact impl_okSegment.mono _ _ _ _ _ _ _ _ _ _ _ _ _
     | exact impl_put.mono _ _ _ _
     | exact LeO.none _
     | refine LeO.ite ?_ ?_
     | refine LeO.bind ?_ (fun _ => ?_)
def impl_EncodeSegment.T16 : Bool × List (List Nat × List Nat) := (true, [([], []), ([], []), ([1], [1]), ([0, 2], [0, 2]), ([], []), ([4], [4]), ([3, 5, 3], [3, 5]), ([6, 6, 0, 1, 2, 3, 4, 5, 6], [0, 6])])
def impl_EncodeSegment.B16 : List Nat := [0, 0, 2, 7, 0, 16, 63, 127]
theorem impl_EncodeSegment.tab16 : rtab .any (opsOf Try.f22 16) = impl_EncodeSegment.T16 := by kernel_rfl
theorem impl_EncodeSegment.bits16 : waitsOk impl_EncodeSegment.T16.2 impl_EncodeSegment.B16 = true := by kernel_rfl
def impl_EncodeSegment.T21 : Bool × List (List Nat × List Nat) := (true, [([], []), ([0], [0]), ([1], [1]), ([], []), ([3], [3]), ([2, 4, 2], [2, 4]), ([], []), ([6], [6]), ([5, 7, 5], [5, 7]), ([], []), ([9], [9]), ([8, 10, 8], [8, 10]), ([11, 11, 0, 1, 2, 3, 4, 5, 6, 7, 8, 9, 10, 11], [11])])
def impl_EncodeSegment.B21 : List Nat := [0, 1, 3, 0, 8, 31, 0, 64, 255, 0, 512, 2047, 4095]
theorem impl_EncodeSegment.tab21 : rtab .any (opsOf Try.f22 21) = impl_EncodeSegment.T21 := by kernel_rfl
theorem impl_EncodeSegment.bits21 : waitsOk impl_EncodeSegment.T21.2 impl_EncodeSegment.B21 = true := by kernel_rfl
set_option maxHeartbeats 8000000 in
set_option maxRecDepth 100000 in
theorem impl_EncodeSegment.calls (k : Nat) (am : Int) (al : Int) (ak : Int) (aj : Int) (ag : Int) (ah : Int) (ae : Int) (ap : Bool) (ai : Int) (aq : Bool) (A0_10 : Option Addr) (aJ : Nat) (ab : List (S60)) (A0_11 : Option Addr) (aK : Nat) (ad : List Int) (a1 : Int) (a2 : Int) (r1 : List Int) (r2 : Int) (w : World) (hr0_10 : Kd.C k60 w A0_10 ab.length ab) (hc0_10 : ab.length ≤ aJ) (hr0_11 : Kd.C (Kd.int .u8) w A0_11 ad.length ad) (hc0_11 : ad.length ≤ aK) (h : impl_EncodeSegment.f k am al ak aj ag ah ae ap ai aq ab ad a1 a2 = some (r1, r2)) :
 Calls Try.prog 22 #[.agg #[.int .i64 am, .int .i64 al, .int .i64 ak, .int .i64 aj, .int .i64 ag, .int .i64 ah, .int .i64 ae, .bool ap, .int .i64 ai, .bool aq, .slice A0_10 ab.length aJ, .slice A0_11 ad.length aK], .int .i64 a1, .int .i64 a2] w fun e w' => ∃ v0_ : Value, e = .returned (.tuple #[v0_, .int .i64 r2]) ∧ Kd.R (Kd.int .u8) 5 w' w.heap.size (fun _ => True) v0_ r1 ∧ Below w.heap.size w w' := by
 have hu25 := Try.underlying25
 have hu60 := Try.underlying60
 have HR0_10 := Aside0.mk hr0_10
 have fo := Aside0.mk hc0_10
 clear hr0_10 hc0_10
 have HR0_11 := Aside0.mk hr0_11
 have fp := Aside0.mk hc0_11
 clear hr0_11 hc0_11
 have HB := Aside0.mk (Below.refl w.heap.size w)
 have H : ((impl_okSegment.f k am al ak aj ag ah ae ap ai aq ab ad).bind fun gt => (if gt = true then ((impl_isAddr.f a1).bind fun dB => (if dB = true then ((impl_isAddr.f a2).bind fun aY => (impl_EncodeSegment.j0 k a1 a2 (!aY) am al ak aj ag ah ae ap ai aq ab ad)) else (impl_EncodeSegment.j0 k a1 a2 true am al ak aj ag ah ae ap ai aq ab ad))) else (impl_EncodeSegment.j0 k a1 a2 true am al ak aj ag ah ae ap ai aq ab ad))) = some (r1, r2) := h
 clear h
 have hf := Aside0.mk H
 clear H
 go_enter Try.func22, Try.ntmps22
 go_upto_region 1 with (first | ((with_reducible refine gate_dst (N := 3) rfl ?_); refine box_event ?hg (N := 3) ?hd (cs := #[.int .i64 am, .int .i64 al, .int .i64 ak, .int .i64 aj, .int .i64 ag, .int .i64 ah, .int .i64 ae, .bool ap, .int .i64 ai, .bool aq, .slice A0_10 ab.length aJ, .slice A0_11 ad.length aK]) (t := 25) ?hr ?_; (case hd => rfl); (case hg => rfl); (case hr => first | (go_simp; done) | (go_simp; rfl)); intro an hg w5 hbox hb; have n0_ := Aside0.mk (below_step wB hb); have n1_ := Aside0.mk (hbox); have n2_ := Aside0.mk ((by rw [hg]; exact (below_size wB) : w.heap.size ≤ an)); have n3_ := Aside0.mk ((by rw [hg]; exact (below_size wB) : w.heap.size ≤ an)); clear HB; have HB := n0_; have aa := n1_; have jP := n2_; have cm := n3_; clear n0_ n1_ n2_ n3_; clear hb hbox hg))
 (try simp only [Act.put, List.setIfInBounds_toArray, List.set_cons_zero, List.set_cons_succ])
 go_cut [27] (fun jN wc => ∃ (kq : Nat) (fi : Bool), jN = .bool fi ∧ Aside0 (impl_EncodeSegment.j0 kq a1 a2 fi am al ak aj ag ah ae ap ai aq ab ad = some (r1, r2)) ∧ Aside0 (kq ≤ k) ∧ Aside0 (wc.heap[an]? = some (.cells #[.int .i64 am, .int .i64 al, .int .i64 ak, .int .i64 aj, .int .i64 ag, .int .i64 ah, .int .i64 ae, .bool ap, .int .i64 ai, .bool aq, (.slice A0_10 ab.length aJ), (.slice A0_11 ad.length aK)] 25 (0, 0))) ∧ Aside0 (Below w.heap.size w wc))
 case first => (
 have H := hf.out
 clear hf
 replace H := Option.bind_eq_some_iff.mp H
 obtain ⟨gt, A60, H⟩ := H
 replace H : (if gt = true then ((impl_isAddr.f a1).bind fun dB => (if dB = true then ((impl_isAddr.f a2).bind fun aY => (impl_EncodeSegment.j0 k a1 a2 (!aY) am al ak aj ag ah ae ap ai aq ab ad)) else (impl_EncodeSegment.j0 k a1 a2 true am al ak aj ag ah ae ap ai aq ab ad))) else (impl_EncodeSegment.j0 k a1 a2 true am al ak aj ag ah ae ap ai aq ab ad)) = some (r1, r2) := H
 have A6 := Aside0.mk A60
 clear A60
 by_cases c7 : gt = true
 {
 subst c7
 have H1 : ((impl_isAddr.f a1).bind fun dB => (if dB = true then ((impl_isAddr.f a2).bind fun aY => (impl_EncodeSegment.j0 k a1 a2 (!aY) am al ak aj ag ah ae ap ai aq ab ad)) else (impl_EncodeSegment.j0 k a1 a2 true am al ak aj ag ah ae ap ai aq ab ad))) = some (r1, r2) := by rw [if_pos rfl] at H; exact H
 clear H
 have H := H1
 clear H1
 replace H := Option.bind_eq_some_iff.mp H
 obtain ⟨dB, A80, H⟩ := H
 replace H : (if dB = true then ((impl_isAddr.f a2).bind fun aY => (impl_EncodeSegment.j0 k a1 a2 (!aY) am al ak aj ag ah ae ap ai aq ab ad)) else (impl_EncodeSegment.j0 k a1 a2 true am al ak aj ag ah ae ap ai aq ab ad)) = some (r1, r2) := H
 have A8 := Aside0.mk A80
 clear A80
 by_cases c9 : dB = true
 {
 subst c9
 have H1 : ((impl_isAddr.f a2).bind fun aY => (impl_EncodeSegment.j0 k a1 a2 (!aY) am al ak aj ag ah ae ap ai aq ab ad)) = some (r1, r2) := by rw [if_pos rfl] at H; exact H
 clear H
 have H := H1
 clear H1
 replace H := Option.bind_eq_some_iff.mp H
 obtain ⟨aY, A100, H⟩ := H
 replace H : (impl_EncodeSegment.j0 k a1 a2 (!aY) am al ak aj ag ah ae ap ai aq ab ad) = some (r1, r2) := H
 have A10 := Aside0.mk A100
 clear A100
 have H' := Aside0.mk H
 clear H
 obtain ⟨⟨bh, bi, bj, bk, bl, bm, bn, bo, bp, bq, aZ, a0⟩, br, bs, bu, bv, bw, bx, bz, bA, bB, bC, a3, a4⟩ := cells12 aa.out
 go_wp2_with (first | ((with_reducible refine gate_callee (f := 47) rfl ?_); refine goesL_ (some 16) rfl rfl Try.func47 (by kernel_rfl) rfl #[.agg #[.int .i64 am, .int .i64 al, .int .i64 ak, .int .i64 aj, .int .i64 ag, .int .i64 ah, .int .i64 ae, .bool ap, .int .i64 ai, .bool aq, .slice A0_10 ab.length aJ, .slice A0_11 ad.length aK]] rfl wT ?_; (with_reducible refine (impl_okSegment.calls k am al ak aj ag ah ae ap ai aq _ _ ab _ _ ad true _ ?side1 ?side2 ?side3 ?side4 A6.out).mono ?_); (case side1 => exact Kd.C_below HR0_10.out wB); (case side2 => exact fo.out); (case side3 => exact Kd.C_below HR0_11.out wB); (case side4 => exact fp.out); rintro e kr ⟨rfl, hb⟩; refine ⟨_, rfl, ?_⟩; have n0_ := Aside0.mk (blk_below (Bh aa) hb); have n1_ := Aside0.mk (below_step wB hb); clear aa; clear HB; have aa := n0_; have HB := n1_; clear n0_ n1_; (try clear hb); (try clear hb2); (try clear hk); (try clear hi)) | (go_at_call 28; (with_reducible refine (impl_isAddr.calls a1 true _ A8.out).mono ?_); rintro e w' ⟨rfl, ⟨nd, rfl⟩⟩) | (go_at_call 28; (with_reducible refine (impl_isAddr.calls a2 aY _ A10.out).mono ?_); rintro e w' ⟨rfl, ⟨nd, rfl⟩⟩))
 go_meet
 case rel => exact ⟨_, (!aY), (by first | rfl | (simp; done) | (simp [*]; done)), H', ⟨by first | omega | exact Nat.le_refl _⟩, ⟨Bh aa⟩, ⟨wB⟩⟩
 }
 {
 replace c9 := Bool.eq_false_iff.mpr c9
 subst c9
 have H1 : (impl_EncodeSegment.j0 k a1 a2 true am al ak aj ag ah ae ap ai aq ab ad) = some (r1, r2) := by rw [if_neg (show ¬ (false = true) by decide)] at H; exact H
 clear H
 have H := H1
 clear H1
 have H' := Aside0.mk H
 clear H
 obtain ⟨⟨bD, bE, bF, bG, bH, bI, bJ, bK, bL, bM, a5, a6⟩, bN, bO, bP, bQ, bR, bS, bT, bU, bV, bW, a7, a8⟩ := cells12 aa.out
 go_wp2_with (first | ((with_reducible refine gate_callee (f := 47) rfl ?_); refine goesL_ (some 16) rfl rfl Try.func47 (by kernel_rfl) rfl #[.agg #[.int .i64 am, .int .i64 al, .int .i64 ak, .int .i64 aj, .int .i64 ag, .int .i64 ah, .int .i64 ae, .bool ap, .int .i64 ai, .bool aq, .slice A0_10 ab.length aJ, .slice A0_11 ad.length aK]] rfl wT ?_; (with_reducible refine (impl_okSegment.calls k am al ak aj ag ah ae ap ai aq _ _ ab _ _ ad true _ ?side1 ?side2 ?side3 ?side4 A6.out).mono ?_); (case side1 => exact Kd.C_below HR0_10.out wB); (case side2 => exact fo.out); (case side3 => exact Kd.C_below HR0_11.out wB); (case side4 => exact fp.out); rintro e ks ⟨rfl, hb⟩; refine ⟨_, rfl, ?_⟩; have n0_ := Aside0.mk (blk_below (Bh aa) hb); have n1_ := Aside0.mk (below_step wB hb); clear aa; clear HB; have aa := n0_; have HB := n1_; clear n0_ n1_; (try clear hb); (try clear hb2); (try clear hk); (try clear hi)) | (go_at_call 28; (with_reducible refine (impl_isAddr.calls a1 false _ A8.out).mono ?_); rintro e w' ⟨rfl, ⟨nd, rfl⟩⟩))
 go_meet
 case rel => exact ⟨_, (true), (by first | rfl | (simp; done) | (simp [*]; done)), H', ⟨by first | omega | exact Nat.le_refl _⟩, ⟨Bh aa⟩, ⟨wB⟩⟩
 }
 }
 {
 replace c7 := Bool.eq_false_iff.mpr c7
 subst c7
 have H1 : (impl_EncodeSegment.j0 k a1 a2 true am al ak aj ag ah ae ap ai aq ab ad) = some (r1, r2) := by rw [if_neg (show ¬ (false = true) by decide)] at H; exact H
 clear H
 have H := H1
 clear H1
 have H' := Aside0.mk H
 clear H
 obtain ⟨⟨bX, bY, bZ, b0, b1, b2, b3, b4, b5, b6, a9, ba⟩, b7, b8, b9, ca, cb, cc, cd, ce, cf, cg, bb, bc⟩ := cells12 aa.out
 go_wp2_with (first | ((with_reducible refine gate_callee (f := 47) rfl ?_); refine goesL_ (some 16) rfl rfl Try.func47 (by kernel_rfl) rfl #[.agg #[.int .i64 am, .int .i64 al, .int .i64 ak, .int .i64 aj, .int .i64 ag, .int .i64 ah, .int .i64 ae, .bool ap, .int .i64 ai, .bool aq, .slice A0_10 ab.length aJ, .slice A0_11 ad.length aK]] rfl wT ?_; (with_reducible refine (impl_okSegment.calls k am al ak aj ag ah ae ap ai aq _ _ ab _ _ ad false _ ?side1 ?side2 ?side3 ?side4 A6.out).mono ?_); (case side1 => exact Kd.C_below HR0_10.out wB); (case side2 => exact fo.out); (case side3 => exact Kd.C_below HR0_11.out wB); (case side4 => exact fp.out); rintro e kt ⟨rfl, hb⟩; refine ⟨_, rfl, ?_⟩; have n0_ := Aside0.mk (blk_below (Bh aa) hb); have n1_ := Aside0.mk (below_step wB hb); clear aa; clear HB; have aa := n0_; have HB := n1_; clear n0_ n1_; (try clear hb); (try clear hb2); (try clear hk); (try clear hi)))
 go_meet
 case rel => exact ⟨_, (true), (by first | rfl | (simp; done) | (simp [*]; done)), H', ⟨by first | omega | exact Nat.le_refl _⟩, ⟨Bh aa⟩, ⟨wB⟩⟩
 }
 )
 case rest => (
 clear hf
 try clear c1
 try clear p2
 try clear c6
 try clear c7
 try clear c9
 try clear gy
 try clear bh bi aZ a0 bj bk bl bm bn bo bp bq br bs a3 a4 bu bv bw bx bz bA bB bC
 try clear bD bE a5 a6 bF bG bH bI bJ bK bL bM bN bO a7 a8 bP bQ bR bS bT bU bV bW
 try clear bX bY a9 ba bZ b0 b1 b2 b3 b4 b5 b6 b7 b8 bb bc b9 ca cb cc cd ce cf cg
 obtain ⟨kq, fi, rfl, HA, HJ3, aa, HB⟩ := hcut
 cases kq with
 | zero => exact absurd HA.out (by simp [impl_EncodeSegment.j0])
 | succ en => {
 have H := HA.out
 clear HA
 simp only [impl_EncodeSegment.j0] at H
 by_cases et : fi = true
 {
 subst et
 have H1 : (some (([] : List Int), 1)) = some (r1, r2) := by rw [if_pos rfl] at H; exact H
 clear H
 have H := H1
 clear H1
 simp only [Option.some.injEq, Prod.mk.injEq] at H
 obtain ⟨rfl, rfl⟩ := H
 go_wp2
 go_ret2
 exact ⟨_, by first | rfl | (simp [errW_none, errW_some] <;> rfl) | (simp [*, errW_none, errW_some] <;> rfl), by first | exact Kd.R_nil _ _ _ _ _ | exact Kd.N_nil _ _ _ _ _ | exact Kd.V_nil _ _ _ _ _ | exact Kd.Q_nil _ _ _ _ _ | exact Kd.S_nil _ _ _ _ _, wB⟩
 }
 {
 replace et := Bool.eq_false_iff.mpr et
 subst et
 have H1 : (if ae = 0 then (impl_EncodeSegment.j1 en a1 a2 ([] : List Int) am al ak aj ag ah ae ap ai aq ab ad) else ((some (([2, 4] : List Int) : List Int)).bind fun ch => (if ([] : List Int).length + ch.length < 140737488355328 then ((impl_put.f en (([] : List Int) ++ ch) 2 ae).bind fun cO => (impl_EncodeSegment.j1 en a1 a2 cO am al ak aj ag ah ae ap ai aq ab ad)) else (none)))) = some (r1, r2) := by rw [if_neg (show ¬ (false = true) by decide)] at H; exact H
 clear H
 have H := H1
 clear H1
 have gF := Aside0.mk H
 clear H
 obtain ⟨⟨cu, cv, cw, cx, cy, cz, cA, cB, cC, cD, ci, cj⟩, cE, cF, cG, cH, cI, cJ, cK, cL, cM, cN, ck, cl⟩ := cells12 aa.out
 go_upto_if 30 with (fail)
 go_cut [8] (fun v8 wc => ∃ (kq : Nat) (aU : List Int), Aside0 (impl_EncodeSegment.j1 kq a1 a2 aU am al ak aj ag ah ae ap ai aq ab ad = some (r1, r2)) ∧ Aside0 (kq ≤ en) ∧ Aside0 (Kd.R (Kd.int .u8) 5 wc w.heap.size (fun _ => True) v8 aU) ∧ Aside0 (wc.heap[an]? = some (.cells #[.int .i64 am, .int .i64 al, .int .i64 ak, .int .i64 aj, .int .i64 ag, .int .i64 ah, .int .i64 ae, .bool ap, .int .i64 ai, .bool aq, (.slice A0_10 ab.length aJ), (.slice A0_11 ad.length aK)] 25 (0, 0))) ∧ Aside0 (Below w.heap.size w wc))
 case first => (
 have H := gF.out
 clear gF
 by_cases dA : ae = 0
 {
 rw [if_pos dA] at H
 have c20b0 : (ae == 0) = true := beq_iff_eq.mpr dA
 have c20b1 : (ae != 0) = false := bne_eq_false_iff_eq.mpr dA
 clear dA
 (first | rw [c20b0] | (simp only [i64_w, i32_w]; rw [c20b0]) | skip)
 have H' := Aside0.mk H
 clear H
 go_wp2
 go_meet
 case rel => exact ⟨_, (([] : List Int)), H', ⟨by have := HJ3.out; first | omega | exact Nat.le_refl _⟩, ⟨by first | exact Kd.R_nil _ _ _ _ _ | exact Kd.N_nil _ _ _ _ _ | exact Kd.V_nil _ _ _ _ _ | exact Kd.Q_nil _ _ _ _ _ | exact Kd.S_nil _ _ _ _ _⟩, ⟨Bh aa⟩, ⟨wB⟩⟩
 }
 {
 rw [if_neg dA] at H
 have c20b0 : (ae == 0) = false := beq_eq_false_iff_ne.mpr dA
 have c20b1 : (ae != 0) = true := bne_iff_ne.mpr dA
 (first | rw [c20b0] | (simp only [i64_w, i32_w]; rw [c20b0]) | skip)
 obtain ⟨ch, eu⟩ : ∃ y_ : List Int, y_ = (([2, 4] : List Int)) := ⟨_, rfl⟩
 replace H : (if ([] : List Int).length + ch.length < 140737488355328 then ((impl_put.f en (([] : List Int) ++ ch) 2 ae).bind fun cO => (impl_EncodeSegment.j1 en a1 a2 cO am al ak aj ag ah ae ap ai aq ab ad)) else (none)) = some (r1, r2) := by first | (rw [eu]; with_reducible exact H) | (have H2_ := (Option.bind_some _ _).symm.trans H; rw [eu]; with_reducible exact H2_) | (have H2_ := (Option.bind_some _ _).symm.trans H; with_reducible exact H2_) | with_reducible exact H | (rw [eu]; exact H) | exact H
 have Ny343 := Aside0.mk eu
 clear eu
 by_cases ev : ([] : List Int).length + ch.length < 140737488355328
 {
 rw [if_pos ev] at H
 have LMc21 := Aside0.mk ev
 clear ev
 obtain ⟨fq, ew⟩ : ∃ y_ : List Int, y_ = (([] : List Int) ++ ch) := ⟨_, rfl⟩
 replace H : ((impl_put.f en fq 2 ae).bind fun cO => (impl_EncodeSegment.j1 en a1 a2 cO am al ak aj ag ah ae ap ai aq ab ad)) = some (r1, r2) := by first | (rw [ew]; with_reducible exact H) | (have H2_ := (Option.bind_some _ _).symm.trans H; rw [ew]; with_reducible exact H2_) | (have H2_ := (Option.bind_some _ _).symm.trans H; with_reducible exact H2_) | with_reducible exact H | (rw [ew]; exact H) | exact H
 have Ny346 := Aside0.mk ew
 clear ew
 replace H := Option.bind_eq_some_iff.mp H
 obtain ⟨cO, A220, H⟩ := H
 replace H : (impl_EncodeSegment.j1 en a1 a2 cO am al ak aj ag ah ae ap ai aq ab ad) = some (r1, r2) := H
 have A22 := Aside0.mk A220
 clear A220
 have H' := Aside0.mk H
 clear H
 try go_wp2
 have n0_ := Aside0.mk (blk_drew aa.out)
 have n1_ := Aside0.mk (below_drew1 HB.out)
 clear aa
 clear HB
 have aa := n0_
 have HB := n1_
 clear n0_ n1_
 refine start_ (n := 7) (S := fun w' => w'.cell? ⟨an, 0, none⟩ = some (.int .i64 am) ∧ w'.cell? ⟨an, 1, none⟩ = some (.int .i64 al) ∧ w'.cell? ⟨an, 2, none⟩ = some (.int .i64 ak) ∧ w'.cell? ⟨an, 3, none⟩ = some (.int .i64 aj) ∧ w'.cell? ⟨an, 4, none⟩ = some (.int .i64 ag) ∧ w'.cell? ⟨an, 5, none⟩ = some (.int .i64 ah) ∧ w'.cell? ⟨an, 6, none⟩ = some (.int .i64 ae) ∧ w'.cell? ⟨an, 7, none⟩ = some (.bool ap) ∧ w'.cell? ⟨an, 8, none⟩ = some (.int .i64 ai) ∧ w'.cell? ⟨an, 9, none⟩ = some (.bool aq) ∧ w'.cell? ⟨an, 10, none⟩ = some (.slice A0_10 ab.length aJ) ∧ w'.cell? ⟨an, 11, none⟩ = some (.slice A0_11 ad.length aK)) (ds := []) #[false, false, false, false, false, false, false] (by kernel_rfl) rfl rfl ⟨(blk_cell aa.out 0).trans rfl, (blk_cell aa.out 1).trans rfl, (blk_cell aa.out 2).trans rfl, (blk_cell aa.out 3).trans rfl, (blk_cell aa.out 4).trans rfl, (blk_cell aa.out 5).trans rfl, (blk_cell aa.out 6).trans rfl, (blk_cell aa.out 7).trans rfl, (blk_cell aa.out 8).trans rfl, (blk_cell aa.out 9).trans rfl, (blk_cell aa.out 10).trans rfl, (blk_cell aa.out 11).trans rfl⟩ (fun hHeld => ?_)
 generalize wc.drew = ku at aa HB hHeld ⊢
 refine pure_ (i := 0) (N := some 31) (v := ?_) (a' := ?_) #[true, false, false, false, false, false, false] rfl rfl (by kernel_rfl) (fun _ _ _ h => h) (Or.inl ⟨by rfl, ?_⟩) ?_ ?_
 rotate_left
 {
 intro w'
 go_simp
 with_reducible rfl
 }
 rotate_left
 {
 simp only [Act.put, List.setIfInBounds_toArray, List.set_cons_zero, List.set_cons_succ, i64_w, i32_w]
 rfl
 }
 refine pure_ (i := 3) (N := some 34) (v := ?_) (a' := ?_) #[true, false, false, true, false, false, false] rfl rfl (by kernel_rfl) (fun _ _ _ h => h) (Or.inl ⟨by rfl, ?_⟩) ?_ ?_
 rotate_left
 {
 intro w'
 go_simp
 with_reducible rfl
 }
 rotate_left
 {
 simp only [Act.put, List.setIfInBounds_toArray, List.set_cons_zero, List.set_cons_succ, i64_w, i32_w]
 rfl
 }
 refine take_ (i := 4) (N := some 35) (v := ?_) (a' := ?_) #[true, false, false, true, true, false, false] rfl rfl (by kernel_rfl) (fun _ _ _ h => h) (Or.inl ⟨by rfl, ?_⟩) hHeld ?_ ?_
 rotate_left
 {
 rintro w' ⟨s0, s1, s2, s3, s4, s5, s6, s7, s8, s9, gz, gA⟩
 go_simp
 with_reducible rfl
 }
 rotate_left
 {
 simp only [Act.put, List.setIfInBounds_toArray, List.set_cons_zero, List.set_cons_succ, i64_w, i32_w]
 rfl
 }
 refine one_ (i := 1) (N := some 32) #[true, true, false, true, true, false, false] rfl rfl (by kernel_rfl) (by decide) (fun K hK => ?_)
 refine Kd.R_lit_step (Kd.int .u8) _ 5 ?hg (N := 32) ?hd (xs := ([2, 4] : List Int)) (inner := [.int .u8 2, .int .u8 4]) (ok := fun _ => True) (okp := fun _ => True) ?hr ?hp (fun _ hk => hk) trivial (Below.refl _ _) (Nat.le_refl _) (by simp) ?_; (case hd => rfl); (case hg => rfl); (case hr => first | (go_simp; done) | (go_simp; rfl)); (case hp => exact (Reps.one (show Kd.M (Kd.int .u8) _ _ _ 2 [.int .u8 2] from rfl) (Reps.one (show Kd.M (Kd.int .u8) _ _ _ 4 [.int .u8 4] from rfl) (Reps.none _ _))))
 intro jT kv fr hb hg_ hnew_
 clear hg_ hnew_
 (first | rw [← Ny343.out] at fr | (simp only [Int.reduceToNat] at fr; rw [← Ny343.out] at fr))
 have n0_ := Aside0.mk (Kd.R_lower fr (below_size wB))
 have n1_ := Aside0.mk (blk_below (Bh aa) hb)
 have n2_ := Aside0.mk (below_step wB hb)
 clear aa
 clear HB
 have aW := n0_
 have aa := n1_
 have HB := n2_
 clear n0_ n1_ n2_
 clear hb fr
 obtain ⟨gG, gH, hh⟩ := Kd.R_slice aW.out
 (first | subst hh | (injection hh with f1_ f2_ f3_; have f4_ := f1_.symm; have f5_ := f3_.symm; clear f1_ f2_ f3_; subst f4_; subst f5_))
 refine hK.out _ _ ⟨(blk_cell aa.out 0).trans rfl, (blk_cell aa.out 1).trans rfl, (blk_cell aa.out 2).trans rfl, (blk_cell aa.out 3).trans rfl, (blk_cell aa.out 4).trans rfl, (blk_cell aa.out 5).trans rfl, (blk_cell aa.out 6).trans rfl, (blk_cell aa.out 7).trans rfl, (blk_cell aa.out 8).trans rfl, (blk_cell aa.out 9).trans rfl, (blk_cell aa.out 10).trans rfl, (blk_cell aa.out 11).trans rfl⟩ (fun hHeld => ?_)
 clear hK K
 refine norm_ (a' := ?_) ?_ ?_
 rotate_left
 {
 show Act.put _ (some 32) _ = _
 simp only [Act.put, List.setIfInBounds_toArray, List.set_cons_zero, List.set_cons_succ, i64_w, i32_w]
 rfl
 }
 refine one_ (i := 2) (N := some 33) #[true, true, true, true, true, false, false] rfl rfl (by kernel_rfl) (by decide) (fun K hK => ?_)
 refine Kd.R_append_rows_step (Kd.int .u8) (w0 := w) w.heap.size (by rfl) (.tmp 31) (.tmp 32) 22 5 (.int .u8 0) 1 rfl Try.underlying22 info5 rfl (by decide) (by omega) (.slice none 0 0) ([] : List Int) ch _ _ _ (fun k_ => some k_ ≠ (.slice gG ch.length gH : Value).ownBlock) (fun _ => False) rfl rfl ?aO ?aR (fun _ _ h => h) (fun _ h => h.elim) ?aF ?aB ?aS ?aL ?_
 (case aR => exact Ch aW)
 (case aB => exact wB)
 (case aF => exact (fun k_ hk => Kd.fresh' (Kd.R_lt (Rh aW)) k_ hk))
 (case aO => exact ((Kd.R_nil _ _ _ _ (fun k_ => some k_ ≠ (.slice gG ch.length gH : Value).ownBlock))))
 (case aS => exact (below_size wB))
 (case aL => have := LMc21.out; omega)
 intro jU kw ho hb hg hat
 rw [← Ny346.out] at ho
 have n0_ := Aside0.mk (blk_grown (Bh aa) hg (by simp [Value.ownBlock]))
 have n1_ := Aside0.mk (Kd.R_after (Kd.R_apart_nil (Rh aW)) hg hat)
 have n2_ := Aside0.mk (hb)
 have n3_ := Aside0.mk (ho)
 clear aa
 clear aW
 clear HB
 have aa := n0_
 have aW := n1_
 have HB := n2_
 have fj := n3_
 clear n0_ n1_ n2_ n3_
 clear ho hb hg hat
 obtain ⟨gI, gJ, hj⟩ := Kd.R_slice fj.out
 (first | subst hj | (injection hj with f1_ f2_ f3_; have f4_ := f1_.symm; have f5_ := f3_.symm; clear f1_ f2_ f3_; subst f4_; subst f5_))
 refine hK.out _ _ ⟨(blk_cell aa.out 0).trans rfl, (blk_cell aa.out 1).trans rfl, (blk_cell aa.out 2).trans rfl, (blk_cell aa.out 3).trans rfl, (blk_cell aa.out 4).trans rfl, (blk_cell aa.out 5).trans rfl, (blk_cell aa.out 6).trans rfl, (blk_cell aa.out 7).trans rfl, (blk_cell aa.out 8).trans rfl, (blk_cell aa.out 9).trans rfl, (blk_cell aa.out 10).trans rfl, (blk_cell aa.out 11).trans rfl⟩ (fun hHeld => ?_)
 clear hK K
 refine norm_ (a' := ?_) ?_ ?_
 rotate_left
 {
 show Act.put _ (some 33) _ = _
 simp only [Act.put, List.setIfInBounds_toArray, List.set_cons_zero, List.set_cons_succ, i64_w, i32_w]
 rfl
 }
 refine one_ (i := 5) (N := some 36) #[true, true, true, true, true, true, false] rfl rfl (by kernel_rfl) (by decide) (fun K hK => ?_)
 refine goes_ Try.func45 (by kernel_rfl) rfl #[.slice gI fq.length gJ, .int .i64 2, .int .i64 ae] (by rfl) rfl rfl wT ?_
 with_reducible refine (impl_put.calls en (fun k_ => some k_ = (.slice gI fq.length gJ : Value).ownBlock) (.slice gI fq.length gJ) fq 2 ae cO w _ ?side1 ?side2 A22.out).mono ?_
 (case side1 => repeat (first | (with_reducible first | exact HB.out | apply below_alloc | apply pw_below_drewN | apply below_drew1 | refine below_set ?_ cm.out) | exact HB.out))
 (case side2 => exact Kd.R_tight rfl fj.out)
 rintro e kx ⟨hX, rfl, aG, hb, hkp⟩
 refine ⟨_, rfl, ?_⟩
 have n0_ := Aside0.mk (blk_kept (Bh aa) hkp (fun hs_ => (fun e_ => (Kd.R_ne fj.out aa.out (by decide)) e_) hs_))
 have n1_ := Aside0.mk (Kd.R_mono (ok' := fun k_ => some k_ ≠ (hX : Value).ownBlock) (Kd.R_keptB (aW.out) hkp (fun k_ hk_ hs_ => (hk_.2) hs_)) (fun k_ hk_ => fun e_ => Or.elim (aG.1 k_ e_.symm) (fun hs_ => hk_.2.1 hs_) (fun hn_ => Nat.not_le.2 hk_.2.2 hn_)))
 have n2_ := Aside0.mk (Kd.R_mono (ok' := fun k_ => some k_ ≠ (.slice gG ch.length gH : Value).ownBlock) aG (fun k_ hk_ => Or.elim hk_ (fun hs_ => fun e_ => (((aW.out).1 k_ e_.symm).2) hs_) (fun hn_ => (Kd.fresh' (Kd.R_lt (Rh aW)) k_ hn_))))
 have n3_ := Aside0.mk (hb)
 clear aa
 clear aW
 clear HB
 clear fj
 have aa := n0_
 have aW := n1_
 have hD := n2_
 have HB := n3_
 clear n0_ n1_ n2_ n3_
 (try clear hb)
 (try clear hkp)
 (try clear aG)
 refine hK.out _ _ ⟨(blk_cell aa.out 0).trans rfl, (blk_cell aa.out 1).trans rfl, (blk_cell aa.out 2).trans rfl, (blk_cell aa.out 3).trans rfl, (blk_cell aa.out 4).trans rfl, (blk_cell aa.out 5).trans rfl, (blk_cell aa.out 6).trans rfl, (blk_cell aa.out 7).trans rfl, (blk_cell aa.out 8).trans rfl, (blk_cell aa.out 9).trans rfl, (blk_cell aa.out 10).trans rfl, (blk_cell aa.out 11).trans rfl⟩ (fun hHeld => ?_)
 clear hK K
 refine norm_ (a' := ?_) ?_ ?_
 rotate_left
 {
 show Act.put _ (some 36) _ = _
 simp only [Act.put, List.setIfInBounds_toArray, List.set_cons_zero, List.set_cons_succ, i64_w, i32_w]
 rfl
 }
 refine pure_ (i := 6) (N := some 8) (v := ?_) (a' := ?_) #[true, true, true, true, true, true, true] rfl rfl (by kernel_rfl) (fun _ _ _ h => h) (Or.inl ⟨by rfl, ?_⟩) ?_ ?_
 rotate_left
 {
 intro w'
 go_simp
 with_reducible rfl
 }
 rotate_left
 {
 simp only [Act.put, List.setIfInBounds_toArray, List.set_cons_zero, List.set_cons_succ, i64_w, i32_w]
 rfl
 }
 refine done_ (by kernel_rfl) ?_
 try go_wp2
 go_meet
 case rel => exact ⟨_, (cO), H', ⟨by have := HJ3.out; first | omega | exact Nat.le_refl _⟩, ⟨Kd.R_mono (Rh hD) (fun _ hk => trivial)⟩, ⟨Bh aa⟩, ⟨wB⟩⟩
 }
 {
 rw [if_neg ev] at H
 exact absurd H (by simp)
 }
 }
 )
 case rest => (
 clear gF
 try clear c1
 try clear c2
 try clear p2
 try clear c6
 try clear c7
 try clear c9
 try clear gy
 try clear et
 try clear dA
 try clear c20b0
 try clear c20b1
 try clear ev
 try clear bh bi aZ a0 bj bk bl bm bn bo bp bq br bs a3 a4 bu bv bw bx bz bA bB bC
 try clear bD bE a5 a6 bF bG bH bI bJ bK bL bM bN bO a7 a8 bP bQ bR bS bT bU bV bW
 try clear bX bY a9 ba bZ b0 b1 b2 b3 b4 b5 b6 b7 b8 bb bc b9 ca cb cc cd ce cf cg
 try clear cu cv ci cj cw cx cy cz cA cB cC cD cE cF ck cl cG cH cI cJ cK cL cM cN
 try clear p2
 obtain ⟨kq, aU, HA, HJ17, HO_8, aa, HB⟩ := hcut
 cases kq with
 | zero => exact absurd HA.out (by simp [impl_EncodeSegment.j1])
 | succ fs => {
 have H := HA.out
 clear HA
 simp only [impl_EncodeSegment.j1] at H
 have gK := Aside0.mk H
 clear H
 obtain ⟨⟨dG, dH, dI, dJ, dK, dL, dM, dN, dO, dP, cP, cQ⟩, dQ, dR, dS, dT, dU, dV, dW, dX, dY, dZ, cR, cS⟩ := cells12 aa.out
 go_upto_if 38 with (fail)
 go_cut [8] (fun v8 wc => ∃ (kq : Nat) (aV : List Int), Aside0 (impl_EncodeSegment.j2 kq a1 a2 aV am al ak aj ag ah ae ap ai aq ab ad = some (r1, r2)) ∧ Aside0 (kq ≤ fs) ∧ Aside0 (Kd.R (Kd.int .u8) 5 wc w.heap.size (fun _ => True) v8 aV) ∧ Aside0 (wc.heap[an]? = some (.cells #[.int .i64 am, .int .i64 al, .int .i64 ak, .int .i64 aj, .int .i64 ag, .int .i64 ah, .int .i64 ae, .bool ap, .int .i64 ai, .bool aq, (.slice A0_10 ab.length aJ), (.slice A0_11 ad.length aK)] 25 (0, 0))) ∧ Aside0 (Below w.heap.size w wc))
 case first => (
 have H := gK.out
 clear gK
 by_cases ff : ap = true
 {
 subst ff
 have H1 : ((some (([1, 3, 3, (ai) % 256] : List Int) : List Int)).bind fun cT => (if aU.length + cT.length < 140737488355328 then (impl_EncodeSegment.j2 fs a1 a2 (aU ++ cT) am al ak aj ag ah ae true ai aq ab ad) else (none))) = some (r1, r2) := by rw [if_pos rfl] at H; exact H
 clear H
 have H := H1
 clear H1
 obtain ⟨cT, ex⟩ : ∃ y_ : List Int, y_ = (([1, 3, 3, (ai) % 256] : List Int)) := ⟨_, rfl⟩
 replace H : (if aU.length + cT.length < 140737488355328 then (impl_EncodeSegment.j2 fs a1 a2 (aU ++ cT) am al ak aj ag ah ae true ai aq ab ad) else (none)) = some (r1, r2) := by first | (rw [ex]; with_reducible exact H) | (have H2_ := (Option.bind_some _ _).symm.trans H; rw [ex]; with_reducible exact H2_) | (have H2_ := (Option.bind_some _ _).symm.trans H; with_reducible exact H2_) | with_reducible exact H | (rw [ex]; exact H) | exact H
 have Ny352 := Aside0.mk ex
 clear ex
 by_cases fg : aU.length + cT.length < 140737488355328
 {
 rw [if_pos fg] at H
 have LMc33 := Aside0.mk fg
 clear fg
 obtain ⟨hl, ey⟩ : ∃ y_ : List Int, y_ = (aU ++ cT) := ⟨_, rfl⟩
 replace H : (impl_EncodeSegment.j2 fs a1 a2 hl am al ak aj ag ah ae true ai aq ab ad) = some (r1, r2) := by first | (rw [ey]; with_reducible exact H) | (have H2_ := (Option.bind_some _ _).symm.trans H; rw [ey]; with_reducible exact H2_) | (have H2_ := (Option.bind_some _ _).symm.trans H; with_reducible exact H2_) | with_reducible exact H | (rw [ey]; exact H) | exact H
 have Ny355 := Aside0.mk ey
 clear ey
 have H' := Aside0.mk H
 clear H
 obtain ⟨⟨d0, d1, d2, d3, d4, d5, d6, d7, d8, d9, cU, cV⟩, ea, eb, ec, ed, ee, ef, eg, eh, ei, ej, cW, cX⟩ := cells12 aa.out
 go_wp2_with (first | ((with_reducible refine gate_dst (N := 43) rfl ?_); refine Kd.R_lit (Kd.int .u8) _ 5 ?hg (N := 43) ?hd (xs := ([1, 3, 3, (ai) % 256] : List Int)) (inner := [.int .u8 1, .int .u8 3, .int .u8 3, .int .u8 ((ai) % 256)]) (ok := fun _ => True) (okp := fun _ => True) ?hr ?hp (fun _ hk => hk) trivial (Below.refl _ _) (Nat.le_refl _) (by simp) ?_; (case hd => rfl); (case hg => rfl); (case hr => first | (go_simp; done) | (go_simp; rfl)); (case hp => exact (Reps.one (show Kd.M (Kd.int .u8) _ _ _ 1 [.int .u8 1] from rfl) (Reps.one (show Kd.M (Kd.int .u8) _ _ _ 3 [.int .u8 3] from rfl) (Reps.one (show Kd.M (Kd.int .u8) _ _ _ 3 [.int .u8 3] from rfl) (Reps.one (show Kd.M (Kd.int .u8) _ _ _ ((ai) % 256) [.int .u8 ((ai) % 256)] from rfl) (Reps.none _ _)))))); intro jV ky eP hb hg_ hnew_; clear hg_ hnew_; (first | rw [← Ny352.out] at eP | (simp only [Int.reduceToNat] at eP; rw [← Ny352.out] at eP)); have n0_ := Aside0.mk (Kd.R_elder' (Rh HO_8) (Kd.R_base eP) hb); have n1_ := Aside0.mk (Kd.R_lower (Kd.R_new' eP (Kd.R_lt (Rh HO_8))) (below_size wB)); have n2_ := Aside0.mk (blk_below (Bh aa) hb); have n3_ := Aside0.mk (below_step wB hb); clear HO_8; clear aa; clear HB; have HO_8 := n0_; have ek := n1_; have aa := n2_; have HB := n3_; clear n0_ n1_ n2_ n3_; clear hb eP; obtain ⟨hY, hZ, h0⟩ := Kd.R_slice ek.out; subst h0) | ((with_reducible refine gate_builtin (b := .append) (xs := #[.tmp 39, .tmp 43]) rfl ?_); at_builtin; refine Kd.R_append_rows (Kd.int .u8) (w0 := w) w.heap.size rfl (.tmp 39) (.tmp 43) 22 5 (.int .u8 0) 1 rfl Try.underlying22 info5 rfl (by decide) (by omega) u8 aU cT _ _ _ (fun k_ => some k_ ≠ (.slice hY cT.length hZ : Value).ownBlock) (fun _ => False) rfl rfl ?aO ?aR (fun _ _ h => h) (fun _ h => h.elim) ?aF ?aB ?aS ?aL ?_; (case aR => exact Ch ek); (case aB => exact wB); (case aF => exact (fun k_ hk => Kd.fresh' (Kd.R_lt (Rh ek)) k_ hk)); (case aO => exact (Kd.R_mono (Rh HO_8) (fun _ hk => hk.2))); (case aS => exact (below_size wB)); (case aL => have := LMc33.out; omega); intro jW kz ho hb hg hat; rw [← Ny355.out] at ho; have n0_ := Aside0.mk (blk_grown (Bh aa) hg (Kd.R_ne HO_8.out aa.out (by decide))); have n1_ := Aside0.mk (Kd.R_after (ok := (fun _ => True)) (Rh ek) hg hat); have n2_ := Aside0.mk (hb); have n3_ := Aside0.mk (ho); clear aa; clear ek; clear HB; clear HO_8; have aa := n0_; have ek := n1_; have HB := n2_; have hE := n3_; clear n0_ n1_ n2_ n3_; clear ho hb hg hat))
 go_meet
 case rel => exact ⟨_, (hl), H', ⟨by have := HJ3.out; have := HJ17.out; first | omega | exact Nat.le_refl _⟩, ⟨Kd.R_mono (Rh hE) (fun _ hk => trivial)⟩, ⟨Bh aa⟩, ⟨wB⟩⟩
 }
 {
 rw [if_neg fg] at H
 exact absurd H (by simp)
 }
 }
 {
 replace ff := Bool.eq_false_iff.mpr ff
 subst ff
 have H1 : (impl_EncodeSegment.j2 fs a1 a2 aU am al ak aj ag ah ae false ai aq ab ad) = some (r1, r2) := by rw [if_neg (show ¬ (false = true) by decide)] at H; exact H
 clear H
 have H := H1
 clear H1
 have H' := Aside0.mk H
 clear H
 go_wp2
 go_meet
 case rel => exact ⟨_, (aU), H', ⟨by have := HJ3.out; have := HJ17.out; first | omega | exact Nat.le_refl _⟩, ⟨Rh HO_8⟩, ⟨Bh aa⟩, ⟨wB⟩⟩
 }
 )
 case rest => (
 clear gK
 try clear c1
 try clear c2
 try clear p2
 try clear c3
 try clear c6
 try clear c7
 try clear c9
 try clear gy
 try clear et
 try clear dA
 try clear c20b0
 try clear c20b1
 try clear ev
 try clear ff
 try clear fg
 try clear bh bi aZ a0 bj bk bl bm bn bo bp bq br bs a3 a4 bu bv bw bx bz bA bB bC
 try clear bD bE a5 a6 bF bG bH bI bJ bK bL bM bN bO a7 a8 bP bQ bR bS bT bU bV bW
 try clear bX bY a9 ba bZ b0 b1 b2 b3 b4 b5 b6 b7 b8 bb bc b9 ca cb cc cd ce cf cg
 try clear cu cv ci cj cw cx cy cz cA cB cC cD cE cF ck cl cG cH cI cJ cK cL cM cN
 try clear dG dH cP cQ dI dJ dK dL dM dN dO dP dQ dR cR cS dS dT dU dV dW dX dY dZ
 try clear d0 d1 cU cV d2 d3 d4 d5 d6 d7 d8 d9 ea eb cW cX ec ed ee ef eg eh ei ej
 try clear p2
 obtain ⟨kq, aV, HA, HJ29, HO_8, aa, HB⟩ := hcut
 cases kq with
 | zero => exact absurd HA.out (by simp [impl_EncodeSegment.j2])
 | succ ft => {
 have H := HA.out
 clear HA
 simp only [impl_EncodeSegment.j2] at H
 have gL := Aside0.mk H
 clear H
 obtain ⟨⟨eQ, eR, eS, eT, eU, eV, eW, eX, eY, eZ, eo, ep⟩, e0, e1, e2, e3, e4, e5, e6, e7, e8, e9, eq, er⟩ := cells12 aa.out
 go_upto_if 46 with (fail)
 go_cut [8] (fun v8 wc => ∃ (kq : Nat) (bd : List Int), Aside0 (impl_EncodeSegment.j3 kq a1 a2 bd am al ak aj ag ah ae ap ai aq ab ad = some (r1, r2)) ∧ Aside0 (kq ≤ ft) ∧ Aside0 (Kd.R (Kd.int .u8) 5 wc w.heap.size (fun _ => True) v8 bd) ∧ Aside0 (wc.heap[an]? = some (.cells #[.int .i64 am, .int .i64 al, .int .i64 ak, .int .i64 aj, .int .i64 ag, .int .i64 ah, .int .i64 ae, .bool ap, .int .i64 ai, .bool aq, (.slice A0_10 ab.length aJ), (.slice A0_11 ad.length aK)] 25 (0, 0))) ∧ Aside0 (Below w.heap.size w wc))
 case first => (
 have H := gL.out
 clear gL
 by_cases fu : aq = true
 {
 subst fu
 have H1 : ((some (([1, 1, 4, 2] : List Int) : List Int)).bind fun cY => (if aV.length + cY.length < 140737488355328 then (impl_EncodeSegment.j3 ft a1 a2 (aV ++ cY) am al ak aj ag ah ae ap ai true ab ad) else (none))) = some (r1, r2) := by rw [if_pos rfl] at H; exact H
 clear H
 have H := H1
 clear H1
 obtain ⟨cY, ez⟩ : ∃ y_ : List Int, y_ = (([1, 1, 4, 2] : List Int)) := ⟨_, rfl⟩
 replace H : (if aV.length + cY.length < 140737488355328 then (impl_EncodeSegment.j3 ft a1 a2 (aV ++ cY) am al ak aj ag ah ae ap ai true ab ad) else (none)) = some (r1, r2) := by first | (rw [ez]; with_reducible exact H) | (have H2_ := (Option.bind_some _ _).symm.trans H; rw [ez]; with_reducible exact H2_) | (have H2_ := (Option.bind_some _ _).symm.trans H; with_reducible exact H2_) | with_reducible exact H | (rw [ez]; exact H) | exact H
 have Ny358 := Aside0.mk ez
 clear ez
 by_cases fv : aV.length + cY.length < 140737488355328
 {
 rw [if_pos fv] at H
 have LMc42 := Aside0.mk fv
 clear fv
 obtain ⟨hm, eA⟩ : ∃ y_ : List Int, y_ = (aV ++ cY) := ⟨_, rfl⟩
 replace H : (impl_EncodeSegment.j3 ft a1 a2 hm am al ak aj ag ah ae ap ai true ab ad) = some (r1, r2) := by first | (rw [eA]; with_reducible exact H) | (have H2_ := (Option.bind_some _ _).symm.trans H; rw [eA]; with_reducible exact H2_) | (have H2_ := (Option.bind_some _ _).symm.trans H; with_reducible exact H2_) | with_reducible exact H | (rw [eA]; exact H) | exact H
 have Ny361 := Aside0.mk eA
 clear eA
 have H' := Aside0.mk H
 clear H
 go_wp2_with (first | ((with_reducible refine gate_dst (N := 48) rfl ?_); refine Kd.R_lit (Kd.int .u8) _ 5 ?hg (N := 48) ?hd (xs := ([1, 1, 4, 2] : List Int)) (inner := [.int .u8 1, .int .u8 1, .int .u8 4, .int .u8 2]) (ok := fun _ => True) (okp := fun _ => True) ?hr ?hp (fun _ hk => hk) trivial (Below.refl _ _) (Nat.le_refl _) (by simp) ?_; (case hd => rfl); (case hg => rfl); (case hr => first | (go_simp; done) | (go_simp; rfl)); (case hp => exact (Reps.one (show Kd.M (Kd.int .u8) _ _ _ 1 [.int .u8 1] from rfl) (Reps.one (show Kd.M (Kd.int .u8) _ _ _ 1 [.int .u8 1] from rfl) (Reps.one (show Kd.M (Kd.int .u8) _ _ _ 4 [.int .u8 4] from rfl) (Reps.one (show Kd.M (Kd.int .u8) _ _ _ 2 [.int .u8 2] from rfl) (Reps.none _ _)))))); intro jX kA fa hb hg_ hnew_; clear hg_ hnew_; (first | rw [← Ny358.out] at fa | (simp only [Int.reduceToNat] at fa; rw [← Ny358.out] at fa)); have n0_ := Aside0.mk (Kd.R_elder' (Rh HO_8) (Kd.R_base fa) hb); have n1_ := Aside0.mk (Kd.R_lower (Kd.R_new' fa (Kd.R_lt (Rh HO_8))) (below_size wB)); have n2_ := Aside0.mk (blk_below (Bh aa) hb); have n3_ := Aside0.mk (below_step wB hb); clear HO_8; clear aa; clear HB; have HO_8 := n0_; have el := n1_; have aa := n2_; have HB := n3_; clear n0_ n1_ n2_ n3_; clear hb fa; obtain ⟨h1, h2, h3⟩ := Kd.R_slice el.out; subst h3) | ((with_reducible refine gate_builtin (b := .append) (xs := #[.tmp 47, .tmp 48]) rfl ?_); at_builtin; refine Kd.R_append_rows (Kd.int .u8) (w0 := w) w.heap.size rfl (.tmp 47) (.tmp 48) 22 5 (.int .u8 0) 1 rfl Try.underlying22 info5 rfl (by decide) (by omega) u8 aV cY _ _ _ (fun k_ => some k_ ≠ (.slice h1 cY.length h2 : Value).ownBlock) (fun _ => False) rfl rfl ?aO ?aR (fun _ _ h => h) (fun _ h => h.elim) ?aF ?aB ?aS ?aL ?_; (case aR => exact Ch el); (case aB => exact wB); (case aF => exact (fun k_ hk => Kd.fresh' (Kd.R_lt (Rh el)) k_ hk)); (case aO => exact (Kd.R_mono (Rh HO_8) (fun _ hk => hk.2))); (case aS => exact (below_size wB)); (case aL => have := LMc42.out; omega); intro jY kB ho hb hg hat; rw [← Ny361.out] at ho; have n0_ := Aside0.mk (blk_grown (Bh aa) hg (Kd.R_ne HO_8.out aa.out (by decide))); have n1_ := Aside0.mk (Kd.R_after (ok := (fun _ => True)) (Rh el) hg hat); have n2_ := Aside0.mk (hb); have n3_ := Aside0.mk (ho); clear aa; clear el; clear HB; clear HO_8; have aa := n0_; have el := n1_; have HB := n2_; have hF := n3_; clear n0_ n1_ n2_ n3_; clear ho hb hg hat))
 go_meet
 case rel => exact ⟨_, (hm), H', ⟨by have := HJ3.out; have := HJ17.out; have := HJ29.out; first | omega | exact Nat.le_refl _⟩, ⟨Kd.R_mono (Rh hF) (fun _ hk => trivial)⟩, ⟨Bh aa⟩, ⟨wB⟩⟩
 }
 {
 rw [if_neg fv] at H
 exact absurd H (by simp)
 }
 }
 {
 replace fu := Bool.eq_false_iff.mpr fu
 subst fu
 have H1 : (impl_EncodeSegment.j3 ft a1 a2 aV am al ak aj ag ah ae ap ai false ab ad) = some (r1, r2) := by rw [if_neg (show ¬ (false = true) by decide)] at H; exact H
 clear H
 have H := H1
 clear H1
 have H' := Aside0.mk H
 clear H
 go_wp2
 go_meet
 case rel => exact ⟨_, (aV), H', ⟨by have := HJ3.out; have := HJ17.out; have := HJ29.out; first | omega | exact Nat.le_refl _⟩, ⟨Rh HO_8⟩, ⟨Bh aa⟩, ⟨wB⟩⟩
 }
 )
 case rest => (
 clear gL
 try clear c1
 try clear c2
 try clear p2
 try clear c3
 try clear c4
 try clear c6
 try clear c7
 try clear c9
 try clear gy
 try clear et
 try clear dA
 try clear c20b0
 try clear c20b1
 try clear ev
 try clear ff
 try clear fg
 try clear fu
 try clear fv
 try clear bh bi aZ a0 bj bk bl bm bn bo bp bq br bs a3 a4 bu bv bw bx bz bA bB bC
 try clear bD bE a5 a6 bF bG bH bI bJ bK bL bM bN bO a7 a8 bP bQ bR bS bT bU bV bW
 try clear bX bY a9 ba bZ b0 b1 b2 b3 b4 b5 b6 b7 b8 bb bc b9 ca cb cc cd ce cf cg
 try clear cu cv ci cj cw cx cy cz cA cB cC cD cE cF ck cl cG cH cI cJ cK cL cM cN
 try clear dG dH cP cQ dI dJ dK dL dM dN dO dP dQ dR cR cS dS dT dU dV dW dX dY dZ
 try clear d0 d1 cU cV d2 d3 d4 d5 d6 d7 d8 d9 ea eb cW cX ec ed ee ef eg eh ei ej
 try clear eQ eR eo ep eS eT eU eV eW eX eY eZ e0 e1 eq er e2 e3 e4 e5 e6 e7 e8 e9
 try clear p2
 obtain ⟨kq, bd, HA, HJ38, HO_8, aa, HB⟩ := hcut
 cases kq with
 | zero => exact absurd HA.out (by simp [impl_EncodeSegment.j3])
 | succ fw => {
 have H := HA.out
 clear HA
 simp only [impl_EncodeSegment.j3] at H
 have gM := Aside0.mk H
 clear H
 obtain ⟨⟨fI, fJ, fK, fL, fM, fN, fO, fP, fQ, fR, fx, fy⟩, fS, fT, fU, fV, fW, fX, fY, fZ, f2, f3, fz, fA⟩ := cells12 aa.out
 go_upto_if 54 with (fail)
 go_cut [8] (fun v8 wc => ∃ (kq : Nat) (af : List Int), Aside0 (impl_EncodeSegment.j5 kq a1 a2 af am al ak aj ag ah ae ap ai aq ab ad = some (r1, r2)) ∧ Aside0 (kq ≤ fw) ∧ Aside0 (Kd.R (Kd.int .u8) 5 wc w.heap.size (fun _ => True) v8 af) ∧ Aside0 (wc.heap[an]? = some (.cells #[.int .i64 am, .int .i64 al, .int .i64 ak, .int .i64 aj, .int .i64 ag, .int .i64 ah, .int .i64 ae, .bool ap, .int .i64 ai, .bool aq, (.slice A0_10 ab.length aJ), (.slice A0_11 ad.length aK)] 25 (0, 0))) ∧ Aside0 (Below w.heap.size w wc))
 case first => (
 have H := gM.out
 clear gM
 by_cases fh : (ab.length : Int) > 0
 {
 rw [if_pos fh] at H
 have c49b0 : decide (0 < (ab.length : Int)) = true := decide_eq_true fh
 have c49b1 : decide (0 < ab.length) = true := decide_eq_true (by omega)
 clear fh
 (first | rw [c49b0] | rw [c49b1] | (simp only [i64_w, i32_w]; rw [c49b0]) | skip)
 obtain ⟨fb, eB⟩ : ∃ y_ : List Int, y_ = (([1, 1, 5, (wrap64 ((wrap64 (8 * (ab.length : Int))) + 2)) % 256] : List Int)) := ⟨_, rfl⟩
 replace H : (if bd.length + fb.length < 140737488355328 then (impl_EncodeSegment.l0 fw a1 a2 (bd ++ fb) ab (ab.length : Int) 0 am al ak aj ag ah ae ap ai aq ab ad) else (none)) = some (r1, r2) := by first | (rw [eB]; with_reducible exact H) | (have H2_ := (Option.bind_some _ _).symm.trans H; rw [eB]; with_reducible exact H2_) | (have H2_ := (Option.bind_some _ _).symm.trans H; with_reducible exact H2_) | with_reducible exact H | (rw [eB]; exact H) | exact H
 have Ny364 := Aside0.mk eB
 clear eB
 by_cases f4 : bd.length + fb.length < 140737488355328
 {
 rw [if_pos f4] at H
 have LMc50 := Aside0.mk f4
 clear f4
 obtain ⟨hq, eC⟩ : ∃ y_ : List Int, y_ = (bd ++ fb) := ⟨_, rfl⟩
 replace H : (impl_EncodeSegment.l0 fw a1 a2 hq ab (ab.length : Int) 0 am al ak aj ag ah ae ap ai aq ab ad) = some (r1, r2) := by first | (rw [eC]; with_reducible exact H) | (have H2_ := (Option.bind_some _ _).symm.trans H; rw [eC]; with_reducible exact H2_) | (have H2_ := (Option.bind_some _ _).symm.trans H; with_reducible exact H2_) | with_reducible exact H | (rw [eC]; exact H) | exact H
 have Ny367 := Aside0.mk eC
 clear eC
 have H' := Aside0.mk H
 clear H
 go_wp2_with (first | ((with_reducible refine gate_dst (N := 60) rfl ?_); refine Kd.R_lit (Kd.int .u8) _ 5 ?hg (N := 60) ?hd (xs := ([1, 1, 5, (wrap64 ((wrap64 (8 * (ab.length : Int))) + 2)) % 256] : List Int)) (inner := [.int .u8 1, .int .u8 1, .int .u8 5, .int .u8 ((wrap64 ((wrap64 (8 * (ab.length : Int))) + 2)) % 256)]) (ok := fun _ => True) (okp := fun _ => True) ?hr ?hp (fun _ hk => hk) trivial (Below.refl _ _) (Nat.le_refl _) (by simp) ?_; (case hd => rfl); (case hg => rfl); (case hr => first | (go_simp; done) | (go_simp; rfl)); (case hp => exact (Reps.one (show Kd.M (Kd.int .u8) _ _ _ 1 [.int .u8 1] from rfl) (Reps.one (show Kd.M (Kd.int .u8) _ _ _ 1 [.int .u8 1] from rfl) (Reps.one (show Kd.M (Kd.int .u8) _ _ _ 5 [.int .u8 5] from rfl) (Reps.one (show Kd.M (Kd.int .u8) _ _ _ ((wrap64 ((wrap64 (8 * (ab.length : Int))) + 2)) % 256) [.int .u8 ((wrap64 ((wrap64 (8 * (ab.length : Int))) + 2)) % 256)] from rfl) (Reps.none _ _)))))); intro jZ kC fc hb hg_ hnew_; clear hg_ hnew_; (first | rw [← Ny364.out] at fc | (simp only [Int.reduceToNat] at fc; rw [← Ny364.out] at fc)); have n0_ := Aside0.mk (Kd.R_elder' (Rh HO_8) (Kd.R_base fc) hb); have n1_ := Aside0.mk (Kd.R_lower (Kd.R_new' fc (Kd.R_lt (Rh HO_8))) (below_size wB)); have n2_ := Aside0.mk (blk_below (Bh aa) hb); have n3_ := Aside0.mk (below_step wB hb); clear HO_8; clear aa; clear HB; have HO_8 := n0_; have em := n1_; have aa := n2_; have HB := n3_; clear n0_ n1_ n2_ n3_; clear hb fc; obtain ⟨h4, h5, h6⟩ := Kd.R_slice em.out; subst h6) | ((with_reducible refine gate_builtin (b := .append) (xs := #[.tmp 55, .tmp 60]) rfl ?_); at_builtin; refine Kd.R_append_rows (Kd.int .u8) (w0 := w) w.heap.size rfl (.tmp 55) (.tmp 60) 22 5 (.int .u8 0) 1 rfl Try.underlying22 info5 rfl (by decide) (by omega) u8 bd fb _ _ _ (fun k_ => some k_ ≠ (.slice h4 fb.length h5 : Value).ownBlock) (fun _ => False) rfl rfl ?aO ?aR (fun _ _ h => h) (fun _ h => h.elim) ?aF ?aB ?aS ?aL ?_; (case aR => exact Ch em); (case aB => exact wB); (case aF => exact (fun k_ hk => Kd.fresh' (Kd.R_lt (Rh em)) k_ hk)); (case aO => exact (Kd.R_mono (Rh HO_8) (fun _ hk => hk.2))); (case aS => exact (below_size wB)); (case aL => have := LMc50.out; omega); intro j7 kD ho hb hg hat; rw [← Ny367.out] at ho; have n0_ := Aside0.mk (blk_grown (Bh aa) hg (Kd.R_ne HO_8.out aa.out (by decide))); have n1_ := Aside0.mk (Kd.R_after (ok := (fun _ => True)) (Rh em) hg hat); have n2_ := Aside0.mk (hb); have n3_ := Aside0.mk (ho); clear aa; clear em; clear HB; clear HO_8; have aa := n0_; have em := n1_; have HB := n2_; have hG := n3_; clear n0_ n1_ n2_ n3_; clear ho hb hg hat; obtain ⟨⟨f5, f6, f7, f8, f9, ga, gb, gc, gf, gg, fB, fC⟩, gh, gi, gj, gl, gm, gn, go, gp, gq, gr, fD, fE⟩ := cells12 aa.out))
 go_loopg [8, 65] fw (fun kq v8 jO w' => ∃ (cZ : List Int) (ax : Int), jO = .int .i64 ax ∧ Aside0 (impl_EncodeSegment.l0 kq a1 a2 cZ ab (ab.length : Int) ax am al ak aj ag ah ae ap ai aq ab ad = some (r1, r2)) ∧ Aside0 (kq ≤ fw) ∧ Aside0 (Kd.R (Kd.int .u8) 5 w' w.heap.size (fun _ => True) v8 cZ) ∧ Aside0 (w'.heap[an]? = some (.cells #[.int .i64 am, .int .i64 al, .int .i64 ak, .int .i64 aj, .int .i64 ag, .int .i64 ah, .int .i64 ae, .bool ap, .int .i64 ai, .bool aq, (.slice A0_10 ab.length aJ), (.slice A0_11 ad.length aK)] 25 (0, 0))) ∧ Aside0 (Below w.heap.size w w'))
 case atStart => exact ⟨(hq), (0), (by first | rfl | (simp; done) | (simp [*]; done)), H', ⟨Nat.le_refl _⟩, ⟨Kd.R_mono (Rh hG) (fun _ hk => trivial)⟩, ⟨Bh aa⟩, ⟨wB⟩⟩
 case round => (
 clear H'
 try clear c1
 try clear c2
 try clear p2
 try clear c3
 try clear c4
 try clear c5
 try clear c6
 try clear p6
 try clear c7
 try clear c9
 try clear gy
 try clear et
 try clear dA
 try clear c20b0
 try clear c20b1
 try clear ev
 try clear ff
 try clear fg
 try clear fu
 try clear fv
 try clear fh
 try clear c49b0
 try clear c49b1
 try clear f4
 try clear bh bi aZ a0 bj bk bl bm bn bo bp bq br bs a3 a4 bu bv bw bx bz bA bB bC
 try clear bD bE a5 a6 bF bG bH bI bJ bK bL bM bN bO a7 a8 bP bQ bR bS bT bU bV bW
 try clear bX bY a9 ba bZ b0 b1 b2 b3 b4 b5 b6 b7 b8 bb bc b9 ca cb cc cd ce cf cg
 try clear cu cv ci cj cw cx cy cz cA cB cC cD cE cF ck cl cG cH cI cJ cK cL cM cN
 try clear dG dH cP cQ dI dJ dK dL dM dN dO dP dQ dR cR cS dS dT dU dV dW dX dY dZ
 try clear d0 d1 cU cV d2 d3 d4 d5 d6 d7 d8 d9 ea eb cW cX ec ed ee ef eg eh ei ej
 try clear eQ eR eo ep eS eT eU eV eW eX eY eZ e0 e1 eq er e2 e3 e4 e5 e6 e7 e8 e9
 try clear fI fJ fx fy fK fL fM fN fO fP fQ fR fS fT fz fA fU fV fW fX fY fZ f2 f3
 try clear f5 f6 fB fC f7 f8 f9 ga gb gc gf gg gh gi fD fE gj gl gm gn go gp gq gr
 try clear p2
 obtain ⟨cZ, ax, rfl, HA, hs, HO_8, aa, HB⟩ := hrel
 cases gk with
 | zero => exact absurd HA.out (by simp [impl_EncodeSegment.l0])
 | succ k5 => {
 have H := HA.out
 clear HA
 simp only [impl_EncodeSegment.l0] at H
 by_cases fF : ax < (ab.length : Int)
 {
 rw [if_pos fF] at H
 have c56b0 : decide (ax < (ab.length : Int)) = true := decide_eq_true fF
 clear fF
 by_cases gB : 0 ≤ ax
 {
 rw [if_pos gB] at H
 have c57b0 : decide (0 ≤ ax) = true := decide_eq_true gB
 clear gB
 by_cases gC : ax < (ab.length : Int)
 {
 rw [if_pos gC] at H
 have c58b0 : decide (ax < (ab.length : Int)) = true := decide_eq_true gC
 clear gC
 replace H := Option.bind_eq_some_iff.mp H
 obtain ⟨fd, A590, H⟩ := H
 replace H : ((impl_put.f k5 fd 4 ((rd_T60 ab ax).f1)).bind fun fG => (impl_EncodeSegment.l0 k5 a1 a2 fG ab (ab.length : Int) (wrap64 (ax + 1)) am al ak aj ag ah ae ap ai aq ab ad)) = some (r1, r2) := H
 have A59 := Aside0.mk A590
 clear A590
 replace H := Option.bind_eq_some_iff.mp H
 obtain ⟨fG, A600, H⟩ := H
 replace H : (impl_EncodeSegment.l0 k5 a1 a2 fG ab (ab.length : Int) (wrap64 (ax + 1)) am al ak aj ag ah ae ap ai aq ab ad) = some (r1, r2) := H
 have A60 := Aside0.mk A600
 clear A600
 have H' := Aside0.mk H
 clear H
 have p370 : 0 ≤ (ax : Int) := of_decide_eq_true (by first | (with_reducible assumption) | assumption)
 have q370 : ax < (ab.length : Int) := of_decide_eq_true (by first | (with_reducible assumption) | assumption)
 obtain ⟨ad370, e370, hx370_0, hx370_1⟩ := at_T60 HR0_10.out ax p370 q370
 cases e370
 replace hx370_0 := (HB.out.cell (World.block_lt_of_cell? w _ hx370_0)).trans hx370_0
 replace hx370_1 := (HB.out.cell (World.block_lt_of_cell? w _ hx370_1)).trans hx370_1
 replace p370 := eq_true p370
 replace q370 := eq_true q370
 try go_wp2_with (first | ((with_reducible refine gate_dst (N := 11) rfl ?_); refine box_event ?hg (N := 11) ?hd (cs := #[.int .i64 0, .int .i64 0]) (t := 60) ?hr ?_; (case hd => rfl); (case hg => rfl); (case hr => first | (go_simp; done) | (go_simp; rfl)); intro aX hg g0 hbox hb; have n0_ := Aside0.mk (Kd.R_below (Rh HO_8) hb); have n1_ := Aside0.mk (blk_below (Bh aa) hb); have n2_ := Aside0.mk (below_step wB hb); have n3_ := Aside0.mk (hbox); have n4_ := Aside0.mk ((by rw [hg]; exact (below_size wB) : w.heap.size ≤ aX)); have n5_ := Aside0.mk ((by rw [hg]; exact (below_size wB) : w.heap.size ≤ aX)); have n6_ := Aside0.mk ((by rw [hg]; exact Nat.ne_of_lt (blk_lt (Bh aa)) : an ≠ aX)); have n7_ := Aside0.mk ((by rw [hg]; exact Nat.ne_of_gt (blk_lt (Bh aa)) : aX ≠ an)); clear HO_8; clear aa; clear HB; have HO_8 := n0_; have aa := n1_; have HB := n2_; have az := n3_; have jQ := n4_; have g1 := n5_; have dC := n6_; have gD := n7_; clear n0_ n1_ n2_ n3_ n4_ n5_ n6_ n7_; clear hb hbox hg; have jR := gD.out; have jS := dC.out; obtain ⟨⟨g9, ha⟩, hc, he⟩ := cells2 az.out) | ((with_reducible refine gate_store (t := 60) (p := 11) rfl ?_); (try (rw [drewN_self g0]; generalize hq_ : World.drewN g0 _ = g0; have n0_ := Aside0.mk (Kd.R_at hq_ HO_8.out); have n1_ := Aside0.mk (blk_at hq_ aa.out); have n2_ := Aside0.mk (blk_at hq_ az.out); have n3_ := Aside0.mk (below_at hq_ HB.out); clear hq_ HO_8 aa az HB; have HO_8 := n0_; have aa := n1_; have az := n2_; have HB := n3_; clear n0_ n1_ n2_ n3_; (try (obtain ⟨⟨c0, da, db, dc, dd, de, df, dg, dh, di, co, cp⟩, dj, dk, dl, dm, dn, dp, dq, dr, dt, du, cq, cr⟩ := cells12 aa.out)); (try (obtain ⟨⟨hH, hI⟩, hJ, hL⟩ := cells2 az.out)))); refine store_event (t := 60) (p := 11) (v := ?vo_w64) (w1 := ((g0.setCell ⟨aX, 0, none⟩ (.int .i64 ((rd_T60 ab ax).f0))).setCell ⟨aX, 1, none⟩ (.int .i64 ((rd_T60 ab ax).f1)))) ?hg ?ho ?hn ?hr ?_; (case ho => rfl); (case hg => rfl); (case hn => rfl); (case hr => first | (go_simp; done) | (go_simp; rfl)); intro gE hw; have n0_ : Aside0 (Kd.R (Kd.int .u8) 5 gE w.heap.size (fun _ => True) u8 cZ) := ⟨(by rw [hw]; exact (by (with_reducible repeat (first | apply Kd.R_alloc | apply Kd.R_drewN | apply Kd.R_drew)); exact Kd.R_mono (Kd.R_far (p := ⟨aX, 1, none⟩) (Kd.R_far (p := ⟨aX, 0, none⟩) (Kd.R_types HO_8.out az.out (by decide)) (fun _ hk => hk.2) (.int .i64 ((rd_T60 ab ax).f0))) (fun _ hk => hk.2) (.int .i64 ((rd_T60 ab ax).f1))) (fun _ hk => trivial)))⟩; have n1_ : Aside0 (gE.heap[an]? = some (.cells #[.int .i64 am, .int .i64 al, .int .i64 ak, .int .i64 aj, .int .i64 ag, .int .i64 ah, .int .i64 ae, .bool ap, .int .i64 ai, .bool aq, .slice (some ad370) ab.length aJ, .slice A0_11 ad.length aK] 25 (0, 0))) := ⟨(by rw [hw]; exact (by (with_reducible repeat (first | refine blk_drewN ?_ _ | refine blk_drew ?_ | refine blk_alloc ?_ _)); refine blk_far ?_ dC.out _; (with_reducible repeat (first | refine blk_drewN ?_ _ | refine blk_drew ?_ | refine blk_alloc ?_ _)); refine blk_far ?_ dC.out _; (with_reducible repeat (first | refine blk_drewN ?_ _ | refine blk_drew ?_ | refine blk_alloc ?_ _)); exact aa.out))⟩; have n2_ : Aside0 (gE.heap[aX]? = some (.cells #[.int .i64 ((rd_T60 ab ax).f0), .int .i64 ((rd_T60 ab ax).f1)] 60 (0, 0))) := ⟨(by rw [hw]; exact (by (with_reducible repeat (first | refine blk_drewN ?_ _ | refine blk_drew ?_ | refine blk_alloc ?_ _)); refine blk_put (cs := #[.int .i64 ((rd_T60 ab ax).f0), .int .i64 0]) ?_ 1 _ rfl; (with_reducible repeat (first | refine blk_drewN ?_ _ | refine blk_drew ?_ | refine blk_alloc ?_ _)); refine blk_put (cs := #[.int .i64 0, .int .i64 0]) ?_ 0 _ rfl; (with_reducible repeat (first | refine blk_drewN ?_ _ | refine blk_drew ?_ | refine blk_alloc ?_ _)); exact az.out))⟩; have n3_ : Aside0 (Below w.heap.size w gE) := ⟨(by rw [hw]; exact wB)⟩; clear hw; clear HO_8; clear aa; clear az; clear HB; have HO_8 := n0_; have aa := n1_; have az := n2_; have HB := n3_; clear n0_ n1_ n2_ n3_))
 have n0_ := Aside0.mk (Kd.R_drew HO_8.out)
 have n1_ := Aside0.mk (blk_drew aa.out)
 have n2_ := Aside0.mk (blk_drew az.out)
 have n3_ := Aside0.mk (below_drew1 HB.out)
 clear HO_8
 clear aa
 clear az
 clear HB
 have HO_8 := n0_
 have aa := n1_
 have az := n2_
 have HB := n3_
 clear n0_ n1_ n2_ n3_
 obtain ⟨gN, gO, ht⟩ := Kd.R_slice HO_8.out
 (first | subst ht | (injection ht with f1_ f2_ f3_; have f4_ := f1_.symm; have f5_ := f3_.symm; clear f1_ f2_ f3_; subst f4_; subst f5_))
 refine start_ (n := 8) (S := fun w' => w'.cell? ⟨aX, 0, none⟩ = some (.int .i64 ((rd_T60 ab ax).f0)) ∧ w'.cell? ⟨aX, 1, none⟩ = some (.int .i64 ((rd_T60 ab ax).f1))) (ds := []) #[false, false, false, false, false, false, false, false] (by kernel_rfl) rfl rfl ⟨(blk_cell az.out 0).trans rfl, (blk_cell az.out 1).trans rfl⟩ (fun hHeld => ?_); refine with_tabW impl_EncodeSegment.tab16 impl_EncodeSegment.bits16 (fun HT_ HW_ => ?_)
 generalize gE.drew = kE at HO_8 aa az HB hHeld ⊢
 refine pure_ (i := 0) (N := some 69) (v := ?_) (a' := ?_) #[true, false, false, false, false, false, false, false] rfl rfl (any_of HT_.out (by kernel_rfl)) (fun _ _ _ h => h) (Or.inl ⟨by rfl, ?_⟩) ?_ ?_
 rotate_left
 {
 intro w'
 go_simp
 with_reducible rfl
 }
 rotate_left
 {
 simp only [Act.put, List.setIfInBounds_toArray, List.set_cons_zero, List.set_cons_succ, i64_w, i32_w]
 rfl
 }
 refine pure_ (i := 1) (N := some 70) (v := ?_) (a' := ?_) #[true, true, false, false, false, false, false, false] rfl rfl (any_of HT_.out (by kernel_rfl)) (fun _ _ _ h => h) (Or.inl ⟨by rfl, ?_⟩) ?_ ?_
 rotate_left
 {
 intro w'
 go_simp
 with_reducible rfl
 }
 rotate_left
 {
 simp only [Act.put, List.setIfInBounds_toArray, List.set_cons_zero, List.set_cons_succ, i64_w, i32_w]
 rfl
 }
 refine pure_ (i := 4) (N := some 73) (v := ?_) (a' := ?_) #[true, true, false, false, true, false, false, false] rfl rfl (any_of HT_.out (by kernel_rfl)) (fun _ _ _ h => h) (Or.inl ⟨by rfl, ?_⟩) ?_ ?_
 rotate_left
 {
 intro w'
 go_simp
 with_reducible rfl
 }
 rotate_left
 {
 simp only [Act.put, List.setIfInBounds_toArray, List.set_cons_zero, List.set_cons_succ, i64_w, i32_w]
 rfl
 }
 refine take_ (i := 2) (N := some 71) (v := ?_) (a' := ?_) #[true, true, true, false, true, false, false, false] rfl rfl (take_ofW HT_.out HW_.out (by kernel_rfl)) (fun _ _ _ h => h) (Or.inl ⟨by rfl, ?_⟩) hHeld ?_ ?_
 rotate_left
 {
 rintro w' ⟨s0, s1⟩
 go_simp
 with_reducible rfl
 }
 rotate_left
 {
 simp only [Act.put, List.setIfInBounds_toArray, List.set_cons_zero, List.set_cons_succ, i64_w, i32_w]
 rfl
 }
 refine take_ (i := 5) (N := some 74) (v := ?_) (a' := ?_) #[true, true, true, false, true, true, false, false] rfl rfl (take_ofW HT_.out HW_.out (by kernel_rfl)) (fun _ _ _ h => h) (Or.inl ⟨by rfl, ?_⟩) hHeld ?_ ?_
 rotate_left
 {
 rintro w' ⟨s0, s1⟩
 go_simp
 with_reducible rfl
 }
 rotate_left
 {
 simp only [Act.put, List.setIfInBounds_toArray, List.set_cons_zero, List.set_cons_succ, i64_w, i32_w]
 rfl
 }
 refine one_ (i := 3) (N := some 72) #[true, true, true, true, true, true, false, false] rfl rfl (one_of HT_.out (by kernel_rfl)) (by decide) (fun K hK => ?_)
 refine goes_ Try.func45 (by kernel_rfl) rfl #[.slice gN cZ.length gO, .int .i64 4, .int .i64 ((rd_T60 ab ax).f0)] (by rfl) rfl rfl wT ?_
 with_reducible refine (impl_put.calls k5 (fun k_ => some k_ = (.slice gN cZ.length gO : Value).ownBlock) (.slice gN cZ.length gO) cZ 4 ((rd_T60 ab ax).f0) fd w _ ?side1 ?side2 A59.out).mono ?_
 (case side1 => repeat (first | (with_reducible first | exact HB.out | apply below_alloc | apply pw_below_drewN | apply below_drew1 | refine below_set ?_ cm.out | refine below_set ?_ g1.out) | exact HB.out))
 (case side2 => exact Kd.R_tight rfl HO_8.out)
 rintro e kF ⟨j8, rfl, aG, hb, hkp⟩
 refine ⟨_, rfl, ?_⟩
 have n0_ := Aside0.mk (blk_kept (Bh aa) hkp (fun hs_ => (fun e_ => (Kd.R_ne HO_8.out aa.out (by decide)) e_) hs_))
 have n1_ := Aside0.mk (blk_kept (Bh az) hkp (fun hs_ => (fun e_ => (Kd.R_ne HO_8.out az.out (by decide)) e_) hs_))
 have n2_ := Aside0.mk (Kd.R_mono (ok' := fun k_ => True) aG (fun k_ hk_ => trivial))
 have n3_ := Aside0.mk (hb)
 clear aa
 clear az
 clear HB
 clear HO_8
 have aa := n0_
 have az := n1_
 have eD := n2_
 have HB := n3_
 clear n0_ n1_ n2_ n3_
 (try clear hb)
 (try clear hkp)
 (try clear aG)
 obtain ⟨gP, gQ, hu⟩ := Kd.R_slice eD.out
 (first | subst hu | (injection hu with f1_ f2_ f3_; have f4_ := f1_.symm; have f5_ := f3_.symm; clear f1_ f2_ f3_; subst f4_; subst f5_))
 refine hK.out _ _ ⟨(blk_cell az.out 0).trans rfl, (blk_cell az.out 1).trans rfl⟩ (fun hHeld => ?_)
 clear hK K
 refine norm_ (a' := ?_) ?_ ?_
 rotate_left
 {
 show Act.put _ (some 72) _ = _
 simp only [Act.put, List.setIfInBounds_toArray, List.set_cons_zero, List.set_cons_succ, i64_w, i32_w]
 rfl
 }
 refine one_ (i := 6) (N := some 75) #[true, true, true, true, true, true, true, false] rfl rfl (one_of HT_.out (by kernel_rfl)) (by decide) (fun K hK => ?_)
 refine goes_ Try.func45 (by kernel_rfl) rfl #[.slice gP fd.length gQ, .int .i64 4, .int .i64 ((rd_T60 ab ax).f1)] (by rfl) rfl rfl wT ?_
 with_reducible refine (impl_put.calls k5 (fun k_ => some k_ = (.slice gP fd.length gQ : Value).ownBlock) (.slice gP fd.length gQ) fd 4 ((rd_T60 ab ax).f1) fG w _ ?side1 ?side2 A60.out).mono ?_
 (case side1 => repeat (first | (with_reducible first | exact HB.out | apply below_alloc | apply pw_below_drewN | apply below_drew1 | refine below_set ?_ cm.out | refine below_set ?_ g1.out) | exact HB.out))
 (case side2 => exact Kd.R_tight rfl eD.out)
 rintro e kG ⟨j9, rfl, aG, hb, hkp⟩
 refine ⟨_, rfl, ?_⟩
 have n0_ := Aside0.mk (blk_kept (Bh aa) hkp (fun hs_ => (fun e_ => (Kd.R_ne eD.out aa.out (by decide)) e_) hs_))
 have n1_ := Aside0.mk (blk_kept (Bh az) hkp (fun hs_ => (fun e_ => (Kd.R_ne eD.out az.out (by decide)) e_) hs_))
 have n2_ := Aside0.mk (Kd.R_mono (ok' := fun k_ => True) aG (fun k_ hk_ => trivial))
 have n3_ := Aside0.mk (hb)
 clear aa
 clear az
 clear HB
 clear eD
 have aa := n0_
 have az := n1_
 have hM := n2_
 have HB := n3_
 clear n0_ n1_ n2_ n3_
 (try clear hb)
 (try clear hkp)
 (try clear aG)
 refine hK.out _ _ ⟨(blk_cell az.out 0).trans rfl, (blk_cell az.out 1).trans rfl⟩ (fun hHeld => ?_)
 clear hK K
 refine norm_ (a' := ?_) ?_ ?_
 rotate_left
 {
 show Act.put _ (some 75) _ = _
 simp only [Act.put, List.setIfInBounds_toArray, List.set_cons_zero, List.set_cons_succ, i64_w, i32_w]
 rfl
 }
 refine pure_ (i := 7) (N := some 8) (v := ?_) (a' := ?_) #[true, true, true, true, true, true, true, true] rfl rfl (any_of HT_.out (by kernel_rfl)) (fun _ _ _ h => h) (Or.inl ⟨by rfl, ?_⟩) ?_ ?_
 rotate_left
 {
 intro w'
 go_simp
 with_reducible rfl
 }
 rotate_left
 {
 simp only [Act.put, List.setIfInBounds_toArray, List.set_cons_zero, List.set_cons_succ, i64_w, i32_w]
 rfl
 }
 refine done_ (done_of HT_.out (by kernel_rfl)) ?_
 try go_wp2
 go_roundg k5
 case measure => have := HJ3.out; have := HJ17.out; have := HJ29.out; have := HJ38.out; have := hs.out; omega
 case rel => exact ⟨(fG), (wrap64 (ax + 1)), (by first | rfl | (simp; done) | (simp [*]; done)), H', ⟨by have := HJ3.out; have := HJ17.out; have := HJ29.out; have := HJ38.out; have := hs.out; omega⟩, ⟨Rh hM⟩, ⟨Bh aa⟩, ⟨wB⟩⟩
 }
 {
 rw [if_neg gC] at H
 exact absurd H (by simp)
 }
 }
 {
 rw [if_neg gB] at H
 exact absurd H (by simp)
 }
 }
 {
 rw [if_neg fF] at H
 have c56b0 : decide (ax < (ab.length : Int)) = false := decide_eq_false fF
 clear fF
 have H' := Aside0.mk H
 clear H
 go_wp2
 go_meet
 case rel => exact ⟨_, (cZ), H', ⟨by have := HJ3.out; have := HJ17.out; have := HJ29.out; have := HJ38.out; have := hs.out; first | omega | exact Nat.le_refl _⟩, ⟨Rh HO_8⟩, ⟨Bh aa⟩, ⟨wB⟩⟩
 }
 }
 )
 }
 {
 rw [if_neg f4] at H
 exact absurd H (by simp)
 }
 }
 {
 rw [if_neg fh] at H
 have c49b0 : decide (0 < (ab.length : Int)) = false := decide_eq_false fh
 have c49b1 : decide (0 < ab.length) = false := decide_eq_false (by omega)
 clear fh
 (first | rw [c49b0] | rw [c49b1] | (simp only [i64_w, i32_w]; rw [c49b0]) | skip)
 have H' := Aside0.mk H
 clear H
 go_wp2
 go_meet
 case rel => exact ⟨_, (bd), H', ⟨by have := HJ3.out; have := HJ17.out; have := HJ29.out; have := HJ38.out; first | omega | exact Nat.le_refl _⟩, ⟨Rh HO_8⟩, ⟨Bh aa⟩, ⟨wB⟩⟩
 }
 )
 case rest => (
 clear gM
 try clear c1
 try clear c2
 try clear p2
 try clear c3
 try clear p3
 try clear q3
 try clear hx3
 try clear c4
 try clear c5
 try clear c6
 try clear p6
 try clear c7
 try clear c9
 try clear gy
 try clear et
 try clear dA
 try clear c20b0
 try clear c20b1
 try clear ev
 try clear ff
 try clear fg
 try clear p37
 try clear q37
 try clear hx37
 try clear fu
 try clear fv
 try clear fh
 try clear c49b0
 try clear c49b1
 try clear f4
 try clear fF
 try clear c56b0
 try clear gB
 try clear c57b0
 try clear gC
 try clear c58b0
 try clear kH
 try clear p64
 try clear bh bi aZ a0 bj bk bl bm bn bo bp bq br bs a3 a4 bu bv bw bx bz bA bB bC
 try clear bD bE a5 a6 bF bG bH bI bJ bK bL bM bN bO a7 a8 bP bQ bR bS bT bU bV bW
 try clear bX bY a9 ba bZ b0 b1 b2 b3 b4 b5 b6 b7 b8 bb bc b9 ca cb cc cd ce cf cg
 try clear cu cv ci cj cw cx cy cz cA cB cC cD cE cF ck cl cG cH cI cJ cK cL cM cN
 try clear dG dH cP cQ dI dJ dK dL dM dN dO dP dQ dR cR cS dS dT dU dV dW dX dY dZ
 try clear d0 d1 cU cV d2 d3 d4 d5 d6 d7 d8 d9 ea eb cW cX ec ed ee ef eg eh ei ej
 try clear eQ eR eo ep eS eT eU eV eW eX eY eZ e0 e1 eq er e2 e3 e4 e5 e6 e7 e8 e9
 try clear fI fJ fx fy fK fL fM fN fO fP fQ fR fS fT fz fA fU fV fW fX fY fZ f2 f3
 try clear f5 f6 fB fC f7 f8 f9 ga gb gc gf gg gh gi fD fE gj gl gm gn go gp gq gr
 try clear g9 ha hc he
 try clear hx370_0
 try clear hx370_1
 try clear p2
 try clear p370
 try clear p6
 try clear q370
 obtain ⟨kq, af, HA, HJ46, HO_8, aa, HB⟩ := hcut
 cases kq with
 | zero => exact absurd HA.out (by simp [impl_EncodeSegment.j5])
 | succ au => {
 have H := HA.out
 clear HA
 simp only [impl_EncodeSegment.j5] at H
 by_cases gs : (wrap64 ((wrap64 (20 + (af.length : Int))) + (ad.length : Int))) > 65515
 {
 rw [if_pos gs] at H
 have c70b0 : decide (65515 < (wrap64 ((wrap64 (20 + (af.length : Int))) + (ad.length : Int)))) = true := decide_eq_true gs
 clear gs
 simp only [Option.some.injEq, Prod.mk.injEq] at H
 obtain ⟨rfl, rfl⟩ := H
 obtain ⟨ka, kb, h7⟩ := Kd.R_slice HO_8.out
 subst h7
 obtain ⟨⟨iP, iQ, iR, iS, iT, iU, iV, iW, iX, iY, h8, h9⟩, iZ, i0, i1, i2, i3, i4, i5, i6, i7, i8, ia, ib⟩ := cells12 aa.out
 go_wp2
 go_ret2
 exact ⟨_, by first | rfl | (simp [errW_none, errW_some] <;> rfl) | (simp [*, errW_none, errW_some] <;> rfl), by first | exact Kd.R_nil _ _ _ _ _ | exact Kd.N_nil _ _ _ _ _ | exact Kd.V_nil _ _ _ _ _ | exact Kd.Q_nil _ _ _ _ _ | exact Kd.S_nil _ _ _ _ _, wB⟩
 }
 {
 rw [if_neg gs] at H
 have c70b0 : decide (65515 < (wrap64 ((wrap64 (20 + (af.length : Int))) + (ad.length : Int)))) = false := decide_eq_false gs
 clear gs
 replace H := Option.bind_eq_some_iff.mp H
 obtain ⟨fe, A730, H⟩ := H
 replace H : ((impl_put.f au fe 2 al).bind fun dD => ((impl_put.f au dD 4 ak).bind fun ct => ((impl_put.f au ct 4 aj).bind fun aM => ((some (([(wrap64 ((wrap64 (Int.tdiv (wrap64 (20 + (af.length : Int))) 4)) * 16)) % 256, (ag) % 256] : List Int) : List Int)).bind fun aC => (if aM.length + aC.length < 140737488355328 then ((impl_put.f au (aM ++ aC) 2 ah).bind fun aE => ((some (([0, 0, 0, 0] : List Int) : List Int)).bind fun ay => (if aE.length + ay.length < 140737488355328 then ((some (aE ++ ay : List Int)).bind fun aD => (if aD.length + af.length < 140737488355328 then ((some (aD ++ af : List Int)).bind fun aA => (if aA.length + ad.length < 140737488355328 then ((some (aA ++ ad : List Int)).bind fun ac => ((impl_FalseHead.f au a1 a2 6 (ac.length : Int)).bind fun aw => (if aw.length + ac.length < 140737488355328 then ((impl_Checksum.f au (aw ++ ac)).bind fun ar => (if 16 < (ac.length : Int) then (if 17 < (ac.length : Int) then (some (((ac.set (16 : Int).toNat ((ar / 256) % 256)).set (17 : Int).toNat ((ar) % 256)), 0)) else (none)) else (none))) else (none)))) else (none))) else (none))) else (none)))) else (none)))))) = some (r1, r2) := H
 have A73 := Aside0.mk A730
 clear A730
 replace H := Option.bind_eq_some_iff.mp H
 obtain ⟨dD, A740, H⟩ := H
 replace H : ((impl_put.f au dD 4 ak).bind fun ct => ((impl_put.f au ct 4 aj).bind fun aM => ((some (([(wrap64 ((wrap64 (Int.tdiv (wrap64 (20 + (af.length : Int))) 4)) * 16)) % 256, (ag) % 256] : List Int) : List Int)).bind fun aC => (if aM.length + aC.length < 140737488355328 then ((impl_put.f au (aM ++ aC) 2 ah).bind fun aE => ((some (([0, 0, 0, 0] : List Int) : List Int)).bind fun ay => (if aE.length + ay.length < 140737488355328 then ((some (aE ++ ay : List Int)).bind fun aD => (if aD.length + af.length < 140737488355328 then ((some (aD ++ af : List Int)).bind fun aA => (if aA.length + ad.length < 140737488355328 then ((some (aA ++ ad : List Int)).bind fun ac => ((impl_FalseHead.f au a1 a2 6 (ac.length : Int)).bind fun aw => (if aw.length + ac.length < 140737488355328 then ((impl_Checksum.f au (aw ++ ac)).bind fun ar => (if 16 < (ac.length : Int) then (if 17 < (ac.length : Int) then (some (((ac.set (16 : Int).toNat ((ar / 256) % 256)).set (17 : Int).toNat ((ar) % 256)), 0)) else (none)) else (none))) else (none)))) else (none))) else (none))) else (none)))) else (none))))) = some (r1, r2) := H
 have A74 := Aside0.mk A740
 clear A740
 replace H := Option.bind_eq_some_iff.mp H
 obtain ⟨ct, A750, H⟩ := H
 replace H : ((impl_put.f au ct 4 aj).bind fun aM => ((some (([(wrap64 ((wrap64 (Int.tdiv (wrap64 (20 + (af.length : Int))) 4)) * 16)) % 256, (ag) % 256] : List Int) : List Int)).bind fun aC => (if aM.length + aC.length < 140737488355328 then ((impl_put.f au (aM ++ aC) 2 ah).bind fun aE => ((some (([0, 0, 0, 0] : List Int) : List Int)).bind fun ay => (if aE.length + ay.length < 140737488355328 then ((some (aE ++ ay : List Int)).bind fun aD => (if aD.length + af.length < 140737488355328 then ((some (aD ++ af : List Int)).bind fun aA => (if aA.length + ad.length < 140737488355328 then ((some (aA ++ ad : List Int)).bind fun ac => ((impl_FalseHead.f au a1 a2 6 (ac.length : Int)).bind fun aw => (if aw.length + ac.length < 140737488355328 then ((impl_Checksum.f au (aw ++ ac)).bind fun ar => (if 16 < (ac.length : Int) then (if 17 < (ac.length : Int) then (some (((ac.set (16 : Int).toNat ((ar / 256) % 256)).set (17 : Int).toNat ((ar) % 256)), 0)) else (none)) else (none))) else (none)))) else (none))) else (none))) else (none)))) else (none)))) = some (r1, r2) := H
 have A75 := Aside0.mk A750
 clear A750
 replace H := Option.bind_eq_some_iff.mp H
 obtain ⟨aM, A760, H⟩ := H
 replace H : ((some (([(wrap64 ((wrap64 (Int.tdiv (wrap64 (20 + (af.length : Int))) 4)) * 16)) % 256, (ag) % 256] : List Int) : List Int)).bind fun aC => (if aM.length + aC.length < 140737488355328 then ((impl_put.f au (aM ++ aC) 2 ah).bind fun aE => ((some (([0, 0, 0, 0] : List Int) : List Int)).bind fun ay => (if aE.length + ay.length < 140737488355328 then ((some (aE ++ ay : List Int)).bind fun aD => (if aD.length + af.length < 140737488355328 then ((some (aD ++ af : List Int)).bind fun aA => (if aA.length + ad.length < 140737488355328 then ((some (aA ++ ad : List Int)).bind fun ac => ((impl_FalseHead.f au a1 a2 6 (ac.length : Int)).bind fun aw => (if aw.length + ac.length < 140737488355328 then ((impl_Checksum.f au (aw ++ ac)).bind fun ar => (if 16 < (ac.length : Int) then (if 17 < (ac.length : Int) then (some (((ac.set (16 : Int).toNat ((ar / 256) % 256)).set (17 : Int).toNat ((ar) % 256)), 0)) else (none)) else (none))) else (none)))) else (none))) else (none))) else (none)))) else (none))) = some (r1, r2) := H
 have A76 := Aside0.mk A760
 clear A760
 obtain ⟨aC, eE⟩ : ∃ y_ : List Int, y_ = (([(wrap64 ((wrap64 (Int.tdiv (wrap64 (20 + (af.length : Int))) 4)) * 16)) % 256, (ag) % 256] : List Int)) := ⟨_, rfl⟩
 replace H : (if aM.length + aC.length < 140737488355328 then ((impl_put.f au (aM ++ aC) 2 ah).bind fun aE => ((some (([0, 0, 0, 0] : List Int) : List Int)).bind fun ay => (if aE.length + ay.length < 140737488355328 then ((some (aE ++ ay : List Int)).bind fun aD => (if aD.length + af.length < 140737488355328 then ((some (aD ++ af : List Int)).bind fun aA => (if aA.length + ad.length < 140737488355328 then ((some (aA ++ ad : List Int)).bind fun ac => ((impl_FalseHead.f au a1 a2 6 (ac.length : Int)).bind fun aw => (if aw.length + ac.length < 140737488355328 then ((impl_Checksum.f au (aw ++ ac)).bind fun ar => (if 16 < (ac.length : Int) then (if 17 < (ac.length : Int) then (some (((ac.set (16 : Int).toNat ((ar / 256) % 256)).set (17 : Int).toNat ((ar) % 256)), 0)) else (none)) else (none))) else (none)))) else (none))) else (none))) else (none)))) else (none)) = some (r1, r2) := by first | (rw [eE]; with_reducible exact H) | (have H2_ := (Option.bind_some _ _).symm.trans H; rw [eE]; with_reducible exact H2_) | (have H2_ := (Option.bind_some _ _).symm.trans H; with_reducible exact H2_) | with_reducible exact H | (rw [eE]; exact H) | exact H
 have Ny390 := Aside0.mk eE
 clear eE
 by_cases g2 : aM.length + aC.length < 140737488355328
 {
 rw [if_pos g2] at H
 have LMc77 := Aside0.mk g2
 clear g2
 obtain ⟨fH, eF⟩ : ∃ y_ : List Int, y_ = (aM ++ aC) := ⟨_, rfl⟩
 replace H : ((impl_put.f au fH 2 ah).bind fun aE => ((some (([0, 0, 0, 0] : List Int) : List Int)).bind fun ay => (if aE.length + ay.length < 140737488355328 then ((some (aE ++ ay : List Int)).bind fun aD => (if aD.length + af.length < 140737488355328 then ((some (aD ++ af : List Int)).bind fun aA => (if aA.length + ad.length < 140737488355328 then ((some (aA ++ ad : List Int)).bind fun ac => ((impl_FalseHead.f au a1 a2 6 (ac.length : Int)).bind fun aw => (if aw.length + ac.length < 140737488355328 then ((impl_Checksum.f au (aw ++ ac)).bind fun ar => (if 16 < (ac.length : Int) then (if 17 < (ac.length : Int) then (some (((ac.set (16 : Int).toNat ((ar / 256) % 256)).set (17 : Int).toNat ((ar) % 256)), 0)) else (none)) else (none))) else (none)))) else (none))) else (none))) else (none)))) = some (r1, r2) := by first | (rw [eF]; with_reducible exact H) | (have H2_ := (Option.bind_some _ _).symm.trans H; rw [eF]; with_reducible exact H2_) | (have H2_ := (Option.bind_some _ _).symm.trans H; with_reducible exact H2_) | with_reducible exact H | (rw [eF]; exact H) | exact H
 have Ny393 := Aside0.mk eF
 clear eF
 replace H := Option.bind_eq_some_iff.mp H
 obtain ⟨aE, A780, H⟩ := H
 replace H : ((some (([0, 0, 0, 0] : List Int) : List Int)).bind fun ay => (if aE.length + ay.length < 140737488355328 then ((some (aE ++ ay : List Int)).bind fun aD => (if aD.length + af.length < 140737488355328 then ((some (aD ++ af : List Int)).bind fun aA => (if aA.length + ad.length < 140737488355328 then ((some (aA ++ ad : List Int)).bind fun ac => ((impl_FalseHead.f au a1 a2 6 (ac.length : Int)).bind fun aw => (if aw.length + ac.length < 140737488355328 then ((impl_Checksum.f au (aw ++ ac)).bind fun ar => (if 16 < (ac.length : Int) then (if 17 < (ac.length : Int) then (some (((ac.set (16 : Int).toNat ((ar / 256) % 256)).set (17 : Int).toNat ((ar) % 256)), 0)) else (none)) else (none))) else (none)))) else (none))) else (none))) else (none))) = some (r1, r2) := H
 have A78 := Aside0.mk A780
 clear A780
 obtain ⟨ay, eG⟩ : ∃ y_ : List Int, y_ = (([0, 0, 0, 0] : List Int)) := ⟨_, rfl⟩
 replace H : (if aE.length + ay.length < 140737488355328 then ((some (aE ++ ay : List Int)).bind fun aD => (if aD.length + af.length < 140737488355328 then ((some (aD ++ af : List Int)).bind fun aA => (if aA.length + ad.length < 140737488355328 then ((some (aA ++ ad : List Int)).bind fun ac => ((impl_FalseHead.f au a1 a2 6 (ac.length : Int)).bind fun aw => (if aw.length + ac.length < 140737488355328 then ((impl_Checksum.f au (aw ++ ac)).bind fun ar => (if 16 < (ac.length : Int) then (if 17 < (ac.length : Int) then (some (((ac.set (16 : Int).toNat ((ar / 256) % 256)).set (17 : Int).toNat ((ar) % 256)), 0)) else (none)) else (none))) else (none)))) else (none))) else (none))) else (none)) = some (r1, r2) := by first | (rw [eG]; with_reducible exact H) | (have H2_ := (Option.bind_some _ _).symm.trans H; rw [eG]; with_reducible exact H2_) | (have H2_ := (Option.bind_some _ _).symm.trans H; with_reducible exact H2_) | with_reducible exact H | (rw [eG]; exact H) | exact H
 have Ny399 := Aside0.mk eG
 clear eG
 by_cases g3 : aE.length + ay.length < 140737488355328
 {
 rw [if_pos g3] at H
 have LMc79 := Aside0.mk g3
 clear g3
 obtain ⟨aD, eH⟩ : ∃ y_ : List Int, y_ = (aE ++ ay) := ⟨_, rfl⟩
 replace H : (if aD.length + af.length < 140737488355328 then ((some (aD ++ af : List Int)).bind fun aA => (if aA.length + ad.length < 140737488355328 then ((some (aA ++ ad : List Int)).bind fun ac => ((impl_FalseHead.f au a1 a2 6 (ac.length : Int)).bind fun aw => (if aw.length + ac.length < 140737488355328 then ((impl_Checksum.f au (aw ++ ac)).bind fun ar => (if 16 < (ac.length : Int) then (if 17 < (ac.length : Int) then (some (((ac.set (16 : Int).toNat ((ar / 256) % 256)).set (17 : Int).toNat ((ar) % 256)), 0)) else (none)) else (none))) else (none)))) else (none))) else (none)) = some (r1, r2) := by first | (rw [eH]; with_reducible exact H) | (have H2_ := (Option.bind_some _ _).symm.trans H; rw [eH]; with_reducible exact H2_) | (have H2_ := (Option.bind_some _ _).symm.trans H; with_reducible exact H2_) | with_reducible exact H | (rw [eH]; exact H) | exact H
 have Ny402 := Aside0.mk eH
 clear eH
 by_cases g4 : aD.length + af.length < 140737488355328
 {
 rw [if_pos g4] at H
 have LMc80 := Aside0.mk g4
 clear g4
 obtain ⟨aA, eI⟩ : ∃ y_ : List Int, y_ = (aD ++ af) := ⟨_, rfl⟩
 replace H : (if aA.length + ad.length < 140737488355328 then ((some (aA ++ ad : List Int)).bind fun ac => ((impl_FalseHead.f au a1 a2 6 (ac.length : Int)).bind fun aw => (if aw.length + ac.length < 140737488355328 then ((impl_Checksum.f au (aw ++ ac)).bind fun ar => (if 16 < (ac.length : Int) then (if 17 < (ac.length : Int) then (some (((ac.set (16 : Int).toNat ((ar / 256) % 256)).set (17 : Int).toNat ((ar) % 256)), 0)) else (none)) else (none))) else (none)))) else (none)) = some (r1, r2) := by first | (rw [eI]; with_reducible exact H) | (have H2_ := (Option.bind_some _ _).symm.trans H; rw [eI]; with_reducible exact H2_) | (have H2_ := (Option.bind_some _ _).symm.trans H; with_reducible exact H2_) | with_reducible exact H | (rw [eI]; exact H) | exact H
 have Ny405 := Aside0.mk eI
 clear eI
 by_cases g5 : aA.length + ad.length < 140737488355328
 {
 rw [if_pos g5] at H
 have LMc81 := Aside0.mk g5
 clear g5
 obtain ⟨ac, eJ⟩ : ∃ y_ : List Int, y_ = (aA ++ ad) := ⟨_, rfl⟩
 replace H : ((impl_FalseHead.f au a1 a2 6 (ac.length : Int)).bind fun aw => (if aw.length + ac.length < 140737488355328 then ((impl_Checksum.f au (aw ++ ac)).bind fun ar => (if 16 < (ac.length : Int) then (if 17 < (ac.length : Int) then (some (((ac.set (16 : Int).toNat ((ar / 256) % 256)).set (17 : Int).toNat ((ar) % 256)), 0)) else (none)) else (none))) else (none))) = some (r1, r2) := by first | (rw [eJ]; with_reducible exact H) | (have H2_ := (Option.bind_some _ _).symm.trans H; rw [eJ]; with_reducible exact H2_) | (have H2_ := (Option.bind_some _ _).symm.trans H; with_reducible exact H2_) | with_reducible exact H | (rw [eJ]; exact H) | exact H
 have Ny408 := Aside0.mk eJ
 clear eJ
 replace H := Option.bind_eq_some_iff.mp H
 obtain ⟨aw, A820, H⟩ := H
 replace H : (if aw.length + ac.length < 140737488355328 then ((impl_Checksum.f au (aw ++ ac)).bind fun ar => (if 16 < (ac.length : Int) then (if 17 < (ac.length : Int) then (some (((ac.set (16 : Int).toNat ((ar / 256) % 256)).set (17 : Int).toNat ((ar) % 256)), 0)) else (none)) else (none))) else (none)) = some (r1, r2) := H
 have A82 := Aside0.mk A820
 clear A820
 by_cases g6 : aw.length + ac.length < 140737488355328
 {
 rw [if_pos g6] at H
 have LMc83 := Aside0.mk g6
 clear g6
 obtain ⟨es, eK⟩ : ∃ y_ : List Int, y_ = (aw ++ ac) := ⟨_, rfl⟩
 replace H : ((impl_Checksum.f au es).bind fun ar => (if 16 < (ac.length : Int) then (if 17 < (ac.length : Int) then (some (((ac.set (16 : Int).toNat ((ar / 256) % 256)).set (17 : Int).toNat ((ar) % 256)), 0)) else (none)) else (none))) = some (r1, r2) := by first | (rw [eK]; with_reducible exact H) | (have H2_ := (Option.bind_some _ _).symm.trans H; rw [eK]; with_reducible exact H2_) | (have H2_ := (Option.bind_some _ _).symm.trans H; with_reducible exact H2_) | with_reducible exact H | (rw [eK]; exact H) | exact H
 have Ny414 := Aside0.mk eK
 clear eK
 replace H := Option.bind_eq_some_iff.mp H
 obtain ⟨ar, A840, H⟩ := H
 replace H : (if 16 < (ac.length : Int) then (if 17 < (ac.length : Int) then (some (((ac.set (16 : Int).toNat ((ar / 256) % 256)).set (17 : Int).toNat ((ar) % 256)), 0)) else (none)) else (none)) = some (r1, r2) := H
 have A84 := Aside0.mk A840
 clear A840
 by_cases g7 : 16 < (ac.length : Int)
 {
 rw [if_pos g7] at H
 have c85b0 : decide (16 < (ac.length : Int)) = true := decide_eq_true g7
 have c85b1 : decide (16 < ac.length) = true := decide_eq_true (by omega)
 clear g7
 obtain ⟨gR, eL⟩ : ∃ y_ : List Int, y_ = (ac.set (16 : Int).toNat ((ar / 256) % 256)) := ⟨_, rfl⟩
 replace H : (if 17 < (ac.length : Int) then (some ((gR.set (17 : Int).toNat ((ar) % 256)), 0)) else (none)) = some (r1, r2) := by first | (rw [eL]; with_reducible exact H) | (have H2_ := (Option.bind_some _ _).symm.trans H; rw [eL]; with_reducible exact H2_) | (have H2_ := (Option.bind_some _ _).symm.trans H; with_reducible exact H2_) | with_reducible exact H | (rw [eL]; exact H) | exact H
 have Ny418 := Aside0.mk eL
 clear eL
 by_cases g8 : 17 < (ac.length : Int)
 {
 rw [if_pos g8] at H
 have c87b0 : decide (17 < (ac.length : Int)) = true := decide_eq_true g8
 have c87b1 : decide (17 < ac.length) = true := decide_eq_true (by omega)
 clear g8
 obtain ⟨hv, eM⟩ : ∃ y_ : List Int, y_ = (gR.set (17 : Int).toNat ((ar) % 256)) := ⟨_, rfl⟩
 replace H : (some (hv, 0)) = some (r1, r2) := by first | (rw [eM]; with_reducible exact H) | (have H2_ := (Option.bind_some _ _).symm.trans H; rw [eM]; with_reducible exact H2_) | (have H2_ := (Option.bind_some _ _).symm.trans H; with_reducible exact H2_) | with_reducible exact H | (rw [eM]; exact H) | exact H
 have Ny419 := Aside0.mk eM
 clear eM
 simp only [Option.some.injEq, Prod.mk.injEq] at H
 obtain ⟨rfl, rfl⟩ := H
 obtain ⟨aN, aP, ic⟩ := Kd.R_slice HO_8.out
 subst ic
 obtain ⟨⟨i9, ja, jb, jc, jd, je, jf, jg, jh, ji, id, ie⟩, jj, jk, jl, jm, jn, jo, jp, jq, jr, js, ig, ih⟩ := cells12 aa.out
 try go_wp2
 have n0_ := Aside0.mk (Kd.R_drew HO_8.out)
 have n1_ := Aside0.mk (blk_drew aa.out)
 have n2_ := Aside0.mk (below_drew1 HB.out)
 clear HO_8
 clear aa
 clear HB
 have HO_8 := n0_
 have aa := n1_
 have HB := n2_
 clear n0_ n1_ n2_
 refine start_ (n := 13) (S := fun w' => w'.cell? ⟨an, 0, none⟩ = some (.int .i64 am) ∧ w'.cell? ⟨an, 1, none⟩ = some (.int .i64 al) ∧ w'.cell? ⟨an, 2, none⟩ = some (.int .i64 ak) ∧ w'.cell? ⟨an, 3, none⟩ = some (.int .i64 aj) ∧ w'.cell? ⟨an, 4, none⟩ = some (.int .i64 ag) ∧ w'.cell? ⟨an, 5, none⟩ = some (.int .i64 ah) ∧ w'.cell? ⟨an, 6, none⟩ = some (.int .i64 ae) ∧ w'.cell? ⟨an, 7, none⟩ = some (.bool ap) ∧ w'.cell? ⟨an, 8, none⟩ = some (.int .i64 ai) ∧ w'.cell? ⟨an, 9, none⟩ = some (.bool aq) ∧ w'.cell? ⟨an, 10, none⟩ = some (.slice A0_10 ab.length aJ) ∧ w'.cell? ⟨an, 11, none⟩ = some (.slice A0_11 ad.length aK)) (ds := []) #[false, false, false, false, false, false, false, false, false, false, false, false, false] (by kernel_rfl) rfl rfl ⟨(blk_cell aa.out 0).trans rfl, (blk_cell aa.out 1).trans rfl, (blk_cell aa.out 2).trans rfl, (blk_cell aa.out 3).trans rfl, (blk_cell aa.out 4).trans rfl, (blk_cell aa.out 5).trans rfl, (blk_cell aa.out 6).trans rfl, (blk_cell aa.out 7).trans rfl, (blk_cell aa.out 8).trans rfl, (blk_cell aa.out 9).trans rfl, (blk_cell aa.out 10).trans rfl, (blk_cell aa.out 11).trans rfl⟩ (fun hHeld => ?_); refine with_tabW impl_EncodeSegment.tab21 impl_EncodeSegment.bits21 (fun HT_ HW_ => ?_)
 generalize wc.drew = kI at HO_8 aa HB hHeld ⊢
 refine pure_ (i := 0) (N := some 86) (v := ?_) (a' := ?_) #[true, false, false, false, false, false, false, false, false, false, false, false, false] rfl rfl (any_of HT_.out (by kernel_rfl)) (fun _ _ _ h => h) (Or.inl ⟨by rfl, ?_⟩) ?_ ?_
 rotate_left
 {
 intro w'
 go_simp
 with_reducible rfl
 }
 rotate_left
 {
 simp only [Act.put, List.setIfInBounds_toArray, List.set_cons_zero, List.set_cons_succ, i64_w, i32_w]
 rfl
 }
 refine pure_ (i := 3) (N := some 89) (v := ?_) (a' := ?_) #[true, false, false, true, false, false, false, false, false, false, false, false, false] rfl rfl (any_of HT_.out (by kernel_rfl)) (fun _ _ _ h => h) (Or.inl ⟨by rfl, ?_⟩) ?_ ?_
 rotate_left
 {
 intro w'
 go_simp
 with_reducible rfl
 }
 rotate_left
 {
 simp only [Act.put, List.setIfInBounds_toArray, List.set_cons_zero, List.set_cons_succ, i64_w, i32_w]
 rfl
 }
 refine pure_ (i := 6) (N := some 92) (v := ?_) (a' := ?_) #[true, false, false, true, false, false, true, false, false, false, false, false, false] rfl rfl (any_of HT_.out (by kernel_rfl)) (fun _ _ _ h => h) (Or.inl ⟨by rfl, ?_⟩) ?_ ?_
 rotate_left
 {
 intro w'
 go_simp
 with_reducible rfl
 }
 rotate_left
 {
 simp only [Act.put, List.setIfInBounds_toArray, List.set_cons_zero, List.set_cons_succ, i64_w, i32_w]
 rfl
 }
 refine pure_ (i := 9) (N := some 95) (v := ?_) (a' := ?_) #[true, false, false, true, false, false, true, false, false, true, false, false, false] rfl rfl (any_of HT_.out (by kernel_rfl)) (fun _ _ _ h => h) (Or.inl ⟨by rfl, ?_⟩) ?_ ?_
 rotate_left
 {
 intro w'
 go_simp
 with_reducible rfl
 }
 rotate_left
 {
 simp only [Act.put, List.setIfInBounds_toArray, List.set_cons_zero, List.set_cons_succ, i64_w, i32_w]
 rfl
 }
 refine take_ (i := 1) (N := some 87) (v := ?_) (a' := ?_) #[true, true, false, true, false, false, true, false, false, true, false, false, false] rfl rfl (take_ofW HT_.out HW_.out (by kernel_rfl)) (fun _ _ _ h => h) (Or.inl ⟨by rfl, ?_⟩) hHeld ?_ ?_
 rotate_left
 {
 rintro w' ⟨s0, s1, s2, s3, s4, s5, s6, s7, s8, s9, gz, gA⟩
 go_simp
 with_reducible rfl
 }
 rotate_left
 {
 simp only [Act.put, List.setIfInBounds_toArray, List.set_cons_zero, List.set_cons_succ, i64_w, i32_w]
 rfl
 }
 refine take_ (i := 4) (N := some 90) (v := ?_) (a' := ?_) #[true, true, false, true, true, false, true, false, false, true, false, false, false] rfl rfl (take_ofW HT_.out HW_.out (by kernel_rfl)) (fun _ _ _ h => h) (Or.inl ⟨by rfl, ?_⟩) hHeld ?_ ?_
 rotate_left
 {
 rintro w' ⟨s0, s1, s2, s3, s4, s5, s6, s7, s8, s9, gz, gA⟩
 go_simp
 with_reducible rfl
 }
 rotate_left
 {
 simp only [Act.put, List.setIfInBounds_toArray, List.set_cons_zero, List.set_cons_succ, i64_w, i32_w]
 rfl
 }
 refine take_ (i := 7) (N := some 93) (v := ?_) (a' := ?_) #[true, true, false, true, true, false, true, true, false, true, false, false, false] rfl rfl (take_ofW HT_.out HW_.out (by kernel_rfl)) (fun _ _ _ h => h) (Or.inl ⟨by rfl, ?_⟩) hHeld ?_ ?_
 rotate_left
 {
 rintro w' ⟨s0, s1, s2, s3, s4, s5, s6, s7, s8, s9, gz, gA⟩
 go_simp
 with_reducible rfl
 }
 rotate_left
 {
 simp only [Act.put, List.setIfInBounds_toArray, List.set_cons_zero, List.set_cons_succ, i64_w, i32_w]
 rfl
 }
 refine take_ (i := 10) (N := some 96) (v := ?_) (a' := ?_) #[true, true, false, true, true, false, true, true, false, true, true, false, false] rfl rfl (take_ofW HT_.out HW_.out (by kernel_rfl)) (fun _ _ _ h => h) (Or.inl ⟨by rfl, ?_⟩) hHeld ?_ ?_
 rotate_left
 {
 rintro w' ⟨s0, s1, s2, s3, s4, s5, s6, s7, s8, s9, gz, gA⟩
 go_simp
 with_reducible rfl
 }
 rotate_left
 {
 simp only [Act.put, List.setIfInBounds_toArray, List.set_cons_zero, List.set_cons_succ, i64_w, i32_w]
 rfl
 }
 refine one_ (i := 2) (N := some 88) #[true, true, true, true, true, false, true, true, false, true, true, false, false] rfl rfl (one_of HT_.out (by kernel_rfl)) (by decide) (fun K hK => ?_)
 refine goes_ Try.func45 (by kernel_rfl) rfl #[.slice none 0 0, .int .i64 2, .int .i64 am] (by rfl) rfl rfl wT ?_
 refine (impl_put.calls au (fun k_ => some k_ = (.slice none 0 0 : Value).ownBlock) (.slice none 0 0) ([] : List Int) 2 am fe w _ ?side1 ?side2 A73.out).mono ?_
 (case side1 => repeat (first | (with_reducible first | exact HB.out | apply below_alloc | apply pw_below_drewN | apply below_drew1 | refine below_set ?_ cm.out) | exact HB.out))
 (case side2 => exact Kd.R_nil _ _ _ _ _)
 rintro e kJ ⟨ii, rfl, aG, hb, hkp⟩
 refine ⟨_, rfl, ?_⟩
 have n0_ := Aside0.mk (Kd.R_mono (ok' := fun k_ => some k_ ≠ (ii : Value).ownBlock) (Kd.R_keptB (HO_8.out) hkp (fun k_ hk_ hs_ => (fun e_ => by simp [Value.ownBlock] at e_) hs_)) (fun k_ hk_ => fun e_ => Or.elim (aG.1 k_ e_.symm) (fun hs_ => hk_.2.1 hs_) (fun hn_ => Nat.not_le.2 hk_.2.2 hn_)))
 have n1_ := Aside0.mk (blk_kept (Bh aa) hkp (fun hs_ => (fun e_ => by simp [Value.ownBlock] at e_) hs_))
 have n2_ := Aside0.mk (Kd.R_mono (ok' := fun k_ => some k_ ≠ (.slice aN af.length aP : Value).ownBlock) aG (fun k_ hk_ => Or.elim hk_ (fun hs_ => absurd hs_ (by simp [Value.ownBlock])) (fun hn_ => (Kd.fresh' (Kd.R_lt (Rh HO_8)) k_ hn_))))
 have n3_ := Aside0.mk (hb)
 clear HO_8
 clear aa
 clear HB
 have HO_8 := n0_
 have aa := n1_
 have fk := n2_
 have HB := n3_
 clear n0_ n1_ n2_ n3_
 (try clear hb)
 (try clear hkp)
 (try clear aG)
 obtain ⟨gS, gT, hx⟩ := Kd.R_slice fk.out
 (first | subst hx | (injection hx with f1_ f2_ f3_; have f4_ := f1_.symm; have f5_ := f3_.symm; clear f1_ f2_ f3_; subst f4_; subst f5_))
 refine hK.out _ _ ⟨(blk_cell aa.out 0).trans rfl, (blk_cell aa.out 1).trans rfl, (blk_cell aa.out 2).trans rfl, (blk_cell aa.out 3).trans rfl, (blk_cell aa.out 4).trans rfl, (blk_cell aa.out 5).trans rfl, (blk_cell aa.out 6).trans rfl, (blk_cell aa.out 7).trans rfl, (blk_cell aa.out 8).trans rfl, (blk_cell aa.out 9).trans rfl, (blk_cell aa.out 10).trans rfl, (blk_cell aa.out 11).trans rfl⟩ (fun hHeld => ?_)
 clear hK K
 refine norm_ (a' := ?_) ?_ ?_
 rotate_left
 {
 show Act.put _ (some 88) _ = _
 simp only [Act.put, List.setIfInBounds_toArray, List.set_cons_zero, List.set_cons_succ, i64_w, i32_w]
 rfl
 }
 refine one_ (i := 5) (N := some 91) #[true, true, true, true, true, true, true, true, false, true, true, false, false] rfl rfl (one_of HT_.out (by kernel_rfl)) (by decide) (fun K hK => ?_)
 refine goes_ Try.func45 (by kernel_rfl) rfl #[.slice gS fe.length gT, .int .i64 2, .int .i64 al] (by rfl) rfl rfl wT ?_
 with_reducible refine (impl_put.calls au (fun k_ => some k_ = (.slice gS fe.length gT : Value).ownBlock) (.slice gS fe.length gT) fe 2 al dD w _ ?side1 ?side2 A74.out).mono ?_
 (case side1 => repeat (first | (with_reducible first | exact HB.out | apply below_alloc | apply pw_below_drewN | apply below_drew1 | refine below_set ?_ cm.out) | exact HB.out))
 (case side2 => exact Kd.R_tight rfl fk.out)
 rintro e kK ⟨ij, rfl, aG, hb, hkp⟩
 refine ⟨_, rfl, ?_⟩
 have n0_ := Aside0.mk (Kd.R_mono (ok' := fun k_ => some k_ ≠ (ij : Value).ownBlock) (Kd.R_keptB (HO_8.out) hkp (fun k_ hk_ hs_ => (hk_) hs_)) (fun k_ hk_ => fun e_ => Or.elim (aG.1 k_ e_.symm) (fun hs_ => hk_.2.1 hs_) (fun hn_ => Nat.not_le.2 hk_.2.2 hn_)))
 have n1_ := Aside0.mk (blk_kept (Bh aa) hkp (fun hs_ => (fun e_ => (Kd.R_ne fk.out aa.out (by decide)) e_) hs_))
 have n2_ := Aside0.mk (Kd.R_mono (ok' := fun k_ => some k_ ≠ (.slice aN af.length aP : Value).ownBlock) aG (fun k_ hk_ => Or.elim hk_ (fun hs_ => fun e_ => (((HO_8.out).1 k_ e_.symm)) hs_) (fun hn_ => (Kd.fresh' (Kd.R_lt (Rh HO_8)) k_ hn_))))
 have n3_ := Aside0.mk (hb)
 clear HO_8
 clear aa
 clear HB
 clear fk
 have HO_8 := n0_
 have aa := n1_
 have fl := n2_
 have HB := n3_
 clear n0_ n1_ n2_ n3_
 (try clear hb)
 (try clear hkp)
 (try clear aG)
 obtain ⟨gU, gV, hy⟩ := Kd.R_slice fl.out
 (first | subst hy | (injection hy with f1_ f2_ f3_; have f4_ := f1_.symm; have f5_ := f3_.symm; clear f1_ f2_ f3_; subst f4_; subst f5_))
 refine hK.out _ _ ⟨(blk_cell aa.out 0).trans rfl, (blk_cell aa.out 1).trans rfl, (blk_cell aa.out 2).trans rfl, (blk_cell aa.out 3).trans rfl, (blk_cell aa.out 4).trans rfl, (blk_cell aa.out 5).trans rfl, (blk_cell aa.out 6).trans rfl, (blk_cell aa.out 7).trans rfl, (blk_cell aa.out 8).trans rfl, (blk_cell aa.out 9).trans rfl, (blk_cell aa.out 10).trans rfl, (blk_cell aa.out 11).trans rfl⟩ (fun hHeld => ?_)
 clear hK K
 refine norm_ (a' := ?_) ?_ ?_
 rotate_left
 {
 show Act.put _ (some 91) _ = _
 simp only [Act.put, List.setIfInBounds_toArray, List.set_cons_zero, List.set_cons_succ, i64_w, i32_w]
 rfl
 }
 refine one_ (i := 8) (N := some 94) #[true, true, true, true, true, true, true, true, true, true, true, false, false] rfl rfl (one_of HT_.out (by kernel_rfl)) (by decide) (fun K hK => ?_)
 refine goes_ Try.func45 (by kernel_rfl) rfl #[.slice gU dD.length gV, .int .i64 4, .int .i64 ak] (by rfl) rfl rfl wT ?_
 with_reducible refine (impl_put.calls au (fun k_ => some k_ = (.slice gU dD.length gV : Value).ownBlock) (.slice gU dD.length gV) dD 4 ak ct w _ ?side1 ?side2 A75.out).mono ?_
 (case side1 => repeat (first | (with_reducible first | exact HB.out | apply below_alloc | apply pw_below_drewN | apply below_drew1 | refine below_set ?_ cm.out) | exact HB.out))
 (case side2 => exact Kd.R_tight rfl fl.out)
 rintro e kL ⟨ik, rfl, aG, hb, hkp⟩
 refine ⟨_, rfl, ?_⟩
 have n0_ := Aside0.mk (Kd.R_mono (ok' := fun k_ => some k_ ≠ (ik : Value).ownBlock) (Kd.R_keptB (HO_8.out) hkp (fun k_ hk_ hs_ => (hk_) hs_)) (fun k_ hk_ => fun e_ => Or.elim (aG.1 k_ e_.symm) (fun hs_ => hk_.2.1 hs_) (fun hn_ => Nat.not_le.2 hk_.2.2 hn_)))
 have n1_ := Aside0.mk (blk_kept (Bh aa) hkp (fun hs_ => (fun e_ => (Kd.R_ne fl.out aa.out (by decide)) e_) hs_))
 have n2_ := Aside0.mk (Kd.R_mono (ok' := fun k_ => some k_ ≠ (.slice aN af.length aP : Value).ownBlock) aG (fun k_ hk_ => Or.elim hk_ (fun hs_ => fun e_ => (((HO_8.out).1 k_ e_.symm)) hs_) (fun hn_ => (Kd.fresh' (Kd.R_lt (Rh HO_8)) k_ hn_))))
 have n3_ := Aside0.mk (hb)
 clear HO_8
 clear aa
 clear HB
 clear fl
 have HO_8 := n0_
 have aa := n1_
 have fm := n2_
 have HB := n3_
 clear n0_ n1_ n2_ n3_
 (try clear hb)
 (try clear hkp)
 (try clear aG)
 obtain ⟨gW, gX, hz⟩ := Kd.R_slice fm.out
 (first | subst hz | (injection hz with f1_ f2_ f3_; have f4_ := f1_.symm; have f5_ := f3_.symm; clear f1_ f2_ f3_; subst f4_; subst f5_))
 refine hK.out _ _ ⟨(blk_cell aa.out 0).trans rfl, (blk_cell aa.out 1).trans rfl, (blk_cell aa.out 2).trans rfl, (blk_cell aa.out 3).trans rfl, (blk_cell aa.out 4).trans rfl, (blk_cell aa.out 5).trans rfl, (blk_cell aa.out 6).trans rfl, (blk_cell aa.out 7).trans rfl, (blk_cell aa.out 8).trans rfl, (blk_cell aa.out 9).trans rfl, (blk_cell aa.out 10).trans rfl, (blk_cell aa.out 11).trans rfl⟩ (fun hHeld => ?_)
 clear hK K
 refine norm_ (a' := ?_) ?_ ?_
 rotate_left
 {
 show Act.put _ (some 94) _ = _
 simp only [Act.put, List.setIfInBounds_toArray, List.set_cons_zero, List.set_cons_succ, i64_w, i32_w]
 rfl
 }
 refine one_ (i := 11) (N := some 97) #[true, true, true, true, true, true, true, true, true, true, true, true, false] rfl rfl (one_of HT_.out (by kernel_rfl)) (by decide) (fun K hK => ?_)
 refine goes_ Try.func45 (by kernel_rfl) rfl #[.slice gW ct.length gX, .int .i64 4, .int .i64 aj] (by rfl) rfl rfl wT ?_
 with_reducible refine (impl_put.calls au (fun k_ => some k_ = (.slice gW ct.length gX : Value).ownBlock) (.slice gW ct.length gX) ct 4 aj aM w _ ?side1 ?side2 A76.out).mono ?_
 (case side1 => repeat (first | (with_reducible first | exact HB.out | apply below_alloc | apply pw_below_drewN | apply below_drew1 | refine below_set ?_ cm.out) | exact HB.out))
 (case side2 => exact Kd.R_tight rfl fm.out)
 rintro e kM ⟨hA, rfl, aG, hb, hkp⟩
 refine ⟨_, rfl, ?_⟩
 have n0_ := Aside0.mk (Kd.R_mono (ok' := fun k_ => some k_ ≠ (hA : Value).ownBlock) (Kd.R_keptB (HO_8.out) hkp (fun k_ hk_ hs_ => (hk_) hs_)) (fun k_ hk_ => fun e_ => Or.elim (aG.1 k_ e_.symm) (fun hs_ => hk_.2.1 hs_) (fun hn_ => Nat.not_le.2 hk_.2.2 hn_)))
 have n1_ := Aside0.mk (blk_kept (Bh aa) hkp (fun hs_ => (fun e_ => (Kd.R_ne fm.out aa.out (by decide)) e_) hs_))
 have n2_ := Aside0.mk (Kd.R_mono (ok' := fun k_ => some k_ ≠ (.slice aN af.length aP : Value).ownBlock) aG (fun k_ hk_ => Or.elim hk_ (fun hs_ => fun e_ => (((HO_8.out).1 k_ e_.symm)) hs_) (fun hn_ => (Kd.fresh' (Kd.R_lt (Rh HO_8)) k_ hn_))))
 have n3_ := Aside0.mk (hb)
 clear HO_8
 clear aa
 clear HB
 clear fm
 have HO_8 := n0_
 have aa := n1_
 have dv := n2_
 have HB := n3_
 clear n0_ n1_ n2_ n3_
 (try clear hb)
 (try clear hkp)
 (try clear aG)
 refine hK.out _ _ ⟨(blk_cell aa.out 0).trans rfl, (blk_cell aa.out 1).trans rfl, (blk_cell aa.out 2).trans rfl, (blk_cell aa.out 3).trans rfl, (blk_cell aa.out 4).trans rfl, (blk_cell aa.out 5).trans rfl, (blk_cell aa.out 6).trans rfl, (blk_cell aa.out 7).trans rfl, (blk_cell aa.out 8).trans rfl, (blk_cell aa.out 9).trans rfl, (blk_cell aa.out 10).trans rfl, (blk_cell aa.out 11).trans rfl⟩ (fun hHeld => ?_)
 clear hK K
 refine norm_ (a' := ?_) ?_ ?_
 rotate_left
 {
 show Act.put _ (some 97) _ = _
 simp only [Act.put, List.setIfInBounds_toArray, List.set_cons_zero, List.set_cons_succ, i64_w, i32_w]
 rfl
 }
 refine pure_ (i := 12) (N := some 13) (v := ?_) (a' := ?_) #[true, true, true, true, true, true, true, true, true, true, true, true, true] rfl rfl (any_of HT_.out (by kernel_rfl)) (fun _ _ _ h => h) (Or.inl ⟨by rfl, ?_⟩) ?_ ?_
 rotate_left
 {
 intro w'
 go_simp
 with_reducible rfl
 }
 rotate_left
 {
 simp only [Act.put, List.setIfInBounds_toArray, List.set_cons_zero, List.set_cons_succ, i64_w, i32_w]
 rfl
 }
 refine done_ (done_of HT_.out (by kernel_rfl)) ?_
 obtain ⟨⟨jt, ju, jv, jw, jx, jy, jz, jA, jB, jC, il, im⟩, jD, jE, jF, jG, jH, jI, jJ, jK, jL, jM, io, ip⟩ := cells12 aa.out
 try go_wp2_with (first | ((with_reducible refine gate_dst (N := 106) rfl ?_); refine Kd.R_lit (Kd.int .u8) _ 5 ?hg (N := 106) ?hd (xs := ([(wrap64 ((wrap64 (Int.tdiv (wrap64 (20 + (af.length : Int))) 4)) * 16)) % 256, (ag) % 256] : List Int)) (inner := [.int .u8 ((wrap64 ((wrap64 (Int.tdiv (wrap64 (20 + (af.length : Int))) 4)) * 16)) % 256), .int .u8 ((ag) % 256)]) (ok := fun _ => True) (okp := fun _ => True) ?hr ?hp (fun _ hk => hk) trivial (Below.refl _ _) (Nat.le_refl _) (by simp) ?_; (case hd => rfl); (case hg => rfl); (case hr => first | (go_simp; done) | (go_simp; rfl)); (case hp => exact (Reps.one (show Kd.M (Kd.int .u8) _ _ _ ((wrap64 ((wrap64 (Int.tdiv (wrap64 (20 + (af.length : Int))) 4)) * 16)) % 256) [.int .u8 ((wrap64 ((wrap64 (Int.tdiv (wrap64 (20 + (af.length : Int))) 4)) * 16)) % 256)] from rfl) (Reps.one (show Kd.M (Kd.int .u8) _ _ _ ((ag) % 256) [.int .u8 ((ag) % 256)] from rfl) (Reps.none _ _)))); intro kc kd dw hb hg_ hnew_; clear hg_ hnew_; (first | rw [← Ny390.out] at dw | (simp only [Int.reduceToNat] at dw; rw [← Ny390.out] at dw)); have n0_ := Aside0.mk (Kd.R_elder' (Rh HO_8) (Kd.R_base dw) hb); have n1_ := Aside0.mk (Kd.R_elder' (Rh dv) (Kd.R_base dw) hb); have n2_ := Aside0.mk (Kd.R_lower (Kd.R_new' (Kd.R_new' dw (Kd.R_lt (Rh HO_8))) (Kd.R_lt (Rh dv))) (below_size wB)); have n3_ := Aside0.mk (blk_below (Bh aa) hb); have n4_ := Aside0.mk (below_step wB hb); clear HO_8; clear dv; clear aa; clear HB; have HO_8 := n0_; have dv := n1_; have av := n2_; have aa := n3_; have HB := n4_; clear n0_ n1_ n2_ n3_ n4_; clear hb dw; obtain ⟨aQ, aT, hN⟩ := Kd.R_slice av.out; subst hN) | ((with_reducible refine gate_builtin (b := .append) (xs := #[.tmp 98, .tmp 106]) rfl ?_); at_builtin; refine Kd.R_append_rows (Kd.int .u8) (w0 := w) w.heap.size rfl (.tmp 98) (.tmp 106) 22 5 (.int .u8 0) 1 rfl Try.underlying22 info5 rfl (by decide) (by omega) hA aM aC _ _ _ (fun k_ => some k_ ≠ (.slice aN af.length aP : Value).ownBlock ∧ some k_ ≠ (.slice aQ aC.length aT : Value).ownBlock) (fun _ => False) rfl rfl ?aO ?aR (fun _ _ h => h) (fun _ h => h.elim) ?aF ?aB ?aS ?aL ?_; (case aR => exact Ch av); (case aB => exact wB); (case aF => exact (fun k_ hk => ⟨Kd.fresh' (Kd.R_lt (Rh HO_8)) k_ hk, Kd.fresh' (Kd.R_lt (Rh av)) k_ hk⟩)); (case aO => exact (Rh dv)); (case aS => exact (below_size wB)); (case aL => have := LMc77.out; omega); intro ke kf ho hb hg hat; rw [← Ny393.out] at ho; have n0_ := Aside0.mk (Kd.R_after (ok := (fun k_ => some k_ ≠ (.slice aQ aC.length aT : Value).ownBlock)) (Kd.R_mono (Rh HO_8) (fun _ hk => ⟨hk.2, hk.1⟩)) hg hat); have n1_ := Aside0.mk (blk_grown (Bh aa) hg (Kd.R_ne dv.out aa.out (by decide))); have n2_ := Aside0.mk (Kd.R_after (ok := (fun k_ => some k_ ≠ (.slice aN af.length aP : Value).ownBlock)) (Kd.R_mono (Rh av) (fun _ hk => ⟨hk.1.2, hk.2⟩)) hg hat); have n3_ := Aside0.mk (hb); have n4_ := Aside0.mk (ho); clear HO_8; clear aa; clear av; clear HB; clear dv; have HO_8 := n0_; have aa := n1_; have av := n2_; have HB := n3_; have fn := n4_; clear n0_ n1_ n2_ n3_ n4_; clear ho hb hg hat; obtain ⟨⟨iq, ir, it, iu, iv, iw, ix, iy, iz, iA, hT, hU⟩, iB, iC, iD, iE, iF, iG, iH, iI, iJ, iK, hV, hW⟩ := cells12 aa.out; obtain ⟨gu, gv, hO⟩ := Kd.R_slice fn.out; subst hO) | ((with_reducible refine gate_callee (f := 45) rfl ?_); refine goesL_ (some 111) rfl rfl Try.func45 (by kernel_rfl) rfl #[.slice gu fH.length gv, .int .i64 2, .int .i64 ah] rfl wT ?_; (with_reducible refine (impl_put.calls au (fun k_ => some k_ = (.slice gu fH.length gv : Value).ownBlock) (.slice gu fH.length gv) fH 2 ah aE w _ ?side1 ?side2 A78.out).mono ?_); (case side1 => repeat (first | (with_reducible first | exact HB.out | apply below_alloc | apply pw_below_drewN | apply below_drew1 | refine below_set ?_ cm.out) | exact HB.out)); (case side2 => exact Kd.R_tight rfl fn.out); rintro e kg ⟨gY, rfl, aG, hb, hkp⟩; refine ⟨_, rfl, ?_⟩; have n0_ := Aside0.mk (Kd.R_mono (ok' := fun k_ => some k_ ≠ (.slice aQ aC.length aT : Value).ownBlock ∧ some k_ ≠ (gY : Value).ownBlock) (Kd.R_keptB (HO_8.out) hkp (fun k_ hk_ hs_ => (hk_.2) hs_)) (fun k_ hk_ => ⟨hk_.1.1, fun e_ => Or.elim (aG.1 k_ e_.symm) (fun hs_ => hk_.2.1 hs_) (fun hn_ => Nat.not_le.2 hk_.2.2 hn_)⟩)); have n1_ := Aside0.mk (blk_kept (Bh aa) hkp (fun hs_ => (fun e_ => (Kd.R_ne fn.out aa.out (by decide)) e_) hs_)); have n2_ := Aside0.mk (Kd.R_mono (ok' := fun k_ => some k_ ≠ (.slice aN af.length aP : Value).ownBlock ∧ some k_ ≠ (gY : Value).ownBlock) (Kd.R_keptB (av.out) hkp (fun k_ hk_ hs_ => (hk_.2) hs_)) (fun k_ hk_ => ⟨hk_.1.1, fun e_ => Or.elim (aG.1 k_ e_.symm) (fun hs_ => hk_.2.1 hs_) (fun hn_ => Nat.not_le.2 hk_.2.2 hn_)⟩)); have n3_ := Aside0.mk (Kd.R_mono (ok' := fun k_ => some k_ ≠ (.slice aN af.length aP : Value).ownBlock ∧ some k_ ≠ (.slice aQ aC.length aT : Value).ownBlock) aG (fun k_ hk_ => ⟨Or.elim hk_ (fun hs_ => fun e_ => (((HO_8.out).1 k_ e_.symm).2) hs_) (fun hn_ => (Kd.fresh' (Kd.R_lt (Rh HO_8)) k_ hn_)), Or.elim hk_ (fun hs_ => fun e_ => (((av.out).1 k_ e_.symm).2) hs_) (fun hn_ => (Kd.fresh' (Kd.R_lt (Rh av)) k_ hn_))⟩)); have n4_ := Aside0.mk (hb); clear HO_8; clear aa; clear av; clear HB; clear fn; have HO_8 := n0_; have aa := n1_; have av := n2_; have dx := n3_; have HB := n4_; clear n0_ n1_ n2_ n3_ n4_; (try clear hb); (try clear hkp); (try clear aG)) | ((with_reducible refine gate_dst (N := 112) rfl ?_); refine Kd.R_lit (Kd.int .u8) _ 5 ?hg (N := 112) ?hd (xs := ([0, 0, 0, 0] : List Int)) (inner := [.int .u8 0, .int .u8 0, .int .u8 0, .int .u8 0]) (ok := fun _ => True) (okp := fun _ => True) ?hr ?hp (fun _ hk => hk) trivial (Below.refl _ _) (Nat.le_refl _) (by simp) ?_; (case hd => rfl); (case hg => rfl); (case hr => first | (go_simp; done) | (go_simp; rfl)); (case hp => exact (Reps.one (show Kd.M (Kd.int .u8) _ _ _ 0 [.int .u8 0] from rfl) (Reps.one (show Kd.M (Kd.int .u8) _ _ _ 0 [.int .u8 0] from rfl) (Reps.one (show Kd.M (Kd.int .u8) _ _ _ 0 [.int .u8 0] from rfl) (Reps.one (show Kd.M (Kd.int .u8) _ _ _ 0 [.int .u8 0] from rfl) (Reps.none _ _)))))); intro kh ki cn hb hg_ hnew_; clear hg_ hnew_; (first | rw [← Ny399.out] at cn | (simp only [Int.reduceToNat] at cn; rw [← Ny399.out] at cn)); have n0_ := Aside0.mk (Kd.R_elder' (Rh HO_8) (Kd.R_base cn) hb); have n1_ := Aside0.mk (Kd.R_elder' (Rh av) (Kd.R_base cn) hb); have n2_ := Aside0.mk (Kd.R_elder' (Rh dx) (Kd.R_base cn) hb); have n3_ := Aside0.mk (Kd.R_lower (Kd.R_new' (Kd.R_new' (Kd.R_new' cn (Kd.R_lt (Rh HO_8))) (Kd.R_lt (Rh av))) (Kd.R_lt (Rh dx))) (below_size wB)); have n4_ := Aside0.mk (blk_below (Bh aa) hb); have n5_ := Aside0.mk (below_step wB hb); clear HO_8; clear av; clear dx; clear aa; clear HB; have HO_8 := n0_; have av := n1_; have dx := n2_; have aH := n3_; have aa := n4_; have HB := n5_; clear n0_ n1_ n2_ n3_ n4_ n5_; clear hb cn; obtain ⟨bf, bg, hP⟩ := Kd.R_slice aH.out; subst hP) | ((with_reducible refine gate_builtin (b := .append) (xs := #[.tmp 111, .tmp 112]) rfl ?_); at_builtin; refine Kd.R_append_rows (Kd.int .u8) (w0 := w) w.heap.size rfl (.tmp 111) (.tmp 112) 22 5 (.int .u8 0) 1 rfl Try.underlying22 info5 rfl (by decide) (by omega) gY aE ay _ _ _ (fun k_ => some k_ ≠ (.slice aN af.length aP : Value).ownBlock ∧ some k_ ≠ (.slice aQ aC.length aT : Value).ownBlock ∧ some k_ ≠ (.slice bf ay.length bg : Value).ownBlock) (fun _ => False) rfl rfl ?aO ?aR (fun _ _ h => h) (fun _ h => h.elim) ?aF ?aB ?aS ?aL ?_; (case aR => exact Ch aH); (case aB => exact wB); (case aF => exact (fun k_ hk => ⟨Kd.fresh' (Kd.R_lt (Rh HO_8)) k_ hk, Kd.fresh' (Kd.R_lt (Rh av)) k_ hk, Kd.fresh' (Kd.R_lt (Rh aH)) k_ hk⟩)); (case aO => exact (Kd.R_mono (Rh dx) (fun _ hk => ⟨hk.1.1, ⟨hk.1.2, hk.2⟩⟩))); (case aS => exact (below_size wB)); (case aL => have := LMc79.out; omega); intro iL iM ho hb hg hat; rw [← Ny402.out] at ho; have n0_ := Aside0.mk (Kd.R_after (ok := (fun k_ => some k_ ≠ (.slice aQ aC.length aT : Value).ownBlock ∧ some k_ ≠ (.slice bf ay.length bg : Value).ownBlock)) (Kd.R_mono (Rh HO_8) (fun _ hk => ⟨⟨hk.1.1, hk.2⟩, hk.1.2⟩)) hg hat); have n1_ := Aside0.mk (blk_grown (Bh aa) hg (Kd.R_ne dx.out aa.out (by decide))); have n2_ := Aside0.mk (Kd.R_after (ok := (fun k_ => some k_ ≠ (.slice aN af.length aP : Value).ownBlock ∧ some k_ ≠ (.slice bf ay.length bg : Value).ownBlock)) (Kd.R_mono (Rh av) (fun _ hk => ⟨⟨hk.1.1, hk.2⟩, hk.1.2⟩)) hg hat); have n3_ := Aside0.mk (Kd.R_after (ok := (fun k_ => some k_ ≠ (.slice aN af.length aP : Value).ownBlock ∧ some k_ ≠ (.slice aQ aC.length aT : Value).ownBlock)) (Kd.R_mono (Rh aH) (fun _ hk => ⟨⟨hk.1.1.2, hk.1.2⟩, hk.2⟩)) hg hat); have n4_ := Aside0.mk (hb); have n5_ := Aside0.mk (ho); clear HO_8; clear aa; clear av; clear aH; clear HB; clear dx; have HO_8 := n0_; have aa := n1_; have av := n2_; have aH := n3_; have HB := n4_; have dy := n5_; clear n0_ n1_ n2_ n3_ n4_ n5_; clear ho hb hg hat))
 have n0_ := Aside0.mk (Kd.R_drew HO_8.out)
 have n1_ := Aside0.mk (Kd.R_drew av.out)
 have n2_ := Aside0.mk (Kd.R_drew aH.out)
 have n3_ := Aside0.mk (Kd.R_drew dy.out)
 have n4_ := Aside0.mk (blk_drew aa.out)
 have n5_ := Aside0.mk (below_drew1 HB.out)
 clear HO_8
 clear av
 clear aH
 clear dy
 clear aa
 clear HB
 have HO_8 := n0_
 have av := n1_
 have aH := n2_
 have dy := n3_
 have aa := n4_
 have HB := n5_
 clear n0_ n1_ n2_ n3_ n4_ n5_
 refine start_ (n := 7) (S := fun w' => w'.cell? ⟨an, 0, none⟩ = some (.int .i64 am) ∧ w'.cell? ⟨an, 1, none⟩ = some (.int .i64 al) ∧ w'.cell? ⟨an, 2, none⟩ = some (.int .i64 ak) ∧ w'.cell? ⟨an, 3, none⟩ = some (.int .i64 aj) ∧ w'.cell? ⟨an, 4, none⟩ = some (.int .i64 ag) ∧ w'.cell? ⟨an, 5, none⟩ = some (.int .i64 ah) ∧ w'.cell? ⟨an, 6, none⟩ = some (.int .i64 ae) ∧ w'.cell? ⟨an, 7, none⟩ = some (.bool ap) ∧ w'.cell? ⟨an, 8, none⟩ = some (.int .i64 ai) ∧ w'.cell? ⟨an, 9, none⟩ = some (.bool aq) ∧ w'.cell? ⟨an, 10, none⟩ = some (.slice A0_10 ab.length aJ) ∧ w'.cell? ⟨an, 11, none⟩ = some (.slice A0_11 ad.length aK)) (ds := []) #[false, false, false, false, false, false, false] (by kernel_rfl) rfl rfl ⟨(blk_cell aa.out 0).trans rfl, (blk_cell aa.out 1).trans rfl, (blk_cell aa.out 2).trans rfl, (blk_cell aa.out 3).trans rfl, (blk_cell aa.out 4).trans rfl, (blk_cell aa.out 5).trans rfl, (blk_cell aa.out 6).trans rfl, (blk_cell aa.out 7).trans rfl, (blk_cell aa.out 8).trans rfl, (blk_cell aa.out 9).trans rfl, (blk_cell aa.out 10).trans rfl, (blk_cell aa.out 11).trans rfl⟩ (fun hHeld => ?_)
 generalize iM.drew = kj at HO_8 av aH dy aa HB hHeld ⊢
 refine pure_ (i := 0) (N := some 114) (v := ?_) (a' := ?_) #[true, false, false, false, false, false, false] rfl rfl (by kernel_rfl) (fun _ _ _ h => h) (Or.inl ⟨by rfl, ?_⟩) ?_ ?_
 rotate_left
 {
 intro w'
 go_simp
 with_reducible rfl
 }
 rotate_left
 {
 simp only [Act.put, List.setIfInBounds_toArray, List.set_cons_zero, List.set_cons_succ, i64_w, i32_w]
 rfl
 }
 refine pure_ (i := 1) (N := some 115) (v := ?_) (a' := ?_) #[true, true, false, false, false, false, false] rfl rfl (by kernel_rfl) (fun _ _ _ h => h) (Or.inl ⟨by rfl, ?_⟩) ?_ ?_
 rotate_left
 {
 intro w'
 go_simp
 with_reducible rfl
 }
 rotate_left
 {
 simp only [Act.put, List.setIfInBounds_toArray, List.set_cons_zero, List.set_cons_succ, i64_w, i32_w]
 rfl
 }
 refine pure_ (i := 3) (N := some 117) (v := ?_) (a' := ?_) #[true, true, false, true, false, false, false] rfl rfl (by kernel_rfl) (fun _ _ _ h => h) (Or.inl ⟨by rfl, ?_⟩) ?_ ?_
 rotate_left
 {
 intro w'
 go_simp
 with_reducible rfl
 }
 rotate_left
 {
 simp only [Act.put, List.setIfInBounds_toArray, List.set_cons_zero, List.set_cons_succ, i64_w, i32_w]
 rfl
 }
 refine take_ (i := 4) (N := some 118) (v := ?_) (a' := ?_) #[true, true, false, true, true, false, false] rfl rfl (by kernel_rfl) (fun _ _ _ h => h) (Or.inl ⟨by rfl, ?_⟩) hHeld ?_ ?_
 rotate_left
 {
 rintro w' ⟨s0, s1, s2, s3, s4, s5, s6, s7, s8, s9, gz, gA⟩
 go_simp
 with_reducible rfl
 }
 rotate_left
 {
 simp only [Act.put, List.setIfInBounds_toArray, List.set_cons_zero, List.set_cons_succ, i64_w, i32_w]
 rfl
 }
 refine one_ (i := 2) (N := some 116) #[true, true, true, true, true, false, false] rfl rfl (by kernel_rfl) (by decide) (fun K hK => ?_)
 refine Kd.R_append_rows_step (Kd.int .u8) (w0 := w) w.heap.size (by rfl) (.tmp 114) (.tmp 115) 22 5 (.int .u8 0) 1 rfl Try.underlying22 info5 rfl (by decide) (by omega) iL aD af _ _ _ (fun k_ => some k_ ≠ (.slice aN af.length aP : Value).ownBlock ∧ some k_ ≠ (.slice aQ aC.length aT : Value).ownBlock ∧ some k_ ≠ (.slice bf ay.length bg : Value).ownBlock) (fun _ => False) rfl rfl ?aO ?aR (fun _ _ h => h) (fun _ h => h.elim) ?aF ?aB ?aS ?aL ?_
 (case aR => exact Ch HO_8)
 (case aB => exact wB)
 (case aF => exact (fun k_ hk => ⟨Kd.fresh' (Kd.R_lt (Rh HO_8)) k_ hk, Kd.fresh' (Kd.R_lt (Rh av)) k_ hk, Kd.fresh' (Kd.R_lt (Rh aH)) k_ hk⟩))
 (case aO => exact (Rh dy))
 (case aS => exact (below_size wB))
 (case aL => have := LMc80.out; omega)
 intro iN kk ho hb hg hat
 rw [← Ny405.out] at ho
 have n0_ := Aside0.mk (Kd.R_after (ok := (fun k_ => some k_ ≠ (.slice aQ aC.length aT : Value).ownBlock ∧ some k_ ≠ (.slice bf ay.length bg : Value).ownBlock)) (Rh HO_8) hg hat)
 have n1_ := Aside0.mk (blk_grown (Bh aa) hg (Kd.R_ne dy.out aa.out (by decide)))
 have n2_ := Aside0.mk (Kd.R_after (ok := (fun k_ => some k_ ≠ (.slice aN af.length aP : Value).ownBlock ∧ some k_ ≠ (.slice bf ay.length bg : Value).ownBlock)) (Rh av) hg hat)
 have n3_ := Aside0.mk (Kd.R_after (ok := (fun k_ => some k_ ≠ (.slice aN af.length aP : Value).ownBlock ∧ some k_ ≠ (.slice aQ aC.length aT : Value).ownBlock)) (Rh aH) hg hat)
 have n4_ := Aside0.mk (hb)
 have n5_ := Aside0.mk (ho)
 clear HO_8
 clear aa
 clear av
 clear aH
 clear HB
 clear dy
 have HO_8 := n0_
 have aa := n1_
 have av := n2_
 have aH := n3_
 have HB := n4_
 have gw := n5_
 clear n0_ n1_ n2_ n3_ n4_ n5_
 clear ho hb hg hat
 refine hK.out _ _ ⟨(blk_cell aa.out 0).trans rfl, (blk_cell aa.out 1).trans rfl, (blk_cell aa.out 2).trans rfl, (blk_cell aa.out 3).trans rfl, (blk_cell aa.out 4).trans rfl, (blk_cell aa.out 5).trans rfl, (blk_cell aa.out 6).trans rfl, (blk_cell aa.out 7).trans rfl, (blk_cell aa.out 8).trans rfl, (blk_cell aa.out 9).trans rfl, (blk_cell aa.out 10).trans rfl, (blk_cell aa.out 11).trans rfl⟩ (fun hHeld => ?_)
 clear hK K
 refine norm_ (a' := ?_) ?_ ?_
 rotate_left
 {
 show Act.put _ (some 116) _ = _
 simp only [Act.put, List.setIfInBounds_toArray, List.set_cons_zero, List.set_cons_succ, i64_w, i32_w]
 rfl
 }
 refine one_ (i := 5) (N := some 119) #[true, true, true, true, true, true, false] rfl rfl (by kernel_rfl) (by decide) (fun K hK => ?_)
 refine Kd.R_append_rows_step (Kd.int .u8) (w0 := w) w.heap.size (by rfl) (.tmp 116) (.tmp 118) 22 5 (.int .u8 0) 1 rfl Try.underlying22 info5 rfl (by decide) (by omega) iN aA ad _ _ _ (fun k_ => some k_ ≠ (.slice aN af.length aP : Value).ownBlock ∧ some k_ ≠ (.slice aQ aC.length aT : Value).ownBlock ∧ some k_ ≠ (.slice bf ay.length bg : Value).ownBlock) (fun _ => False) rfl rfl ?aO ?aR (fun _ _ h => h) (fun _ h => h.elim) ?aF ?aB ?aS ?aL ?_
 (case aR => exact Kd.C_below HR0_11.out wB)
 (case aB => exact wB)
 (case aF => exact (fun k_ hk => ⟨Kd.fresh' (Kd.R_lt (Rh HO_8)) k_ hk, Kd.fresh' (Kd.R_lt (Rh av)) k_ hk, Kd.fresh' (Kd.R_lt (Rh aH)) k_ hk⟩))
 (case aO => exact (Rh gw))
 (case aS => exact (below_size wB))
 (case aL => have := LMc81.out; omega)
 intro kl km ho hb hg hat
 rw [← Ny408.out] at ho
 have n0_ := Aside0.mk (Kd.R_after (ok := (fun k_ => some k_ ≠ (.slice aQ aC.length aT : Value).ownBlock ∧ some k_ ≠ (.slice bf ay.length bg : Value).ownBlock)) (Rh HO_8) hg hat)
 have n1_ := Aside0.mk (blk_grown (Bh aa) hg (Kd.R_ne gw.out aa.out (by decide)))
 have n2_ := Aside0.mk (Kd.R_after (ok := (fun k_ => some k_ ≠ (.slice aN af.length aP : Value).ownBlock ∧ some k_ ≠ (.slice bf ay.length bg : Value).ownBlock)) (Rh av) hg hat)
 have n3_ := Aside0.mk (Kd.R_after (ok := (fun k_ => some k_ ≠ (.slice aN af.length aP : Value).ownBlock ∧ some k_ ≠ (.slice aQ aC.length aT : Value).ownBlock)) (Rh aH) hg hat)
 have n4_ := Aside0.mk (hb)
 have n5_ := Aside0.mk (ho)
 clear HO_8
 clear aa
 clear av
 clear aH
 clear HB
 clear gw
 have HO_8 := n0_
 have aa := n1_
 have av := n2_
 have aH := n3_
 have HB := n4_
 have ao := n5_
 clear n0_ n1_ n2_ n3_ n4_ n5_
 clear ho hb hg hat
 refine hK.out _ _ ⟨(blk_cell aa.out 0).trans rfl, (blk_cell aa.out 1).trans rfl, (blk_cell aa.out 2).trans rfl, (blk_cell aa.out 3).trans rfl, (blk_cell aa.out 4).trans rfl, (blk_cell aa.out 5).trans rfl, (blk_cell aa.out 6).trans rfl, (blk_cell aa.out 7).trans rfl, (blk_cell aa.out 8).trans rfl, (blk_cell aa.out 9).trans rfl, (blk_cell aa.out 10).trans rfl, (blk_cell aa.out 11).trans rfl⟩ (fun hHeld => ?_)
 clear hK K
 refine norm_ (a' := ?_) ?_ ?_
 rotate_left
 {
 show Act.put _ (some 119) _ = _
 simp only [Act.put, List.setIfInBounds_toArray, List.set_cons_zero, List.set_cons_succ, i64_w, i32_w]
 rfl
 }
 refine pure_ (i := 6) (N := some 13) (v := ?_) (a' := ?_) #[true, true, true, true, true, true, true] rfl rfl (by kernel_rfl) (fun _ _ _ h => h) (Or.inl ⟨by rfl, ?_⟩) ?_ ?_
 rotate_left
 {
 intro w'
 go_simp
 with_reducible rfl
 }
 rotate_left
 {
 simp only [Act.put, List.setIfInBounds_toArray, List.set_cons_zero, List.set_cons_succ, i64_w, i32_w]
 rfl
 }
 refine done_ (by kernel_rfl) ?_
 obtain ⟨hQ, dz, hR⟩ := Kd.R_slice ao.out
 subst hR
 have n_ := Aside0.mk (Kd.R_mono (ok' := (fun _ => True)) ao.out (fun k_ hk => trivial))
 clear ao
 have ao := n_
 clear n_
 (try clear HO_8)
 (try clear av)
 (try clear aH)
 try go_wp2_with (first | ((with_reducible refine gate_callee (f := 30) rfl ?_); refine goesL_ (some 124) rfl rfl Try.func30 (by kernel_rfl) rfl #[.int .i64 a1, .int .i64 a2, .int .i64 6, .int .i64 (ac.length : Int)] rfl wT ?_; (with_reducible refine (impl_FalseHead.calls au a1 a2 6 (ac.length : Int) aw _ A82.out).mono ?_); rintro e kn ⟨iO, rfl, aG, hb⟩; refine ⟨_, rfl, ?_⟩; have n0_ := Aside0.mk (Kd.R_elder' (Rh ao) (Kd.R_base aG) hb); have n1_ := Aside0.mk (Kd.R_lower (Kd.R_new' aG (Kd.R_lt (Rh ao))) (below_size wB)); have n2_ := Aside0.mk (blk_below (Bh aa) hb); have n3_ := Aside0.mk (below_step wB hb); clear ao; clear aa; clear HB; have ao := n0_; have gx := n1_; have aa := n2_; have HB := n3_; clear n0_ n1_ n2_ n3_; (try clear hb); (try clear hb2); (try clear hk); (try clear hi); (try clear aG)) | ((with_reducible refine gate_builtin (b := .append) (xs := #[.tmp 124, .tmp 125]) rfl ?_); at_builtin; refine Kd.R_append_rows (Kd.int .u8) (w0 := w) w.heap.size rfl (.tmp 124) (.tmp 125) 22 5 (.int .u8 0) 1 rfl Try.underlying22 info5 rfl (by decide) (by omega) iO aw ac _ _ _ (fun k_ => some k_ ≠ (.slice hQ ac.length dz : Value).ownBlock) (fun _ => False) rfl rfl ?aO ?aR (fun _ _ h => h) (fun _ h => h.elim) ?aF ?aB ?aS ?aL ?_; (case aR => exact Ch ao); (case aB => exact wB); (case aF => exact (fun k_ hk => Kd.fresh' (Kd.R_lt (Rh ao)) k_ hk)); (case aO => exact (Kd.R_mono (Rh gx) (fun _ hk => hk.2))); (case aS => exact (below_size wB)); (case aL => have := LMc83.out; omega); intro ko dE ho hb hg hat; rw [← Ny414.out] at ho; have n0_ := Aside0.mk (blk_grown (Bh aa) hg (Kd.R_ne gx.out aa.out (by decide))); have n1_ := Aside0.mk (Kd.R_after (ok := (fun _ => True)) (Rh ao) hg hat); have n2_ := Aside0.mk (hb); have n3_ := Aside0.mk (ho); clear aa; clear ao; clear HB; clear gx; have aa := n0_; have ao := n1_; have HB := n2_; have aI := n3_; clear n0_ n1_ n2_ n3_; clear ho hb hg hat; obtain ⟨eN, eO, hS⟩ := Kd.R_slice aI.out; subst hS) | ((with_reducible refine gate_callee (f := 29) rfl ?_); refine goesL_ (some 127) rfl rfl Try.func29 (by kernel_rfl) rfl #[.slice eN es.length eO] rfl wT ?_; (with_reducible refine (impl_Checksum.calls au _ _ es ar _ ?side1 ?side2 A84.out).mono ?_); (case side1 => exact Ch aI); (case side2 => exact (Kd.R_reads' aI.out).2.1); rintro e w' ⟨rfl, ⟨nd, rfl⟩⟩; refine ⟨_, rfl, ?_⟩; (try (rw [drewN_self dE]; generalize hq_ : World.drewN dE _ = dE; have n0_ := Aside0.mk (Kd.R_at hq_ ao.out); have n1_ := Aside0.mk (Kd.R_at hq_ aI.out); have n2_ := Aside0.mk (blk_at hq_ aa.out); have n3_ := Aside0.mk (below_at hq_ HB.out); clear hq_ ao aI aa HB; have ao := n0_; have aI := n1_; have aa := n2_; have HB := n3_; clear n0_ n1_ n2_ n3_; (try (obtain ⟨⟨c0, da, db, dc, dd, de, df, dg, dh, di, co, cp⟩, dj, dk, dl, dm, dn, dp, dq, dr, dt, du, cq, cr⟩ := cells12 aa.out)))); have p86 : 0 ≤ (16 : Int) := (by omega); have q86 : (16 : Int) < ((ac.length : Int) : Int) := of_decide_eq_true (by first | (with_reducible assumption) | assumption); have qi86 : (16 < ac.length) = True := eq_true (by omega); obtain ⟨go86, kp, hB, hC, gl86, cl86, HG86⟩ := Kd.R_form ao.out (by omega); (first | cases hB | (injection hB with ea_ en_ ec_; (first | subst ea_ | (injection ea_ with ea_; subst ea_)); subst ec_; clear en_)); have GB86 := Aside0.mk hC; have GG86 := Aside0.mk HG86; clear hC gl86 HG86; obtain ⟨hx86_0, hf86_0⟩ := Kd.R_celln 0 ao.out (16 : Int) p86 q86; (try rw [show ((16 : Int)).toNat = 16 from rfl] at hx86_0); (try simp only [Nat.reduceMul, Nat.zero_mul, Nat.zero_add, Nat.reduceAdd] at hx86_0); (try rw [show ((16 : Int)).toNat = 16 from rfl] at hf86_0); (try simp only [Nat.reduceMul, Nat.zero_mul, Nat.zero_add, Nat.reduceAdd] at hf86_0); replace p86 := eq_true p86; replace q86 := eq_true q86; have n_ := Aside0.mk (Kd.R_mono (ok' := (fun k_ => some k_ ≠ (.slice eN es.length eO : Value).ownBlock)) ao.out (fun k_ hk => hk.2)); clear ao; have ao := n_; clear n_; obtain ⟨hy118_, hz118_⟩ := Kd.R_celln 0 ao.out (16 : Int) (by omega) (of_decide_eq_true (by first | (with_reducible assumption) | assumption)); (try simp only [Int.reduceToNat, Int.toNat_zero, Int.toNat_ofNat, Nat.reduceMul, Nat.zero_mul, Nat.zero_add] at hy118_ hz118_); (try rw [show ((16 : Int)).toNat = 16 from rfl] at hy118_); (try rw [show ((16 : Int)).toNat = 16 from rfl] at hz118_); have HP118 := Kd.R_putg ao.out (16 : Int) ((ar / 256) % 256)) | ((with_reducible refine gate_store (t := 5) (p := 135) rfl ?_); (try (rw [drewN_self dE]; generalize hq_ : World.drewN dE _ = dE; have n0_ := Aside0.mk (Kd.R_at hq_ ao.out); have n1_ := Aside0.mk (Kd.R_at hq_ aI.out); have n2_ := Aside0.mk (blk_at hq_ aa.out); have n3_ := Aside0.mk (below_at hq_ HB.out); clear hq_ ao aI aa HB; have ao := n0_; have aI := n1_; have aa := n2_; have HB := n3_; clear n0_ n1_ n2_ n3_; (try (obtain ⟨⟨c0, da, db, dc, dd, de, df, dg, dh, di, co, cp⟩, dj, dk, dl, dm, dn, dp, dq, dr, dt, du, cq, cr⟩ := cells12 aa.out)); (try (have n_ := Aside0.mk (Kd.R_mono (ok' := (fun k_ => some k_ ≠ (.slice eN es.length eO : Value).ownBlock)) ao.out (fun k_ hk => hk.2)); clear ao; have ao := n_; clear n_)); (try (obtain ⟨hy118_, hz118_⟩ := Kd.R_celln 0 ao.out (16 : Int) (by omega) (of_decide_eq_true (by first | (with_reducible assumption) | assumption)))); (try (try simp only [Int.reduceToNat, Int.toNat_zero, Int.toNat_ofNat, Nat.reduceMul, Nat.zero_mul, Nat.zero_add] at hy118_ hz118_)); (try (try rw [show ((16 : Int)).toNat = 16 from rfl] at hy118_)); (try (try rw [show ((16 : Int)).toNat = 16 from rfl] at hz118_)); (try (have HP118 := Kd.R_putg ao.out (16 : Int) ((ar / 256) % 256))))); refine store_event (t := 5) (p := 135) (v := ?vo_w119) (w1 := (dE.setCell ⟨go86, (16 : Int).toNat, none⟩ (.int .u8 ((ar / 256) % 256)))) ?hg ?ho ?hn ?hr ?_; (case ho => rfl); (case hg => rfl); (case hn => rfl); (case hr => first | (go_simp; done) | (go_simp; rfl)); intro dF hw; have hg : dE.grownBy dF (some go86) := (by rw [hw]; exact HP118.2); have hp_ : Kd.R (Kd.int .u8) 5 dF w.heap.size (fun k_ => some k_ ≠ (.slice eN es.length eO : Value).ownBlock) (.slice (some ⟨go86, 0, none⟩) ac.length dz) gR := (by rw [hw, Ny418.out]; exact HP118.1); clear HP118; have n0_ := Aside0.mk (blk_grown (Bh aa) hg (Kd.R_ne ao.out aa.out (by decide))); have n1_ := Aside0.mk (hp_); have n2_ := Aside0.mk (Kd.R_after (v := (.slice (some ⟨go86, 0, none⟩) ac.length dz)) (v1 := (.slice (some ⟨go86, 0, none⟩) ac.length dz)) (ok := (fun _ => True)) (Kd.R_mono (Rh aI) (fun _ hk => ⟨trivial, hk⟩)) hg (.inl rfl)); have n3_ := Aside0.mk ((by rw [hw]; exact below_set (HB.out) GB86.out : Below w.heap.size w dF)); clear aa; clear ao; clear aI; clear HB; have aa := n0_; have ao := n1_; have aI := n2_; have HB := n3_; clear n0_ n1_ n2_ n3_; clear hg hw hp_; have p88 : 0 ≤ (17 : Int) := (by omega); have q88 : (17 : Int) < ((ac.length : Int) : Int) := of_decide_eq_true (by first | (with_reducible assumption) | assumption); have qi88 : (17 < ac.length) = True := eq_true (by omega); obtain ⟨hx88_0, hf88_0⟩ := Kd.R_celln 0 ao.out (17 : Int) p88 q88; (try rw [show ((17 : Int)).toNat = 17 from rfl] at hx88_0); (try simp only [Nat.reduceMul, Nat.zero_mul, Nat.zero_add, Nat.reduceAdd] at hx88_0); (try rw [show ((17 : Int)).toNat = 17 from rfl] at hf88_0); (try simp only [Nat.reduceMul, Nat.zero_mul, Nat.zero_add, Nat.reduceAdd] at hf88_0); replace p88 := eq_true p88; replace q88 := eq_true q88; obtain ⟨hy120_, hz120_⟩ := Kd.R_celln 0 ao.out (17 : Int) (by omega) (of_decide_eq_true (by first | (with_reducible assumption) | assumption)); (try simp only [Int.reduceToNat, Int.toNat_zero, Int.toNat_ofNat, Nat.reduceMul, Nat.zero_mul, Nat.zero_add] at hy120_ hz120_); (try rw [show ((17 : Int)).toNat = 17 from rfl] at hy120_); (try rw [show ((17 : Int)).toNat = 17 from rfl] at hz120_); have HP120 := Kd.R_putg ao.out (17 : Int) ((ar) % 256)) | ((with_reducible refine gate_store (t := 5) (p := 136) rfl ?_); (try (rw [drewN_self dF]; generalize hq_ : World.drewN dF _ = dF; have n0_ := Aside0.mk (Kd.R_at hq_ ao.out); have n1_ := Aside0.mk (Kd.R_at hq_ aI.out); have n2_ := Aside0.mk (blk_at hq_ aa.out); have n3_ := Aside0.mk (below_at hq_ HB.out); clear hq_ ao aI aa HB; have ao := n0_; have aI := n1_; have aa := n2_; have HB := n3_; clear n0_ n1_ n2_ n3_; (try (obtain ⟨⟨c0, da, db, dc, dd, de, df, dg, dh, di, co, cp⟩, dj, dk, dl, dm, dn, dp, dq, dr, dt, du, cq, cr⟩ := cells12 aa.out)); (try (obtain ⟨hy120_, hz120_⟩ := Kd.R_celln 0 ao.out (17 : Int) (by omega) (of_decide_eq_true (by first | (with_reducible assumption) | assumption)))); (try (try simp only [Int.reduceToNat, Int.toNat_zero, Int.toNat_ofNat, Nat.reduceMul, Nat.zero_mul, Nat.zero_add] at hy120_ hz120_)); (try (try rw [show ((17 : Int)).toNat = 17 from rfl] at hy120_)); (try (try rw [show ((17 : Int)).toNat = 17 from rfl] at hz120_)); (try (have HP120 := Kd.R_putg ao.out (17 : Int) ((ar) % 256))))); refine store_event (t := 5) (p := 136) (v := ?vo_w121) (w1 := (dF.setCell ⟨go86, (17 : Int).toNat, none⟩ (.int .u8 ((ar) % 256)))) ?hg ?ho ?hn ?hr ?_; (case ho => rfl); (case hg => rfl); (case hn => rfl); (case hr => first | (go_simp; done) | (go_simp; rfl)); intro gZ hw; have hg : dF.grownBy gZ (some go86) := (by rw [hw]; exact HP120.2); have hp_ : Kd.R (Kd.int .u8) 5 gZ w.heap.size (fun k_ => some k_ ≠ (.slice eN es.length eO : Value).ownBlock) (.slice (some ⟨go86, 0, none⟩) ac.length dz) hv := (by rw [hw, Ny419.out]; exact HP120.1); clear HP120; have n0_ := Aside0.mk (blk_grown (Bh aa) hg (Kd.R_ne ao.out aa.out (by decide))); have n1_ := Aside0.mk (hp_); have n2_ := Aside0.mk (Kd.R_after (v := (.slice (some ⟨go86, 0, none⟩) ac.length dz)) (v1 := (.slice (some ⟨go86, 0, none⟩) ac.length dz)) (ok := (fun _ => True)) (Rh aI) hg (.inl rfl)); have n3_ := Aside0.mk ((by rw [hw]; exact below_set (HB.out) GB86.out : Below w.heap.size w gZ)); clear aa; clear ao; clear aI; clear HB; have aa := n0_; have ao := n1_; have aI := n2_; have HB := n3_; clear n0_ n1_ n2_ n3_; clear hg hw hp_))
 go_ret2
 exact ⟨_, by first | rfl | (simp [errW_none, errW_some] <;> rfl) | (simp [*, errW_none, errW_some] <;> rfl), Kd.R_mono (Rh ao) (fun _ hk => trivial), wB⟩
 }
 {
 rw [if_neg g8] at H
 exact absurd H (by simp)
 }
 }
 {
 rw [if_neg g7] at H
 exact absurd H (by simp)
 }
 }
 {
 rw [if_neg g6] at H
 exact absurd H (by simp)
 }
 }
 {
 rw [if_neg g5] at H
 exact absurd H (by simp)
 }
 }
 {
 rw [if_neg g4] at H
 exact absurd H (by simp)
 }
 }
 {
 rw [if_neg g3] at H
 exact absurd H (by simp)
 }
 }
 {
 rw [if_neg g2] at H
 exact absurd H (by simp)
 }
 }
 }
 )
 }
 )
 }
 )
 }
 )
 }
 }
 )




end Go.Proofs.Ytfllcmeakcbiaaa.PFnOneBit
