-- Written for this claim by a program of this session (wip/mkprint.py: the print, turned at a few places). Not trusted: Lean checks it.
import Derived.Test.YtckhadlmhbhngaaPFnComplainx0
import Derived.Test.YtckhadlmhbhngaaPFnComplainx2
import Derived.Test.YtckhadlmhbhngaaPFnComplainx5
import Derived.Test.YtckhadlmhbhngaaPFnComplainx9
import Derived.Test.YtckhadlmhbhngaaPFnComplainx12
import Derived.Test.YtckhadlmhbhngaaPFnComplainx14
import Derived.Test.YtckhadlmhbhngaaPFnComplainx16
import Derived.Test.YtckhadlmhbhngaaPFnComplainx17
import Derived.Test.YtckhadlmhbhngaaPFnComplainx18
namespace Go.Proofs.Ytckhadlmhbhngaa.PFnComplain
open Go.RowKit Go.Proofs.YtckhadlmhbhngaaW.PrintWords Go.Proofs.YtckhadlmhbhngaaW.PrintLast Go.Proofs.YtckhadlmhbhngaaW.PrintMore
attribute [local go_sem] max2_int min2_int max_two min_two max_three min_three max_four min_four   -- for this text's walks alone
set_option linter.unusedVariables false
set_option linter.unusedSimpArgs false

/-! ### laws_FnComplain: function 4 -/
def laws_FnComplain.j0 : Nat → Bool → Int → Int → Bool → Bool → Int → Int → Int → Int → Int → List Int → List Int → Int → Int → Int → List Int → Option (Bool)
  | 0, _, _, _, _, _, _, _, _, _, _, _, _, _, _, _, _ => none
  | k + 1, ah, ai, ac, aj, ak, al, am, ad, ae, af, an, aa, ao, ap, aq, ag => if ah = true then (none) else ((impl_ReadQuote.f k ag).bind fun ab => (if (aa.length : Int) < 8 then (some (ab.2.2.2.2.2.2.2 == 2)) else (if ab.2.2.2.2.2.2.2 = 0 then (if ab.1 = ad then (if ab.2.1 = ae then (if ab.2.2.1 = af then (if ab.2.2.2.1 = ac then (if 0 < (aa.length : Int) then (if 1 < (aa.length : Int) then (if ab.2.2.2.2.1 = (wrap64 ((wrap64 ((wrap64 (rd aa 0)) * 256)) + (wrap64 (rd aa 1)))) then (if 2 < (aa.length : Int) then (if 3 < (aa.length : Int) then (some (ab.2.2.2.2.2.1 == (wrap64 ((wrap64 ((wrap64 (rd aa 2)) * 256)) + (wrap64 (rd aa 3)))))) else (none)) else (none)) else (none)) else (none)) else (none)) else (none)) else (none)) else (none)) else (none)) else (none))))
def laws_FnComplain.f (k : Nat) (l0 : List Int) : Option (Bool) := if (l0.length : Int) > 1048576 then (some true) else ((spec_DrawComplain.f k l0).bind fun aa => ((spec_Complain.f k aa.1 aa.2.1 aa.2.2.1 aa.2.2.2.1 aa.2.2.2.2.1 aa.2.2.2.2.2.1 aa.2.2.2.2.2.2.1 aa.2.2.2.2.2.2.2.1 aa.2.2.2.2.2.2.2.2.1 aa.2.2.2.2.2.2.2.2.2.1 aa.2.2.2.2.2.2.2.2.2.2.1 aa.2.2.2.2.2.2.2.2.2.2.2.1 aa.2.2.2.2.2.2.2.2.2.2.2.2.1 aa.2.2.2.2.2.2.2.2.2.2.2.2.2.1 aa.2.2.2.2.2.2.2.2.2.2.2.2.2.2).bind fun ae => ((impl_MayComplain.f aa.1 aa.2.1 aa.2.2.1 aa.2.2.2.1 aa.2.2.2.2.1 aa.2.2.2.2.2.1 aa.2.2.2.2.2.2.1 aa.2.2.2.2.2.2.2.1 aa.2.2.2.2.2.2.2.2.1 aa.2.2.2.2.2.2.2.2.2.1 aa.2.2.2.2.2.2.2.2.2.2.1).bind fun ag => ((spec_MayComplain.f k aa.1 aa.2.1 aa.2.2.1 aa.2.2.2.1 aa.2.2.2.2.1 aa.2.2.2.2.2.1 aa.2.2.2.2.2.2.1 aa.2.2.2.2.2.2.2.1 aa.2.2.2.2.2.2.2.2.1 aa.2.2.2.2.2.2.2.2.2.1 aa.2.2.2.2.2.2.2.2.2.2.1).bind fun ah => (if (ag != ah) = true then (none) else ((impl_Complain.f k aa.1 aa.2.1 aa.2.2.1 aa.2.2.2.1 aa.2.2.2.2.1 aa.2.2.2.2.2.1 aa.2.2.2.2.2.2.1 aa.2.2.2.2.2.2.2.1 aa.2.2.2.2.2.2.2.2.1 aa.2.2.2.2.2.2.2.2.2.1 aa.2.2.2.2.2.2.2.2.2.2.1 aa.2.2.2.2.2.2.2.2.2.2.2.1 aa.2.2.2.2.2.2.2.2.2.2.2.2.1 aa.2.2.2.2.2.2.2.2.2.2.2.2.2.1 aa.2.2.2.2.2.2.2.2.2.2.2.2.2.2).bind fun ad => (if ad.2.2.2.2.2.2.2.2.2.2.2 = ae.2.2.2.2.2.2.2.2.2.2.2 then (if ad.2.2.2.2.2.2.2.2.2.2.2 = 0 then ((impl_EncodeIP.f k ad.1 ad.2.1 ad.2.2.1 ad.2.2.2.1 ad.2.2.2.2.1 ad.2.2.2.2.2.1 ad.2.2.2.2.2.2.1 ad.2.2.2.2.2.2.2.1 ad.2.2.2.2.2.2.2.2.1 ad.2.2.2.2.2.2.2.2.2.1 ad.2.2.2.2.2.2.2.2.2.2.1).bind fun af => ((impl_DecodeIP.f k af.1).bind fun ac => ((impl_DecodeIcmp.f k ac.2.2.2.2.2.2.2.2.2.2.1).bind fun ab => (if af.2 = 0 then (if ac.2.2.2.2.2.2.2.2.2.2.2 = 0 then (if ab.2.2.2.2 = 0 then ((laws_lwPacket.f ac.1 ac.2.1 ac.2.2.1 ac.2.2.2.1 ac.2.2.2.2.1 ac.2.2.2.2.2.1 ac.2.2.2.2.2.2.1 ac.2.2.2.2.2.2.2.1 ac.2.2.2.2.2.2.2.2.1 ac.2.2.2.2.2.2.2.2.2.1 ac.2.2.2.2.2.2.2.2.2.2.1 ae.1 ae.2.1 ae.2.2.1 ae.2.2.2.1 ae.2.2.2.2.1 ae.2.2.2.2.2.1 ae.2.2.2.2.2.2.1 ae.2.2.2.2.2.2.2.1 ae.2.2.2.2.2.2.2.2.1 ae.2.2.2.2.2.2.2.2.2.1 ae.2.2.2.2.2.2.2.2.2.2.1).bind fun ai => (if ai = true then (if ac.2.2.2.2.2.2.2.1 = aa.2.2.2.2.2.2.2.2.2.2.2.1 then (if ac.2.2.2.2.2.2.2.2.1 = aa.2.2.2.2.2.2.2.1 then (if ab.1 = aa.2.2.2.2.2.2.2.2.2.2.2.2.1 then (if ab.2.1 = aa.2.2.2.2.2.2.2.2.2.2.2.2.2.1 then (if ab.2.2.1 = aa.2.2.2.2.2.2.2.2.2.2.2.2.2.2 then ((impl_MayComplain.f ac.1 ac.2.1 ac.2.2.1 ac.2.2.2.1 ac.2.2.2.2.1 ac.2.2.2.2.2.1 ac.2.2.2.2.2.2.1 ac.2.2.2.2.2.2.2.1 ac.2.2.2.2.2.2.2.2.1 ac.2.2.2.2.2.2.2.2.2.1 ac.2.2.2.2.2.2.2.2.2.2.1).bind fun aj => (laws_FnComplain.j0 k aj aa.1 aa.2.1 aa.2.2.1 aa.2.2.2.1 aa.2.2.2.2.1 aa.2.2.2.2.2.1 aa.2.2.2.2.2.2.1 aa.2.2.2.2.2.2.2.1 aa.2.2.2.2.2.2.2.2.1 aa.2.2.2.2.2.2.2.2.2.1 aa.2.2.2.2.2.2.2.2.2.2.1 ab.1 ab.2.1 ab.2.2.1 ab.2.2.2.1)) else (laws_FnComplain.j0 k true aa.1 aa.2.1 aa.2.2.1 aa.2.2.2.1 aa.2.2.2.2.1 aa.2.2.2.2.2.1 aa.2.2.2.2.2.2.1 aa.2.2.2.2.2.2.2.1 aa.2.2.2.2.2.2.2.2.1 aa.2.2.2.2.2.2.2.2.2.1 aa.2.2.2.2.2.2.2.2.2.2.1 ab.1 ab.2.1 ab.2.2.1 ab.2.2.2.1)) else (laws_FnComplain.j0 k true aa.1 aa.2.1 aa.2.2.1 aa.2.2.2.1 aa.2.2.2.2.1 aa.2.2.2.2.2.1 aa.2.2.2.2.2.2.1 aa.2.2.2.2.2.2.2.1 aa.2.2.2.2.2.2.2.2.1 aa.2.2.2.2.2.2.2.2.2.1 aa.2.2.2.2.2.2.2.2.2.2.1 ab.1 ab.2.1 ab.2.2.1 ab.2.2.2.1)) else (laws_FnComplain.j0 k true aa.1 aa.2.1 aa.2.2.1 aa.2.2.2.1 aa.2.2.2.2.1 aa.2.2.2.2.2.1 aa.2.2.2.2.2.2.1 aa.2.2.2.2.2.2.2.1 aa.2.2.2.2.2.2.2.2.1 aa.2.2.2.2.2.2.2.2.2.1 aa.2.2.2.2.2.2.2.2.2.2.1 ab.1 ab.2.1 ab.2.2.1 ab.2.2.2.1)) else (laws_FnComplain.j0 k true aa.1 aa.2.1 aa.2.2.1 aa.2.2.2.1 aa.2.2.2.2.1 aa.2.2.2.2.2.1 aa.2.2.2.2.2.2.1 aa.2.2.2.2.2.2.2.1 aa.2.2.2.2.2.2.2.2.1 aa.2.2.2.2.2.2.2.2.2.1 aa.2.2.2.2.2.2.2.2.2.2.1 ab.1 ab.2.1 ab.2.2.1 ab.2.2.2.1)) else (laws_FnComplain.j0 k true aa.1 aa.2.1 aa.2.2.1 aa.2.2.2.1 aa.2.2.2.2.1 aa.2.2.2.2.2.1 aa.2.2.2.2.2.2.1 aa.2.2.2.2.2.2.2.1 aa.2.2.2.2.2.2.2.2.1 aa.2.2.2.2.2.2.2.2.2.1 aa.2.2.2.2.2.2.2.2.2.2.1 ab.1 ab.2.1 ab.2.2.1 ab.2.2.2.1)) else (laws_FnComplain.j0 k true aa.1 aa.2.1 aa.2.2.1 aa.2.2.2.1 aa.2.2.2.2.1 aa.2.2.2.2.2.1 aa.2.2.2.2.2.2.1 aa.2.2.2.2.2.2.2.1 aa.2.2.2.2.2.2.2.2.1 aa.2.2.2.2.2.2.2.2.2.1 aa.2.2.2.2.2.2.2.2.2.2.1 ab.1 ab.2.1 ab.2.2.1 ab.2.2.2.1))) else (laws_FnComplain.j0 k true aa.1 aa.2.1 aa.2.2.1 aa.2.2.2.1 aa.2.2.2.2.1 aa.2.2.2.2.2.1 aa.2.2.2.2.2.2.1 aa.2.2.2.2.2.2.2.1 aa.2.2.2.2.2.2.2.2.1 aa.2.2.2.2.2.2.2.2.2.1 aa.2.2.2.2.2.2.2.2.2.2.1 ab.1 ab.2.1 ab.2.2.1 ab.2.2.2.1)) else (laws_FnComplain.j0 k true aa.1 aa.2.1 aa.2.2.1 aa.2.2.2.1 aa.2.2.2.2.1 aa.2.2.2.2.2.1 aa.2.2.2.2.2.2.1 aa.2.2.2.2.2.2.2.1 aa.2.2.2.2.2.2.2.2.1 aa.2.2.2.2.2.2.2.2.2.1 aa.2.2.2.2.2.2.2.2.2.2.1 ab.1 ab.2.1 ab.2.2.1 ab.2.2.2.1)) else (laws_FnComplain.j0 k true aa.1 aa.2.1 aa.2.2.1 aa.2.2.2.1 aa.2.2.2.2.1 aa.2.2.2.2.2.1 aa.2.2.2.2.2.2.1 aa.2.2.2.2.2.2.2.1 aa.2.2.2.2.2.2.2.2.1 aa.2.2.2.2.2.2.2.2.2.1 aa.2.2.2.2.2.2.2.2.2.2.1 ab.1 ab.2.1 ab.2.2.1 ab.2.2.2.1))))) else (some true)) else (none))))))))
theorem laws_FnComplain.mono_l : ∀ k, (∀ y0 y1 y2 y3 y4 y5 y6 y7 y8 y9 aa ab ac ad ae af, LeO (laws_FnComplain.j0 k y0 y1 y2 y3 y4 y5 y6 y7 y8 y9 aa ab ac ad ae af) (laws_FnComplain.j0 (k + 1) y0 y1 y2 y3 y4 y5 y6 y7 y8 y9 aa ab ac ad ae af))
  | 0 => fun _ _ _ _ _ _ _ _ _ _ _ _ _ _ _ _ r h => by simp [laws_FnComplain.j0] at h
  | k + 1 => by
    have ih0 := laws_FnComplain.mono_l k
    · intro y0 y1 y2 y3 y4 y5 y6 y7 y8 y9 aa ab ac ad ae af
      unfold laws_FnComplain.j0
      repeat' first
      | (with_reducible exact ih0 _ _ _ _ _ _ _ _ _ _ _ _ _ _ _ _)
      | (with_reducible exact impl_Complain.mono _ _ _ _ _ _ _ _ _ _ _ _ _ _ _ _)
      | (with_reducible exact impl_DecodeIP.mono _ _)
      | (with_reducible exact impl_DecodeIcmp.mono _ _)
      | (with_reducible exact impl_EncodeIP.mono _ _ _ _ _ _ _ _ _ _ _ _)
      | (with_reducible exact impl_ReadQuote.mono _ _)
      | (with_reducible exact spec_Complain.mono _ _ _ _ _ _ _ _ _ _ _ _ _ _ _ _)
      | (with_reducible exact spec_DrawComplain.mono _ _)
      | (with_reducible exact spec_MayComplain.mono _ _ _ _ _ _ _ _ _ _ _ _)
      | (with_reducible exact LeO.refl _)
      | (with_reducible exact LeO.none _)
      | (with_reducible refine LeO.ite ?_ ?_)
      | (with_reducible refine LeO.bind ?_ (fun _ => ?_))
      | exact ih0 _ _ _ _ _ _ _ _ _ _ _ _ _ _ _ _
      | exact impl_Complain.mono _ _ _ _ _ _ _ _ _ _ _ _ _ _ _ _
      | exact impl_DecodeIP.mono _ _
      | exact impl_DecodeIcmp.mono _ _
      | exact impl_EncodeIP.mono _ _ _ _ _ _ _ _ _ _ _ _
      | exact impl_ReadQuote.mono _ _
      | exact spec_Complain.mono _ _ _ _ _ _ _ _ _ _ _ _ _ _ _ _
      | exact spec_DrawComplain.mono _ _
      | exact spec_MayComplain.mono _ _ _ _ _ _ _ _ _ _ _ _
      | exact LeO.none _
      | refine LeO.ite ?_ ?_
      | refine LeO.bind ?_ (fun _ => ?_)
theorem laws_FnComplain.mono : ∀ a0 k, LeO (laws_FnComplain.f k a0) (laws_FnComplain.f (k + 1) a0) := by
 intro a0 k
 have ih0 := laws_FnComplain.mono_l k
 unfold laws_FnComplain.f
 repeat' first
     | (with_reducible exact ih0 _ _ _ _ _ _ _ _ _ _ _ _ _ _ _ _)
     | (with_reducible exact impl_Complain.mono _ _ _ _ _ _ _ _ _ _ _ _ _ _ _ _)
     | (with_reducible exact impl_DecodeIP.mono _ _)
     | (with_reducible exact impl_DecodeIcmp.mono _ _)
     | (with_reducible exact impl_EncodeIP.mono _ _ _ _ _ _ _ _ _ _ _ _)
     | (with_reducible exact impl_ReadQuote.mono _ _)
     | (with_reducible exact spec_Complain.mono _ _ _ _ _ _ _ _ _ _ _ _ _ _ _ _)
     | (with_reducible exact spec_DrawComplain.mono _ _)
     | (with_reducible exact spec_MayComplain.mono _ _ _ _ _ _ _ _ _ _ _ _)
     | (with_reducible exact LeO.refl _)
     | (with_reducible exact LeO.none _)
     | (with_reducible refine LeO.ite ?_ ?_)
     | (with_reducible refine LeO.bind ?_ (fun _ => ?_))
     | exact ih0 _ _ _ _ _ _ _ _ _ _ _ _ _ _ _ _
     | exact impl_Complain.mono _ _ _ _ _ _ _ _ _ _ _ _ _ _ _ _
     | exact impl_DecodeIP.mono _ _
     | exact impl_DecodeIcmp.mono _ _
     | exact impl_EncodeIP.mono _ _ _ _ _ _ _ _ _ _ _ _
     | exact impl_ReadQuote.mono _ _
     | exact spec_Complain.mono _ _ _ _ _ _ _ _ _ _ _ _ _ _ _ _
     | exact spec_DrawComplain.mono _ _
     | exact spec_MayComplain.mono _ _ _ _ _ _ _ _ _ _ _ _
     | exact LeO.none _
     | refine LeO.ite ?_ ?_
     | refine LeO.bind ?_ (fun _ => ?_)
def laws_FnComplain.T20 : Bool × List (List Nat × List Nat) := (true, [([], []), ([0], [0]), ([1], [1]), ([2], [2]), ([3, 2], [2, 3]), ([2], [2]), ([5, 2], [2, 5]), ([4, 6, 2], [2, 4, 6]), ([2, 7], [2, 7]), ([8, 2], [8]), ([9], [9]), ([10, 9], [9, 10]), ([9], [9]), ([12, 9], [9, 12]), ([11, 13, 9], [9, 11, 13]), ([9, 14], [9, 14]), ([15, 9], [15]), ([16], [16]), ([17, 16], [16, 17]), ([16], [16]), ([19, 16], [16, 19]), ([18, 20, 16], [16, 18, 20]), ([16, 21], [16, 21]), ([22, 16], [22]), ([23], [23]), ([24, 23], [23, 24]), ([23], [23]), ([26, 23], [23, 26]), ([25, 27, 23], [23, 25, 27]), ([23, 28], [23, 28]), ([29, 23], [29]), ([30], [30]), ([31, 30], [30, 31]), ([30], [30]), ([33, 30], [30, 33]), ([34, 30], [30, 34]), ([35, 30], [30, 35]), ([36, 30], [30, 36]), ([37, 30], [30, 37]), ([30], [30]), ([39, 30], [30, 39]), ([40, 30], [30, 40]), ([41, 30], [30, 41]), ([42, 30], [30, 42]), ([38, 43, 30], [30, 38, 43]), ([32, 44, 30], [30, 32, 44]), ([30, 45], [30, 45]), ([46, 30], [46]), ([47], [47]), ([48, 47], [47, 48]), ([47], [47]), ([50, 47], [47, 50]), ([51, 47], [47, 51]), ([52, 47], [47, 52]), ([53, 47], [47, 53]), ([54, 47], [47, 54]), ([47], [47]), ([56, 47], [47, 56]), ([57, 47], [47, 57]), ([58, 47], [47, 58]), ([59, 47], [47, 59]), ([55, 60, 47], [47, 55, 60]), ([49, 61, 47], [47, 49, 61]), ([47, 62], [47, 62]), ([63, 47, 0, 1, 2, 3, 4, 5, 6, 7, 8, 9, 10, 11, 12, 13, 14, 15, 16, 17, 18, 19, 20, 21, 22, 23, 24, 25, 26, 27, 28, 29, 30, 31, 32, 33, 34, 35, 36, 37, 38, 39, 40, 41, 42, 43, 44, 45, 46, 47, 48, 49, 50, 51, 52, 53, 54, 55, 56, 57, 58, 59, 60, 61, 62, 63], [63])])
def laws_FnComplain.B20 : List Nat := [0, 1, 3, 7, 15, 7, 39, 127, 255, 511, 1023, 2047, 1023, 5119, 16383, 32767, 65535, 131071, 262143, 131071, 655359, 2097151, 4194303, 8388607, 16777215, 33554431, 16777215, 83886079, 268435455, 536870911, 1073741823, 2147483647, 4294967295, 2147483647, 10737418239, 27917287423, 62277025791, 130996502527, 268435455999, 2147483647, 551903297535, 1651414925311, 3850438180863, 8248484691967, 17585743593471, 35184372088831, 70368744177663, 140737488355327, 281474976710655, 562949953421311, 281474976710655, 1407374883553279, 3659174697238527, 8162774324609023, 17169973579350015, 35184372088831999, 281474976710655, 72339069014638591, 216454257090494463, 504684633242206207, 1081145385545629695, 2304998584283561983, 4611686018427387903, 9223372036854775807, 18446744073709551615]
theorem laws_FnComplain.tab20 : rtab .any (opsOf Try.f4 20) = laws_FnComplain.T20 := by kernel_rfl
theorem laws_FnComplain.bits20 : waitsOk laws_FnComplain.T20.2 laws_FnComplain.B20 = true := by kernel_rfl
set_option maxHeartbeats 60000000 in
set_option maxRecDepth 100000 in
theorem laws_FnComplain.calls (k : Nat) (A0 : Option Addr) (c0 : Nat) (l0 : List Int) (r : Bool) (w : World) (hr0 : Kd.C (Kd.int .u8) w A0 l0.length l0) (hc0 : l0.length ≤ c0) (h : laws_FnComplain.f k l0 = some r) :
 Calls Try.prog 4 #[.slice A0 l0.length c0] w fun e w' => e = .returned (.bool r) ∧ Below w.heap.size w w' := by
 have hu25 := Try.underlying25
 have hu52 := Try.underlying52
 have hu56 := Try.underlying56
 have HR0 := Aside0.mk hr0
 have l4 := Aside0.mk hc0
 clear hr0 hc0
 have HB := Aside0.mk (Below.refl w.heap.size w)
 have H : (if (l0.length : Int) > 1048576 then (some true) else ((spec_DrawComplain.f k l0).bind fun aa => ((spec_Complain.f k aa.1 aa.2.1 aa.2.2.1 aa.2.2.2.1 aa.2.2.2.2.1 aa.2.2.2.2.2.1 aa.2.2.2.2.2.2.1 aa.2.2.2.2.2.2.2.1 aa.2.2.2.2.2.2.2.2.1 aa.2.2.2.2.2.2.2.2.2.1 aa.2.2.2.2.2.2.2.2.2.2.1 aa.2.2.2.2.2.2.2.2.2.2.2.1 aa.2.2.2.2.2.2.2.2.2.2.2.2.1 aa.2.2.2.2.2.2.2.2.2.2.2.2.2.1 aa.2.2.2.2.2.2.2.2.2.2.2.2.2.2).bind fun bR => ((impl_MayComplain.f aa.1 aa.2.1 aa.2.2.1 aa.2.2.2.1 aa.2.2.2.2.1 aa.2.2.2.2.2.1 aa.2.2.2.2.2.2.1 aa.2.2.2.2.2.2.2.1 aa.2.2.2.2.2.2.2.2.1 aa.2.2.2.2.2.2.2.2.2.1 aa.2.2.2.2.2.2.2.2.2.2.1).bind fun ez => ((spec_MayComplain.f k aa.1 aa.2.1 aa.2.2.1 aa.2.2.2.1 aa.2.2.2.2.1 aa.2.2.2.2.2.1 aa.2.2.2.2.2.2.1 aa.2.2.2.2.2.2.2.1 aa.2.2.2.2.2.2.2.2.1 aa.2.2.2.2.2.2.2.2.2.1 aa.2.2.2.2.2.2.2.2.2.2.1).bind fun eA => (if (ez != eA) = true then (none) else ((impl_Complain.f k aa.1 aa.2.1 aa.2.2.1 aa.2.2.2.1 aa.2.2.2.2.1 aa.2.2.2.2.2.1 aa.2.2.2.2.2.2.1 aa.2.2.2.2.2.2.2.1 aa.2.2.2.2.2.2.2.2.1 aa.2.2.2.2.2.2.2.2.2.1 aa.2.2.2.2.2.2.2.2.2.2.1 aa.2.2.2.2.2.2.2.2.2.2.2.1 aa.2.2.2.2.2.2.2.2.2.2.2.2.1 aa.2.2.2.2.2.2.2.2.2.2.2.2.2.1 aa.2.2.2.2.2.2.2.2.2.2.2.2.2.2).bind fun br => (if br.2.2.2.2.2.2.2.2.2.2.2 = bR.2.2.2.2.2.2.2.2.2.2.2 then (if br.2.2.2.2.2.2.2.2.2.2.2 = 0 then ((impl_EncodeIP.f k br.1 br.2.1 br.2.2.1 br.2.2.2.1 br.2.2.2.2.1 br.2.2.2.2.2.1 br.2.2.2.2.2.2.1 br.2.2.2.2.2.2.2.1 br.2.2.2.2.2.2.2.2.1 br.2.2.2.2.2.2.2.2.2.1 br.2.2.2.2.2.2.2.2.2.2.1).bind fun j4 => ((impl_DecodeIP.f k j4.1).bind fun a0 => ((impl_DecodeIcmp.f k a0.2.2.2.2.2.2.2.2.2.2.1).bind fun aL => (if j4.2 = 0 then (if a0.2.2.2.2.2.2.2.2.2.2.2 = 0 then (if aL.2.2.2.2 = 0 then ((laws_lwPacket.f a0.1 a0.2.1 a0.2.2.1 a0.2.2.2.1 a0.2.2.2.2.1 a0.2.2.2.2.2.1 a0.2.2.2.2.2.2.1 a0.2.2.2.2.2.2.2.1 a0.2.2.2.2.2.2.2.2.1 a0.2.2.2.2.2.2.2.2.2.1 a0.2.2.2.2.2.2.2.2.2.2.1 bR.1 bR.2.1 bR.2.2.1 bR.2.2.2.1 bR.2.2.2.2.1 bR.2.2.2.2.2.1 bR.2.2.2.2.2.2.1 bR.2.2.2.2.2.2.2.1 bR.2.2.2.2.2.2.2.2.1 bR.2.2.2.2.2.2.2.2.2.1 bR.2.2.2.2.2.2.2.2.2.2.1).bind fun j2 => (if j2 = true then (if a0.2.2.2.2.2.2.2.1 = aa.2.2.2.2.2.2.2.2.2.2.2.1 then (if a0.2.2.2.2.2.2.2.2.1 = aa.2.2.2.2.2.2.2.1 then (if aL.1 = aa.2.2.2.2.2.2.2.2.2.2.2.2.1 then (if aL.2.1 = aa.2.2.2.2.2.2.2.2.2.2.2.2.2.1 then (if aL.2.2.1 = aa.2.2.2.2.2.2.2.2.2.2.2.2.2.2 then ((impl_MayComplain.f a0.1 a0.2.1 a0.2.2.1 a0.2.2.2.1 a0.2.2.2.2.1 a0.2.2.2.2.2.1 a0.2.2.2.2.2.2.1 a0.2.2.2.2.2.2.2.1 a0.2.2.2.2.2.2.2.2.1 a0.2.2.2.2.2.2.2.2.2.1 a0.2.2.2.2.2.2.2.2.2.2.1).bind fun e3 => (laws_FnComplain.j0 k e3 aa.1 aa.2.1 aa.2.2.1 aa.2.2.2.1 aa.2.2.2.2.1 aa.2.2.2.2.2.1 aa.2.2.2.2.2.2.1 aa.2.2.2.2.2.2.2.1 aa.2.2.2.2.2.2.2.2.1 aa.2.2.2.2.2.2.2.2.2.1 aa.2.2.2.2.2.2.2.2.2.2.1 aL.1 aL.2.1 aL.2.2.1 aL.2.2.2.1)) else (laws_FnComplain.j0 k true aa.1 aa.2.1 aa.2.2.1 aa.2.2.2.1 aa.2.2.2.2.1 aa.2.2.2.2.2.1 aa.2.2.2.2.2.2.1 aa.2.2.2.2.2.2.2.1 aa.2.2.2.2.2.2.2.2.1 aa.2.2.2.2.2.2.2.2.2.1 aa.2.2.2.2.2.2.2.2.2.2.1 aL.1 aL.2.1 aL.2.2.1 aL.2.2.2.1)) else (laws_FnComplain.j0 k true aa.1 aa.2.1 aa.2.2.1 aa.2.2.2.1 aa.2.2.2.2.1 aa.2.2.2.2.2.1 aa.2.2.2.2.2.2.1 aa.2.2.2.2.2.2.2.1 aa.2.2.2.2.2.2.2.2.1 aa.2.2.2.2.2.2.2.2.2.1 aa.2.2.2.2.2.2.2.2.2.2.1 aL.1 aL.2.1 aL.2.2.1 aL.2.2.2.1)) else (laws_FnComplain.j0 k true aa.1 aa.2.1 aa.2.2.1 aa.2.2.2.1 aa.2.2.2.2.1 aa.2.2.2.2.2.1 aa.2.2.2.2.2.2.1 aa.2.2.2.2.2.2.2.1 aa.2.2.2.2.2.2.2.2.1 aa.2.2.2.2.2.2.2.2.2.1 aa.2.2.2.2.2.2.2.2.2.2.1 aL.1 aL.2.1 aL.2.2.1 aL.2.2.2.1)) else (laws_FnComplain.j0 k true aa.1 aa.2.1 aa.2.2.1 aa.2.2.2.1 aa.2.2.2.2.1 aa.2.2.2.2.2.1 aa.2.2.2.2.2.2.1 aa.2.2.2.2.2.2.2.1 aa.2.2.2.2.2.2.2.2.1 aa.2.2.2.2.2.2.2.2.2.1 aa.2.2.2.2.2.2.2.2.2.2.1 aL.1 aL.2.1 aL.2.2.1 aL.2.2.2.1)) else (laws_FnComplain.j0 k true aa.1 aa.2.1 aa.2.2.1 aa.2.2.2.1 aa.2.2.2.2.1 aa.2.2.2.2.2.1 aa.2.2.2.2.2.2.1 aa.2.2.2.2.2.2.2.1 aa.2.2.2.2.2.2.2.2.1 aa.2.2.2.2.2.2.2.2.2.1 aa.2.2.2.2.2.2.2.2.2.2.1 aL.1 aL.2.1 aL.2.2.1 aL.2.2.2.1)) else (laws_FnComplain.j0 k true aa.1 aa.2.1 aa.2.2.1 aa.2.2.2.1 aa.2.2.2.2.1 aa.2.2.2.2.2.1 aa.2.2.2.2.2.2.1 aa.2.2.2.2.2.2.2.1 aa.2.2.2.2.2.2.2.2.1 aa.2.2.2.2.2.2.2.2.2.1 aa.2.2.2.2.2.2.2.2.2.2.1 aL.1 aL.2.1 aL.2.2.1 aL.2.2.2.1))) else (laws_FnComplain.j0 k true aa.1 aa.2.1 aa.2.2.1 aa.2.2.2.1 aa.2.2.2.2.1 aa.2.2.2.2.2.1 aa.2.2.2.2.2.2.1 aa.2.2.2.2.2.2.2.1 aa.2.2.2.2.2.2.2.2.1 aa.2.2.2.2.2.2.2.2.2.1 aa.2.2.2.2.2.2.2.2.2.2.1 aL.1 aL.2.1 aL.2.2.1 aL.2.2.2.1)) else (laws_FnComplain.j0 k true aa.1 aa.2.1 aa.2.2.1 aa.2.2.2.1 aa.2.2.2.2.1 aa.2.2.2.2.2.1 aa.2.2.2.2.2.2.1 aa.2.2.2.2.2.2.2.1 aa.2.2.2.2.2.2.2.2.1 aa.2.2.2.2.2.2.2.2.2.1 aa.2.2.2.2.2.2.2.2.2.2.1 aL.1 aL.2.1 aL.2.2.1 aL.2.2.2.1)) else (laws_FnComplain.j0 k true aa.1 aa.2.1 aa.2.2.1 aa.2.2.2.1 aa.2.2.2.2.1 aa.2.2.2.2.2.1 aa.2.2.2.2.2.2.1 aa.2.2.2.2.2.2.2.1 aa.2.2.2.2.2.2.2.2.1 aa.2.2.2.2.2.2.2.2.2.1 aa.2.2.2.2.2.2.2.2.2.2.1 aL.1 aL.2.1 aL.2.2.1 aL.2.2.2.1))))) else (some true)) else (none))))))))) = some r := h
 clear h
 by_cases c2 : (l0.length : Int) > 1048576
 rw [if_pos c2] at H
 have c2b0 : decide (1048576 < (l0.length : Int)) = true := decide_eq_true c2
 have c2b1 : decide (1048576 < l0.length) = true := decide_eq_true (by omega)
 clear c2
 obtain rfl := Option.some.inj H
 rotate_left
 rw [if_neg c2] at H
 have c2b0 : decide (1048576 < (l0.length : Int)) = false := decide_eq_false c2
 have c2b1 : decide (1048576 < l0.length) = false := decide_eq_false (by omega)
 clear c2
 replace H := Option.bind_eq_some_iff.mp H
 obtain ⟨⟨a4, aX, a5, a6, a7, a8, aY, aU, aZ, ar, ac, dI, dJ, dK, dL⟩, A30, H⟩ := H
 try dsimp only at H
 have A3 := Aside0.mk A30
 clear A30
 replace H := Option.bind_eq_some_iff.mp H
 obtain ⟨⟨cg, ch, ci, cj, ck, cl, cm, cn, co, aB, aC, gc⟩, A40, H⟩ := H
 try dsimp only at H
 have A4 := Aside0.mk A40
 clear A40
 replace H := Option.bind_eq_some_iff.mp H
 obtain ⟨ez, A50, H⟩ := H
 have A5 := Aside0.mk A50
 clear A50
 replace H := Option.bind_eq_some_iff.mp H
 obtain ⟨eA, A60, H⟩ := H
 have A6 := Aside0.mk A60
 clear A60
 by_cases c7 : (ez != eA) = true
 rw [if_pos c7] at H
 exact absurd H (by simp)
 rw [if_neg c7] at H
 have c7b0 : (ez != eA) = false := by simpa using c7
 (try (have c7b1 : decide (ez = eA) = true := by simpa using c7))
 (try (have c7b2 : (ez == eA) = true := by simpa using c7))
 clear c7
 replace H := Option.bind_eq_some_iff.mp H
 obtain ⟨⟨dj, dk, dl, dm, dn, dp, dq, dr, dt, aD, aE, dM⟩, A80, H⟩ := H
 try dsimp only at H
 have A8 := Aside0.mk A80
 clear A80
 by_cases c9 : dM = gc
 rw [if_pos c9] at H
 have c9b0 : (dM == gc) = true := beq_iff_eq.mpr c9
 have c9b1 : (dM != gc) = false := bne_eq_false_iff_eq.mpr c9
 clear c9
 by_cases e8 : dM = 0
 rw [if_pos e8] at H
 have c10b0 : (dM == 0) = true := beq_iff_eq.mpr e8
 have c10b1 : (dM != 0) = false := bne_eq_false_iff_eq.mpr e8
 clear e8
 replace H := Option.bind_eq_some_iff.mp H
 obtain ⟨⟨bb, e4⟩, A110, H⟩ := H
 try dsimp only at H
 have A11 := Aside0.mk A110
 clear A110
 replace H := Option.bind_eq_some_iff.mp H
 obtain ⟨⟨cI, cJ, cK, cL, cM, cN, cO, bo, bp, aO, aN, e5⟩, A120, H⟩ := H
 try dsimp only at H
 have A12 := Aside0.mk A120
 clear A120
 replace H := Option.bind_eq_some_iff.mp H
 obtain ⟨⟨bh, bi, bj, aS, e6⟩, A130, H⟩ := H
 try dsimp only at H
 have A13 := Aside0.mk A130
 clear A130
 have j3 := Aside0.mk H
 clear H
 rotate_left
 rw [if_neg e8] at H
 have c10b0 : (dM == 0) = false := beq_eq_false_iff_ne.mpr e8
 have c10b1 : (dM != 0) = true := bne_iff_ne.mpr e8
 obtain rfl := Option.some.inj H
 rotate_left
 rw [if_neg c9] at H
 exact absurd H (by simp)
 all_goals (
 go_enter Try.func4, Try.ntmps4
 )
 {
 go_wp2
 go_ret
 exact ⟨eR, wB⟩
 }
 all_goals (
 try go_wp2_with (first | (go_at_call 20; (with_reducible refine (spec_DrawComplain.calls k _ _ l0 a4 aX a5 a6 a7 a8 aY aU aZ ar ac dI dJ dK dL _ ?side1 ?side2 A3.out).mono ?_); (case side1 => repeat (first | exact HR0.out | (with_reducible refine Kd.C_alloc ?_ _) | (with_reducible refine Kd.C_drewN ?_ _) | (with_reducible refine Kd.C_drew ?_))); (case side2 => exact l4.out); rintro e l5 ⟨mm, mo, rfl, aV, bc, hb⟩; have ad := Aside0.mk (Kd.R_lower aV (below_size wB)); have ae := Aside0.mk (Kd.R_lower bc (below_size wB)); replace HB := Aside0.mk (below_step wB hb); clear hb; (try clear aV); (try clear bc)) | ((with_reducible refine gate_dst (N := 3) rfl ?_); refine boxE 3 #[.int .i64 0, .int .i64 0, .bool false, .bool false, .int .i64 0, .int .i64 0, .int .i64 0, .int .i64 0, .int .i64 0, .slice none 0 0, .slice none 0 0] 25 ?_; intro aR hg fX hbox hb; replace ad := Aside0.mk (Kd.R_below (Rh ad) hb); replace ae := Aside0.mk (Kd.R_below (Rh ae) hb); have ab := Aside0.mk (hbox); have kx := Aside0.mk ((by rw [hg]; exact (below_size wB) : w.heap.size ≤ aR)); replace HB := Aside0.mk (below_step wB hb); have l6 := kx; clear hb hbox hg; obtain ⟨⟨gJ, gK, gM, gN, gO, gP, gQ, gR, gS, gT, gf⟩, gU, gV, gW, gX, gY, gZ, g0, g1, g2, g3, gg⟩ := cells11 ab.out; obtain ⟨aj, ak, kn⟩ := Kd.R_slice ad.out; subst kn; obtain ⟨am, al, ko⟩ := Kd.R_slice ae.out; subst ko) | ((with_reducible refine gate_store (t := 25) (p := 3) rfl ?_); (try (rw [drewN_self fX]; generalize hq_ : World.drewN fX _ = fX; replace ad := Aside0.mk (Kd.R_at hq_ ad.out); replace ae := Aside0.mk (Kd.R_at hq_ ae.out); replace ab := Aside0.mk (blk_at hq_ ab.out); replace HB := Aside0.mk (below_at hq_ HB.out); clear hq_; (try (obtain ⟨⟨bs, bu, bv, bw, bz, bA, bB, bC, bD, bE, bm⟩, bF, bG, bH, bI, bJ, bK, bL, bM, bN, bO, bn⟩ := cells11 ab.out)))); refine storeE (put11 fX aR (.int .i64 a4) (.int .i64 aX) (.bool a5) (.bool a6) (.int .i64 a7) (.int .i64 a8) (.int .i64 aY) (.int .i64 aU) (.int .i64 aZ) (.slice aj ar.length ak) (.slice am ac.length al)) ?_; intro fY hw; have n0_ : Aside0 (Kd.R (Kd.int .u8) 5 fY w.heap.size (fun k_ => some k_ ≠ (.slice am ac.length al : Value).ownBlock) (.slice aj ar.length ak) ar) := ⟨(by rw [hw]; exact (by exact Kd.R_mono (Kd.R_step (Kd.R_types ad.out ab.out (by decide)) (fun _ hk _ => far11 hk.2)) (fun _ hk => hk.1)))⟩; have n1_ : Aside0 (Kd.R (Kd.int .u8) 5 fY w.heap.size (fun k_ => some k_ ≠ (.slice aj ar.length ak : Value).ownBlock) (.slice am ac.length al) ac) := ⟨(by rw [hw]; exact (by exact Kd.R_mono (Kd.R_step (Kd.R_types ae.out ab.out (by decide)) (fun _ hk _ => far11 hk.2)) (fun _ hk => hk.1)))⟩; have n2_ : Aside0 (fY.heap[aR]? = some (.cells #[.int .i64 a4, .int .i64 aX, .bool a5, .bool a6, .int .i64 a7, .int .i64 a8, .int .i64 aY, .int .i64 aU, .int .i64 aZ, .slice aj ar.length ak, .slice am ac.length al] 25 (0, 0))) := ⟨(by rw [hw]; exact (by apply set11; exact ab.out))⟩; have n3_ : Aside0 (Below w.heap.size w fY) := ⟨(by rw [hw]; exact wB)⟩; clear hw; clear ad; clear ae; clear ab; clear HB; have ad := n0_; have ae := n1_; have ab := n2_; have HB := n3_; clear n0_ n1_ n2_ n3_; obtain ⟨⟨g4, g5, g6, g7, g8, g9, ha, hc, hd, he, gh⟩, hf, hh, hj, hl, hm, hn, ho, hp, hq, hr, gi⟩ := cells11 ab.out) | (go_at_call 21; (with_reducible refine (spec_Complain.calls k a4 aX a5 a6 a7 a8 aY aU aZ _ _ ar _ _ ac dI dJ dK dL cg ch ci cj ck cl cm cn co aB aC gc _ ?side1 ?side2 ?side3 ?side4 A4.out).mono ?_); (case side1 => exact Ch ad); (case side2 => exact (Kd.R_reads' ad.out).2.1); (case side3 => exact Ch ae); (case side4 => exact (Kd.R_reads' ae.out).2.1); rintro e l7 ⟨mq, mr, rfl, aV, bc, hb⟩; have ag := Aside0.mk (Kd.R_lower (Kd.R_new' (Kd.R_new' aV (Kd.R_lt (Rh ad))) (Kd.R_lt (Rh ae))) (below_size wB)); have ah := Aside0.mk (Kd.R_lower (Kd.R_new' (Kd.R_new' bc (Kd.R_lt (Rh ad))) (Kd.R_lt (Rh ae))) (below_size wB)); replace ad := Aside0.mk (Kd.R_mono (Kd.R_told (Kd.R_told (Kd.R_old (Rh ad) hb) (Kd.R_base aV)) (Kd.R_base bc)) (fun _ h_ => h_.1)); replace ae := Aside0.mk (Kd.R_mono (Kd.R_told (Kd.R_told (Kd.R_old (Rh ae) hb) (Kd.R_base aV)) (Kd.R_base bc)) (fun _ h_ => h_.1)); replace ab := Aside0.mk (blk_below (Bh ab) hb); replace HB := Aside0.mk (below_step wB hb); clear hb; (try clear aV); (try clear bc)) | ((with_reducible refine gate_dst (N := 8) rfl ?_); refine boxE 8 #[.int .i64 0, .int .i64 0, .bool false, .bool false, .int .i64 0, .int .i64 0, .int .i64 0, .int .i64 0, .int .i64 0, .slice none 0 0, .slice none 0 0] 25 ?_; intro bk hg fZ hbox hb; replace ad := Aside0.mk (Kd.R_below (Rh ad) hb); replace ae := Aside0.mk (Kd.R_below (Rh ae) hb); replace ag := Aside0.mk (Kd.R_below (Rh ag) hb); replace ah := Aside0.mk (Kd.R_below (Rh ah) hb); have af := Aside0.mk (hbox); have ky := Aside0.mk ((by rw [hg]; exact (below_size wB) : w.heap.size ≤ bk)); replace HB := Aside0.mk (below_step wB hb); have l8 := ky; have cs := Aside0.mk ((by rw [hg]; exact Nat.ne_of_lt (blk_lt (Bh ab)) : aR ≠ bk)); replace ab := Aside0.mk (blk_below (Bh ab) hb); have d1 := Aside0.mk cs.out.symm; clear hb hbox hg; have ly := d1.out; have lz := cs.out; obtain ⟨⟨hs, ht, hu, hv, hx, hy, hz, hA, hB, hC, gj⟩, hD, hE, hF, hG, hH, hI, hJ, hL, hM, hN, gk⟩ := cells11 af.out; obtain ⟨an, ao, kp⟩ := Kd.R_slice ag.out; subst kp; obtain ⟨ap, aq, kr⟩ := Kd.R_slice ah.out; subst kr) | ((with_reducible refine gate_store (t := 25) (p := 8) rfl ?_); (try (rw [drewN_self fZ]; generalize hq_ : World.drewN fZ _ = fZ; replace ad := Aside0.mk (Kd.R_at hq_ ad.out); replace ae := Aside0.mk (Kd.R_at hq_ ae.out); replace ag := Aside0.mk (Kd.R_at hq_ ag.out); replace ah := Aside0.mk (Kd.R_at hq_ ah.out); replace ab := Aside0.mk (blk_at hq_ ab.out); replace af := Aside0.mk (blk_at hq_ af.out); replace HB := Aside0.mk (below_at hq_ HB.out); clear hq_; (try (obtain ⟨⟨bs, bu, bv, bw, bz, bA, bB, bC, bD, bE, bm⟩, bF, bG, bH, bI, bJ, bK, bL, bM, bN, bO, bn⟩ := cells11 ab.out)); (try (obtain ⟨⟨bU, bV, bW, bX, bY, bZ, b0, b1, b2, b3, bP⟩, b4, b5, b6, b7, b8, b9, ca, cb, cc, cd, bQ⟩ := cells11 af.out)))); refine storeE (put11 fZ bk (.int .i64 cg) (.int .i64 ch) (.bool ci) (.bool cj) (.int .i64 ck) (.int .i64 cl) (.int .i64 cm) (.int .i64 cn) (.int .i64 co) (.slice an aB.length ao) (.slice ap aC.length aq)) ?_; intro du hw; have n0_ : Aside0 (Kd.R (Kd.int .u8) 5 du w.heap.size (fun k_ => some k_ ≠ (.slice am ac.length al : Value).ownBlock ∧ some k_ ≠ (.slice an aB.length ao : Value).ownBlock ∧ some k_ ≠ (.slice ap aC.length aq : Value).ownBlock) (.slice aj ar.length ak) ar) := ⟨(by rw [hw]; exact (by exact Kd.R_mono (Kd.R_step (Kd.R_types ad.out af.out (by decide)) (fun _ hk _ => far11 hk.2)) (fun _ hk => ⟨hk.1.1.1, ⟨hk.1.1.2, hk.1.2⟩⟩)))⟩; have n1_ : Aside0 (Kd.R (Kd.int .u8) 5 du w.heap.size (fun k_ => some k_ ≠ (.slice aj ar.length ak : Value).ownBlock ∧ some k_ ≠ (.slice an aB.length ao : Value).ownBlock ∧ some k_ ≠ (.slice ap aC.length aq : Value).ownBlock) (.slice am ac.length al) ac) := ⟨(by rw [hw]; exact (by exact Kd.R_mono (Kd.R_step (Kd.R_types ae.out af.out (by decide)) (fun _ hk _ => far11 hk.2)) (fun _ hk => ⟨hk.1.1.1, ⟨hk.1.1.2, hk.1.2⟩⟩)))⟩; have n2_ : Aside0 (Kd.R (Kd.int .u8) 5 du w.heap.size (fun k_ => some k_ ≠ (.slice aj ar.length ak : Value).ownBlock ∧ some k_ ≠ (.slice am ac.length al : Value).ownBlock ∧ some k_ ≠ (.slice ap aC.length aq : Value).ownBlock) (.slice an aB.length ao) aB) := ⟨(by rw [hw]; exact (by exact Kd.R_mono (Kd.R_step (Kd.R_types ag.out af.out (by decide)) (fun _ hk _ => far11 hk.2)) (fun _ hk => ⟨hk.1.1.2, ⟨hk.1.2, hk.1.1.1⟩⟩)))⟩; have n3_ : Aside0 (Kd.R (Kd.int .u8) 5 du w.heap.size (fun k_ => some k_ ≠ (.slice aj ar.length ak : Value).ownBlock ∧ some k_ ≠ (.slice am ac.length al : Value).ownBlock ∧ some k_ ≠ (.slice an aB.length ao : Value).ownBlock) (.slice ap aC.length aq) aC) := ⟨(by rw [hw]; exact (by exact Kd.R_mono (Kd.R_step (Kd.R_types ah.out af.out (by decide)) (fun _ hk _ => far11 hk.2)) (fun _ hk => ⟨hk.1.1.2, ⟨hk.1.2, hk.1.1.1⟩⟩)))⟩; have n4_ : Aside0 (du.heap[aR]? = some (.cells #[.int .i64 a4, .int .i64 aX, .bool a5, .bool a6, .int .i64 a7, .int .i64 a8, .int .i64 aY, .int .i64 aU, .int .i64 aZ, .slice aj ar.length ak, .slice am ac.length al] 25 (0, 0))) := ⟨(by rw [hw]; exact (by refine (far11 cs.out).trans ?_; exact ab.out))⟩; have n5_ : Aside0 (du.heap[bk]? = some (.cells #[.int .i64 cg, .int .i64 ch, .bool ci, .bool cj, .int .i64 ck, .int .i64 cl, .int .i64 cm, .int .i64 cn, .int .i64 co, .slice an aB.length ao, .slice ap aC.length aq] 25 (0, 0))) := ⟨(by rw [hw]; exact (by apply set11; exact af.out))⟩; have n6_ : Aside0 (Below w.heap.size w du) := ⟨(by rw [hw]; exact wB)⟩; clear hw; clear ad; clear ae; clear ag; clear ah; clear ab; clear af; clear HB; have ad := n0_; have ae := n1_; have ag := n2_; have ah := n3_; have ab := n4_; have af := n5_; have HB := n6_; clear n0_ n1_ n2_ n3_ n4_ n5_ n6_))
 have n0_ := Aside0.mk (Kd.R_drew ad.out)
 have n1_ := Aside0.mk (Kd.R_drew ae.out)
 have n2_ := Aside0.mk (Kd.R_drew ag.out)
 have n3_ := Aside0.mk (Kd.R_drew ah.out)
 have n4_ := Aside0.mk (blk_drew ab.out)
 have n5_ := Aside0.mk (blk_drew af.out)
 have n6_ := Aside0.mk (below_drew1 HB.out)
 clear ad
 clear ae
 clear ag
 clear ah
 clear ab
 clear af
 clear HB
 have ad := n0_
 have ae := n1_
 have ag := n2_
 have ah := n3_
 have ab := n4_
 have af := n5_
 have HB := n6_
 clear n0_ n1_ n2_ n3_ n4_ n5_ n6_
 refine start_ (n := 5) (S := fun w' => w'.cell? ⟨aR, 0, none⟩ = some (.int .i64 a4) ∧ w'.cell? ⟨aR, 1, none⟩ = some (.int .i64 aX) ∧ w'.cell? ⟨aR, 2, none⟩ = some (.bool a5) ∧ w'.cell? ⟨aR, 3, none⟩ = some (.bool a6) ∧ w'.cell? ⟨aR, 4, none⟩ = some (.int .i64 a7) ∧ w'.cell? ⟨aR, 5, none⟩ = some (.int .i64 a8) ∧ w'.cell? ⟨aR, 6, none⟩ = some (.int .i64 aY) ∧ w'.cell? ⟨aR, 7, none⟩ = some (.int .i64 aU) ∧ w'.cell? ⟨aR, 8, none⟩ = some (.int .i64 aZ) ∧ w'.cell? ⟨aR, 9, none⟩ = some (.slice aj ar.length ak) ∧ w'.cell? ⟨aR, 10, none⟩ = some (.slice am ac.length al)) (ds := []) #[false, false, false, false, false] (by kernel_rfl) rfl rfl ⟨(blk_cell ab.out 0).trans rfl, (blk_cell ab.out 1).trans rfl, (blk_cell ab.out 2).trans rfl, (blk_cell ab.out 3).trans rfl, (blk_cell ab.out 4).trans rfl, (blk_cell ab.out 5).trans rfl, (blk_cell ab.out 6).trans rfl, (blk_cell ab.out 7).trans rfl, (blk_cell ab.out 8).trans rfl, (blk_cell ab.out 9).trans rfl, (blk_cell ab.out 10).trans rfl⟩ (fun hHeld => ?_)
 generalize du.drew = l9 at ad ae ag ah ab af HB hHeld ⊢
 refine take_ (i := 0) (N := some 40) (v := ?_) (a' := ?_) #[true, false, false, false, false] rfl rfl (by kernel_rfl) (fun _ _ _ h => h) (Or.inl ⟨by rfl, ?_⟩) hHeld ?_ ?_
 rotate_left
 {
 rintro w' ⟨s0, s1, s2, s3, s4, s5, s6, s7, s8, s9, ce⟩
 go_simp
 with_reducible rfl
 }
 rotate_left
 {
 simp only [Act.put, List.setIfInBounds_toArray, List.set_cons_zero, List.set_cons_succ, i64_w, i32_w]
 rfl
 }
 refine take_ (i := 2) (N := some 42) (v := ?_) (a' := ?_) #[true, false, true, false, false] rfl rfl (by kernel_rfl) (fun _ _ _ h => h) (Or.inl ⟨by rfl, ?_⟩) hHeld ?_ ?_
 rotate_left
 {
 rintro w' ⟨s0, s1, s2, s3, s4, s5, s6, s7, s8, s9, ce⟩
 go_simp
 with_reducible rfl
 }
 rotate_left
 {
 simp only [Act.put, List.setIfInBounds_toArray, List.set_cons_zero, List.set_cons_succ, i64_w, i32_w]
 rfl
 }
 refine one_ (i := 1) (N := some 41) #[true, true, true, false, false] rfl rfl (by kernel_rfl) (by decide) (fun K hK => ?_)
 refine goes_ Try.func22 (by kernel_rfl) rfl #[.agg #[.int .i64 a4, .int .i64 aX, .bool a5, .bool a6, .int .i64 a7, .int .i64 a8, .int .i64 aY, .int .i64 aU, .int .i64 aZ, .slice aj ar.length ak, .slice am ac.length al]] (by rfl) rfl rfl wT ?_
 with_reducible refine (impl_MayComplain.calls a4 aX a5 a6 a7 a8 aY aU aZ _ _ ar _ _ ac ez _ ?side1 ?side2 ?side3 ?side4 A5.out).mono ?_
 (case side1 => exact Ch ad)
 (case side2 => exact (Kd.R_reads' ad.out).2.1)
 (case side3 => exact Ch ae)
 (case side4 => exact (Kd.R_reads' ae.out).2.1)
 rintro e ma ⟨rfl, hb⟩
 refine ⟨_, rfl, ?_⟩
 have n0_ := Aside0.mk (Kd.R_below (Rh ad) hb)
 have n1_ := Aside0.mk (Kd.R_below (Rh ae) hb)
 have n2_ := Aside0.mk (Kd.R_below (Rh ag) hb)
 have n3_ := Aside0.mk (Kd.R_below (Rh ah) hb)
 have n4_ := Aside0.mk (blk_below (Bh ab) hb)
 have n5_ := Aside0.mk (blk_below (Bh af) hb)
 have n6_ := Aside0.mk (below_step wB hb)
 clear ad
 clear ae
 clear ag
 clear ah
 clear ab
 clear af
 clear HB
 have ad := n0_
 have ae := n1_
 have ag := n2_
 have ah := n3_
 have ab := n4_
 have af := n5_
 have HB := n6_
 clear n0_ n1_ n2_ n3_ n4_ n5_ n6_
 (try clear hb)
 (try clear hb2)
 (try clear hk)
 (try clear hi)
 refine hK.out _ _ ⟨(blk_cell ab.out 0).trans rfl, (blk_cell ab.out 1).trans rfl, (blk_cell ab.out 2).trans rfl, (blk_cell ab.out 3).trans rfl, (blk_cell ab.out 4).trans rfl, (blk_cell ab.out 5).trans rfl, (blk_cell ab.out 6).trans rfl, (blk_cell ab.out 7).trans rfl, (blk_cell ab.out 8).trans rfl, (blk_cell ab.out 9).trans rfl, (blk_cell ab.out 10).trans rfl⟩ (fun hHeld => ?_)
 clear hK K
 refine norm_ (a' := ?_) ?_ ?_
 rotate_left
 {
 show Act.put _ (some 41) _ = _
 simp only [Act.put, List.setIfInBounds_toArray, List.set_cons_zero, List.set_cons_succ, i64_w, i32_w]
 rfl
 }
 refine one_ (i := 3) (N := some 43) #[true, true, true, true, false] rfl rfl (by kernel_rfl) (by decide) (fun K hK => ?_)
 refine goes_ Try.func23 (by kernel_rfl) rfl #[.agg #[.int .i64 a4, .int .i64 aX, .bool a5, .bool a6, .int .i64 a7, .int .i64 a8, .int .i64 aY, .int .i64 aU, .int .i64 aZ, .slice aj ar.length ak, .slice am ac.length al]] (by rfl) rfl rfl wT ?_
 with_reducible refine (spec_MayComplain.calls k a4 aX a5 a6 a7 a8 aY aU aZ _ _ ar _ _ ac eA _ ?side1 ?side2 ?side3 ?side4 A6.out).mono ?_
 (case side1 => exact Ch ad)
 (case side2 => exact (Kd.R_reads' ad.out).2.1)
 (case side3 => exact Ch ae)
 (case side4 => exact (Kd.R_reads' ae.out).2.1)
 rintro e mb ⟨rfl, hb⟩
 refine ⟨_, rfl, ?_⟩
 have n0_ := Aside0.mk (Kd.R_below (Rh ad) hb)
 have n1_ := Aside0.mk (Kd.R_below (Rh ae) hb)
 have n2_ := Aside0.mk (Kd.R_below (Rh ag) hb)
 have n3_ := Aside0.mk (Kd.R_below (Rh ah) hb)
 have n4_ := Aside0.mk (blk_below (Bh ab) hb)
 have n5_ := Aside0.mk (blk_below (Bh af) hb)
 have n6_ := Aside0.mk (below_step wB hb)
 clear ad
 clear ae
 clear ag
 clear ah
 clear ab
 clear af
 clear HB
 have ad := n0_
 have ae := n1_
 have ag := n2_
 have ah := n3_
 have ab := n4_
 have af := n5_
 have HB := n6_
 clear n0_ n1_ n2_ n3_ n4_ n5_ n6_
 (try clear hb)
 (try clear hb2)
 (try clear hk)
 (try clear hi)
 refine hK.out _ _ ⟨(blk_cell ab.out 0).trans rfl, (blk_cell ab.out 1).trans rfl, (blk_cell ab.out 2).trans rfl, (blk_cell ab.out 3).trans rfl, (blk_cell ab.out 4).trans rfl, (blk_cell ab.out 5).trans rfl, (blk_cell ab.out 6).trans rfl, (blk_cell ab.out 7).trans rfl, (blk_cell ab.out 8).trans rfl, (blk_cell ab.out 9).trans rfl, (blk_cell ab.out 10).trans rfl⟩ (fun hHeld => ?_)
 clear hK K
 refine norm_ (a' := ?_) ?_ ?_
 rotate_left
 {
 show Act.put _ (some 43) _ = _
 simp only [Act.put, List.setIfInBounds_toArray, List.set_cons_zero, List.set_cons_succ, i64_w, i32_w]
 rfl
 }
 refine pure_ (i := 4) (N := some 44) (v := ?_) (a' := ?_) #[true, true, true, true, true] rfl rfl (by kernel_rfl) (fun _ _ _ h => h) (Or.inl ⟨by rfl, ?_⟩) ?_ ?_
 rotate_left
 {
 intro w'
 go_simp
 with_reducible rfl
 }
 rotate_left
 {
 simp only [Act.put, List.setIfInBounds_toArray, List.set_cons_zero, List.set_cons_succ, i64_w, i32_w]
 rfl
 }
 refine done_ (by kernel_rfl) ?_
 obtain ⟨⟨hO, hP, hQ, hR, hS, hT, hU, hV, hW, hX, gl⟩, hY, hZ, h0, h1, h2, h3, h4, h5, h6, h7, gm⟩ := cells11 ab.out
 )
 {
 go_upto_region 15 with (first | (go_at_call 24; (with_reducible refine (impl_Complain.calls k a4 aX a5 a6 a7 a8 aY aU aZ _ _ ar _ _ ac dI dJ dK dL dj dk dl dm dn dp dq dr dt aD aE dM _ ?side1 ?side2 ?side3 ?side4 A8.out).mono ?_); (case side1 => exact Ch ad); (case side2 => exact (Kd.R_reads' ad.out).2.1); (case side3 => exact Ch ae); (case side4 => exact (Kd.R_reads' ae.out).2.1); rintro e kz ⟨lv, lw, rfl, aV, bc, hb⟩; have az := Aside0.mk (Kd.R_lower (Kd.R_new' (Kd.R_new' (Kd.R_new' (Kd.R_new' aV (Kd.R_lt (Rh ad))) (Kd.R_lt (Rh ae))) (Kd.R_lt (Rh ag))) (Kd.R_lt (Rh ah))) (below_size wB)); have aA := Aside0.mk (Kd.R_lower (Kd.R_new' (Kd.R_new' (Kd.R_new' (Kd.R_new' bc (Kd.R_lt (Rh ad))) (Kd.R_lt (Rh ae))) (Kd.R_lt (Rh ag))) (Kd.R_lt (Rh ah))) (below_size wB)); replace ad := Aside0.mk (Kd.R_mono (Kd.R_told (Kd.R_told (Kd.R_old (Rh ad) hb) (Kd.R_base aV)) (Kd.R_base bc)) (fun _ h_ => h_.1)); replace ae := Aside0.mk (Kd.R_mono (Kd.R_told (Kd.R_told (Kd.R_old (Rh ae) hb) (Kd.R_base aV)) (Kd.R_base bc)) (fun _ h_ => h_.1)); replace ag := Aside0.mk (Kd.R_mono (Kd.R_told (Kd.R_told (Kd.R_old (Rh ag) hb) (Kd.R_base aV)) (Kd.R_base bc)) (fun _ h_ => h_.1)); replace ah := Aside0.mk (Kd.R_mono (Kd.R_told (Kd.R_told (Kd.R_old (Rh ah) hb) (Kd.R_base aV)) (Kd.R_base bc)) (fun _ h_ => h_.1)); replace ab := Aside0.mk (blk_below (Bh ab) hb); replace af := Aside0.mk (blk_below (Bh af) hb); replace HB := Aside0.mk (below_step wB hb); clear hb; (try clear aV); (try clear bc)) | ((with_reducible refine gate_dst (N := 10) rfl ?_); refine boxE 10 #[.int .i64 0, .int .i64 0, .bool false, .bool false, .int .i64 0, .int .i64 0, .int .i64 0, .int .i64 0, .int .i64 0, .slice none 0 0, .slice none 0 0] 25 ?_; intro bd hg cP hbox hb; replace ad := Aside0.mk (Kd.R_below (Rh ad) hb); replace ae := Aside0.mk (Kd.R_below (Rh ae) hb); replace ag := Aside0.mk (Kd.R_below (Rh ag) hb); replace ah := Aside0.mk (Kd.R_below (Rh ah) hb); replace az := Aside0.mk (Kd.R_below (Rh az) hb); replace aA := Aside0.mk (Kd.R_below (Rh aA) hb); have ai := Aside0.mk (hbox); have gn := Aside0.mk ((by rw [hg]; exact (below_size wB) : w.heap.size ≤ bd)); replace HB := Aside0.mk (below_step wB hb); have kA := gn; have ba := Aside0.mk ((by rw [hg]; exact Nat.ne_of_lt (blk_lt (Bh ab)) : aR ≠ bd)); replace ab := Aside0.mk (blk_below (Bh ab) hb); have bS := Aside0.mk ba.out.symm; have bg := Aside0.mk ((by rw [hg]; exact Nat.ne_of_lt (blk_lt (Bh af)) : bk ≠ bd)); replace af := Aside0.mk (blk_below (Bh af) hb); have dv := Aside0.mk bg.out.symm; clear hb hbox hg; have j5 := bS.out; have j6 := ba.out; have j7 := dv.out; have j8 := bg.out; obtain ⟨⟨e9, fa, fb, fc, fd, fe, ff, fg, fh, fi, eB⟩, fj, fk, fl, fm, fn, fo, fp, fq, fr, fs, eC⟩ := cells11 ai.out; obtain ⟨au, av, f8⟩ := Kd.R_slice az.out; subst f8; obtain ⟨aw, ax, f9⟩ := Kd.R_slice aA.out; subst f9) | ((with_reducible refine gate_store (t := 25) (p := 10) rfl ?_); (try (rw [drewN_self cP]; generalize hq_ : World.drewN cP _ = cP; replace ad := Aside0.mk (Kd.R_at hq_ ad.out); replace ae := Aside0.mk (Kd.R_at hq_ ae.out); replace ag := Aside0.mk (Kd.R_at hq_ ag.out); replace ah := Aside0.mk (Kd.R_at hq_ ah.out); replace az := Aside0.mk (Kd.R_at hq_ az.out); replace aA := Aside0.mk (Kd.R_at hq_ aA.out); replace ab := Aside0.mk (blk_at hq_ ab.out); replace af := Aside0.mk (blk_at hq_ af.out); replace ai := Aside0.mk (blk_at hq_ ai.out); replace HB := Aside0.mk (below_at hq_ HB.out); clear hq_; (try (obtain ⟨⟨bs, bu, bv, bw, bz, bA, bB, bC, bD, bE, bm⟩, bF, bG, bH, bI, bJ, bK, bL, bM, bN, bO, bn⟩ := cells11 ab.out)); (try (obtain ⟨⟨bU, bV, bW, bX, bY, bZ, b0, b1, b2, b3, bP⟩, b4, b5, b6, b7, b8, b9, ca, cb, cc, cd, bQ⟩ := cells11 af.out)); (try (obtain ⟨⟨cQ, cR, cS, cT, cU, cV, cW, cX, cY, cZ, cp⟩, c1, da, db, dc, dd, de, df, dg, dh, di, cq⟩ := cells11 ai.out)))); refine storeE (put11 cP bd (.int .i64 dj) (.int .i64 dk) (.bool dl) (.bool dm) (.int .i64 dn) (.int .i64 dp) (.int .i64 dq) (.int .i64 dr) (.int .i64 dt) (.slice au aD.length av) (.slice aw aE.length ax)) ?_; intro a9 hw; have n0_ : Aside0 (Kd.R (Kd.int .u8) 5 a9 w.heap.size (fun k_ => some k_ ≠ (.slice am ac.length al : Value).ownBlock ∧ some k_ ≠ (.slice an aB.length ao : Value).ownBlock ∧ some k_ ≠ (.slice ap aC.length aq : Value).ownBlock ∧ some k_ ≠ (.slice au aD.length av : Value).ownBlock ∧ some k_ ≠ (.slice aw aE.length ax : Value).ownBlock) (.slice aj ar.length ak) ar) := ⟨(by rw [hw]; exact (by exact Kd.R_mono (Kd.R_step (Kd.R_types ad.out ai.out (by decide)) (fun _ hk _ => far11 hk.2)) (fun _ hk => ⟨hk.1.1.1.1, ⟨hk.1.1.1.2.1, ⟨hk.1.1.1.2.2, ⟨hk.1.1.2, hk.1.2⟩⟩⟩⟩)))⟩; have n1_ : Aside0 (Kd.R (Kd.int .u8) 5 a9 w.heap.size (fun k_ => some k_ ≠ (.slice aj ar.length ak : Value).ownBlock ∧ some k_ ≠ (.slice an aB.length ao : Value).ownBlock ∧ some k_ ≠ (.slice ap aC.length aq : Value).ownBlock ∧ some k_ ≠ (.slice au aD.length av : Value).ownBlock ∧ some k_ ≠ (.slice aw aE.length ax : Value).ownBlock) (.slice am ac.length al) ac) := ⟨(by rw [hw]; exact (by exact Kd.R_mono (Kd.R_step (Kd.R_types ae.out ai.out (by decide)) (fun _ hk _ => far11 hk.2)) (fun _ hk => ⟨hk.1.1.1.1, ⟨hk.1.1.1.2.1, ⟨hk.1.1.1.2.2, ⟨hk.1.1.2, hk.1.2⟩⟩⟩⟩)))⟩; have n2_ : Aside0 (Kd.R (Kd.int .u8) 5 a9 w.heap.size (fun k_ => some k_ ≠ (.slice aj ar.length ak : Value).ownBlock ∧ some k_ ≠ (.slice am ac.length al : Value).ownBlock ∧ some k_ ≠ (.slice ap aC.length aq : Value).ownBlock ∧ some k_ ≠ (.slice au aD.length av : Value).ownBlock ∧ some k_ ≠ (.slice aw aE.length ax : Value).ownBlock) (.slice an aB.length ao) aB) := ⟨(by rw [hw]; exact (by exact Kd.R_mono (Kd.R_step (Kd.R_types ag.out ai.out (by decide)) (fun _ hk _ => far11 hk.2)) (fun _ hk => ⟨hk.1.1.1.1, ⟨hk.1.1.1.2.1, ⟨hk.1.1.1.2.2, ⟨hk.1.1.2, hk.1.2⟩⟩⟩⟩)))⟩; have n3_ : Aside0 (Kd.R (Kd.int .u8) 5 a9 w.heap.size (fun k_ => some k_ ≠ (.slice aj ar.length ak : Value).ownBlock ∧ some k_ ≠ (.slice am ac.length al : Value).ownBlock ∧ some k_ ≠ (.slice an aB.length ao : Value).ownBlock ∧ some k_ ≠ (.slice au aD.length av : Value).ownBlock ∧ some k_ ≠ (.slice aw aE.length ax : Value).ownBlock) (.slice ap aC.length aq) aC) := ⟨(by rw [hw]; exact (by exact Kd.R_mono (Kd.R_step (Kd.R_types ah.out ai.out (by decide)) (fun _ hk _ => far11 hk.2)) (fun _ hk => ⟨hk.1.1.1.1, ⟨hk.1.1.1.2.1, ⟨hk.1.1.1.2.2, ⟨hk.1.1.2, hk.1.2⟩⟩⟩⟩)))⟩; have n4_ : Aside0 (Kd.R (Kd.int .u8) 5 a9 w.heap.size (fun k_ => some k_ ≠ (.slice aj ar.length ak : Value).ownBlock ∧ some k_ ≠ (.slice am ac.length al : Value).ownBlock ∧ some k_ ≠ (.slice an aB.length ao : Value).ownBlock ∧ some k_ ≠ (.slice ap aC.length aq : Value).ownBlock ∧ some k_ ≠ (.slice aw aE.length ax : Value).ownBlock) (.slice au aD.length av) aD) := ⟨(by rw [hw]; exact (by exact Kd.R_mono (Kd.R_step (Kd.R_types az.out ai.out (by decide)) (fun _ hk _ => far11 hk.2)) (fun _ hk => ⟨hk.1.1.1.1.2, ⟨hk.1.1.1.2, ⟨hk.1.1.2, ⟨hk.1.2, hk.1.1.1.1.1⟩⟩⟩⟩)))⟩; have n5_ : Aside0 (Kd.R (Kd.int .u8) 5 a9 w.heap.size (fun k_ => some k_ ≠ (.slice aj ar.length ak : Value).ownBlock ∧ some k_ ≠ (.slice am ac.length al : Value).ownBlock ∧ some k_ ≠ (.slice an aB.length ao : Value).ownBlock ∧ some k_ ≠ (.slice ap aC.length aq : Value).ownBlock ∧ some k_ ≠ (.slice au aD.length av : Value).ownBlock) (.slice aw aE.length ax) aE) := ⟨(by rw [hw]; exact (by exact Kd.R_mono (Kd.R_step (Kd.R_types aA.out ai.out (by decide)) (fun _ hk _ => far11 hk.2)) (fun _ hk => ⟨hk.1.1.1.1.2, ⟨hk.1.1.1.2, ⟨hk.1.1.2, ⟨hk.1.2, hk.1.1.1.1.1⟩⟩⟩⟩)))⟩; have n6_ : Aside0 (a9.heap[aR]? = some (.cells #[.int .i64 a4, .int .i64 aX, .bool a5, .bool a6, .int .i64 a7, .int .i64 a8, .int .i64 aY, .int .i64 aU, .int .i64 aZ, .slice aj ar.length ak, .slice am ac.length al] 25 (0, 0))) := ⟨(by rw [hw]; exact (by refine (far11 ba.out).trans ?_; exact ab.out))⟩; have n7_ : Aside0 (a9.heap[bk]? = some (.cells #[.int .i64 cg, .int .i64 ch, .bool ci, .bool cj, .int .i64 ck, .int .i64 cl, .int .i64 cm, .int .i64 cn, .int .i64 co, .slice an aB.length ao, .slice ap aC.length aq] 25 (0, 0))) := ⟨(by rw [hw]; exact (by refine (far11 bg.out).trans ?_; exact af.out))⟩; have n8_ : Aside0 (a9.heap[bd]? = some (.cells #[.int .i64 dj, .int .i64 dk, .bool dl, .bool dm, .int .i64 dn, .int .i64 dp, .int .i64 dq, .int .i64 dr, .int .i64 dt, .slice au aD.length av, .slice aw aE.length ax] 25 (0, 0))) := ⟨(by rw [hw]; exact (by apply set11; exact ai.out))⟩; have n9_ : Aside0 (Below w.heap.size w a9) := ⟨(by rw [hw]; exact wB)⟩; clear hw; clear ad; clear ae; clear ag; clear ah; clear az; clear aA; clear ab; clear af; clear ai; clear HB; have ad := n0_; have ae := n1_; have ag := n2_; have ah := n3_; have az := n4_; have aA := n5_; have ab := n6_; have af := n7_; have ai := n8_; have HB := n9_; clear n0_ n1_ n2_ n3_ n4_ n5_ n6_ n7_ n8_ n9_; obtain ⟨⟨h8, h9, ia, ib, ic, id, ie, ig, ih, ii, go⟩, ij, ik, il, im, io, ip, iq, ir, it, iu, gp⟩ := cells11 ai.out) | (go_at_call 8; (with_reducible refine (impl_EncodeIP.calls k dj dk dl dm dn dp dq dr dt _ _ aD _ _ aE bb e4 _ ?side1 ?side2 ?side3 ?side4 A11.out).mono ?_); (case side1 => exact Ch az); (case side2 => exact (Kd.R_reads' az.out).2.1); (case side3 => exact Ch aA); (case side4 => exact (Kd.R_reads' aA.out).2.1); rintro e mc ⟨ms, rfl, aV, hb⟩; have aT := Aside0.mk (Kd.R_lower (Kd.R_new' (Kd.R_new' (Kd.R_new' (Kd.R_new' (Kd.R_new' (Kd.R_new' aV (Kd.R_lt (Rh ad))) (Kd.R_lt (Rh ae))) (Kd.R_lt (Rh ag))) (Kd.R_lt (Rh ah))) (Kd.R_lt (Rh az))) (Kd.R_lt (Rh aA))) (below_size wB)); replace ad := Aside0.mk (Kd.R_elder' (Rh ad) (Kd.R_base aV) hb); replace ae := Aside0.mk (Kd.R_elder' (Rh ae) (Kd.R_base aV) hb); replace ag := Aside0.mk (Kd.R_elder' (Rh ag) (Kd.R_base aV) hb); replace ah := Aside0.mk (Kd.R_elder' (Rh ah) (Kd.R_base aV) hb); replace az := Aside0.mk (Kd.R_elder' (Rh az) (Kd.R_base aV) hb); replace aA := Aside0.mk (Kd.R_elder' (Rh aA) (Kd.R_base aV) hb); replace ab := Aside0.mk (blk_below (Bh ab) hb); replace af := Aside0.mk (blk_below (Bh af) hb); replace ai := Aside0.mk (blk_below (Bh ai) hb); replace HB := Aside0.mk (below_step wB hb); clear hb; (try clear aV); obtain ⟨a2, a3, ks⟩ := Kd.R_slice aT.out; subst ks) | (go_at_call 7; (with_reducible refine (impl_DecodeIP.calls k _ _ bb cI cJ cK cL cM cN cO bo bp aO aN e5 _ ?side1 ?side2 A12.out).mono ?_); (case side1 => exact Ch aT); (case side2 => exact (Kd.R_reads' aT.out).2.1); rintro e md ⟨mt, mu, rfl, aV, bc, hb⟩; have aM := Aside0.mk (Kd.R_lower (Kd.R_new' (Kd.R_new' (Kd.R_new' (Kd.R_new' (Kd.R_new' (Kd.R_new' (Kd.R_new' aV (Kd.R_lt (Rh ad))) (Kd.R_lt (Rh ae))) (Kd.R_lt (Rh ag))) (Kd.R_lt (Rh ah))) (Kd.R_lt (Rh az))) (Kd.R_lt (Rh aA))) (Kd.R_lt (Rh aT))) (below_size wB)); have aK := Aside0.mk (Kd.R_lower (Kd.R_new' (Kd.R_new' (Kd.R_new' (Kd.R_new' (Kd.R_new' (Kd.R_new' (Kd.R_new' bc (Kd.R_lt (Rh ad))) (Kd.R_lt (Rh ae))) (Kd.R_lt (Rh ag))) (Kd.R_lt (Rh ah))) (Kd.R_lt (Rh az))) (Kd.R_lt (Rh aA))) (Kd.R_lt (Rh aT))) (below_size wB)); replace ad := Aside0.mk (Kd.R_mono (Kd.R_told (Kd.R_told (Kd.R_old (Rh ad) hb) (Kd.R_base aV)) (Kd.R_base bc)) (fun _ h_ => h_.1)); replace ae := Aside0.mk (Kd.R_mono (Kd.R_told (Kd.R_told (Kd.R_old (Rh ae) hb) (Kd.R_base aV)) (Kd.R_base bc)) (fun _ h_ => h_.1)); replace ag := Aside0.mk (Kd.R_mono (Kd.R_told (Kd.R_told (Kd.R_old (Rh ag) hb) (Kd.R_base aV)) (Kd.R_base bc)) (fun _ h_ => h_.1)); replace ah := Aside0.mk (Kd.R_mono (Kd.R_told (Kd.R_told (Kd.R_old (Rh ah) hb) (Kd.R_base aV)) (Kd.R_base bc)) (fun _ h_ => h_.1)); replace az := Aside0.mk (Kd.R_mono (Kd.R_told (Kd.R_told (Kd.R_old (Rh az) hb) (Kd.R_base aV)) (Kd.R_base bc)) (fun _ h_ => h_.1)); replace aA := Aside0.mk (Kd.R_mono (Kd.R_told (Kd.R_told (Kd.R_old (Rh aA) hb) (Kd.R_base aV)) (Kd.R_base bc)) (fun _ h_ => h_.1)); replace aT := Aside0.mk (Kd.R_mono (Kd.R_told (Kd.R_told (Kd.R_old (Rh aT) hb) (Kd.R_base aV)) (Kd.R_base bc)) (fun _ h_ => h_.1)); replace ab := Aside0.mk (blk_below (Bh ab) hb); replace af := Aside0.mk (blk_below (Bh af) hb); replace ai := Aside0.mk (blk_below (Bh ai) hb); replace HB := Aside0.mk (below_step wB hb); clear hb; (try clear aV); (try clear bc)) | ((with_reducible refine gate_dst (N := 14) rfl ?_); refine boxE 14 #[.int .i64 0, .int .i64 0, .bool false, .bool false, .int .i64 0, .int .i64 0, .int .i64 0, .int .i64 0, .int .i64 0, .slice none 0 0, .slice none 0 0] 25 ?_; intro cf hg f0 hbox hb; replace ad := Aside0.mk (Kd.R_below (Rh ad) hb); replace ae := Aside0.mk (Kd.R_below (Rh ae) hb); replace ag := Aside0.mk (Kd.R_below (Rh ag) hb); replace ah := Aside0.mk (Kd.R_below (Rh ah) hb); replace az := Aside0.mk (Kd.R_below (Rh az) hb); replace aA := Aside0.mk (Kd.R_below (Rh aA) hb); replace aT := Aside0.mk (Kd.R_below (Rh aT) hb); replace aM := Aside0.mk (Kd.R_below (Rh aM) hb); replace aK := Aside0.mk (Kd.R_below (Rh aK) hb); have ay := Aside0.mk (hbox); have kC := Aside0.mk ((by rw [hg]; exact (below_size wB) : w.heap.size ≤ cf)); replace HB := Aside0.mk (below_step wB hb); have me := kC; have ct := Aside0.mk ((by rw [hg]; exact Nat.ne_of_lt (blk_lt (Bh ab)) : aR ≠ cf)); replace ab := Aside0.mk (blk_below (Bh ab) hb); have d2 := Aside0.mk ct.out.symm; have dw := Aside0.mk ((by rw [hg]; exact Nat.ne_of_lt (blk_lt (Bh af)) : bk ≠ cf)); replace af := Aside0.mk (blk_below (Bh af) hb); have ft := Aside0.mk dw.out.symm; have dx := Aside0.mk ((by rw [hg]; exact Nat.ne_of_lt (blk_lt (Bh ai)) : bd ≠ cf)); replace ai := Aside0.mk (blk_below (Bh ai) hb); have fu := Aside0.mk dx.out.symm; clear hb hbox hg; have lA := d2.out; have lC := ct.out; have lD := ft.out; have lE := dw.out; have lF := fu.out; have lG := dx.out; obtain ⟨⟨iv, iw, ix, iy, iz, iA, iB, iC, iD, iE, gq⟩, iF, iG, iH, iI, iJ, iK, iL, iM, iN, iO, gr⟩ := cells11 ay.out; obtain ⟨aG, aH, kt⟩ := Kd.R_slice aM.out; subst kt; obtain ⟨aI, aJ, ku⟩ := Kd.R_slice aK.out; subst ku) | ((with_reducible refine gate_store (t := 25) (p := 14) rfl ?_); (try (rw [drewN_self f0]; generalize hq_ : World.drewN f0 _ = f0; replace ad := Aside0.mk (Kd.R_at hq_ ad.out); replace ae := Aside0.mk (Kd.R_at hq_ ae.out); replace ag := Aside0.mk (Kd.R_at hq_ ag.out); replace ah := Aside0.mk (Kd.R_at hq_ ah.out); replace az := Aside0.mk (Kd.R_at hq_ az.out); replace aA := Aside0.mk (Kd.R_at hq_ aA.out); replace aT := Aside0.mk (Kd.R_at hq_ aT.out); replace aM := Aside0.mk (Kd.R_at hq_ aM.out); replace aK := Aside0.mk (Kd.R_at hq_ aK.out); replace ab := Aside0.mk (blk_at hq_ ab.out); replace af := Aside0.mk (blk_at hq_ af.out); replace ai := Aside0.mk (blk_at hq_ ai.out); replace ay := Aside0.mk (blk_at hq_ ay.out); replace HB := Aside0.mk (below_at hq_ HB.out); clear hq_; (try (obtain ⟨⟨bs, bu, bv, bw, bz, bA, bB, bC, bD, bE, bm⟩, bF, bG, bH, bI, bJ, bK, bL, bM, bN, bO, bn⟩ := cells11 ab.out)); (try (obtain ⟨⟨bU, bV, bW, bX, bY, bZ, b0, b1, b2, b3, bP⟩, b4, b5, b6, b7, b8, b9, ca, cb, cc, cd, bQ⟩ := cells11 af.out)); (try (obtain ⟨⟨cQ, cR, cS, cT, cU, cV, cW, cX, cY, cZ, cp⟩, c1, da, db, dc, dd, de, df, dg, dh, di, cq⟩ := cells11 ai.out)); (try (obtain ⟨⟨eD, eE, eF, eG, eH, eI, eJ, eK, eL, eM, ex⟩, eN, eO, eP, eQ, eT, eU, eV, eW, eX, eY, ey⟩ := cells11 ay.out)))); refine storeE (put11 f0 cf (.int .i64 cI) (.int .i64 cJ) (.bool cK) (.bool cL) (.int .i64 cM) (.int .i64 cN) (.int .i64 cO) (.int .i64 bo) (.int .i64 bp) (.slice aG aO.length aH) (.slice aI aN.length aJ)) ?_; intro bq hw; have n0_ : Aside0 (Kd.R (Kd.int .u8) 5 bq w.heap.size (fun k_ => some k_ ≠ (.slice am ac.length al : Value).ownBlock ∧ some k_ ≠ (.slice an aB.length ao : Value).ownBlock ∧ some k_ ≠ (.slice ap aC.length aq : Value).ownBlock ∧ some k_ ≠ (.slice au aD.length av : Value).ownBlock ∧ some k_ ≠ (.slice aw aE.length ax : Value).ownBlock ∧ some k_ ≠ (.slice a2 bb.length a3 : Value).ownBlock ∧ some k_ ≠ (.slice aG aO.length aH : Value).ownBlock ∧ some k_ ≠ (.slice aI aN.length aJ : Value).ownBlock) (.slice aj ar.length ak) ar) := ⟨(by rw [hw]; exact (by exact Kd.R_mono (Kd.R_step (Kd.R_types ad.out ay.out (by decide)) (fun _ hk _ => far11 hk.2)) (fun _ hk => ⟨hk.1.1.1.1.1, ⟨hk.1.1.1.1.2.1, ⟨hk.1.1.1.1.2.2.1, ⟨hk.1.1.1.1.2.2.2.1, ⟨hk.1.1.1.1.2.2.2.2, ⟨hk.1.1.1.2, ⟨hk.1.1.2, hk.1.2⟩⟩⟩⟩⟩⟩⟩)))⟩; have n1_ : Aside0 (Kd.R (Kd.int .u8) 5 bq w.heap.size (fun k_ => some k_ ≠ (.slice aj ar.length ak : Value).ownBlock ∧ some k_ ≠ (.slice an aB.length ao : Value).ownBlock ∧ some k_ ≠ (.slice ap aC.length aq : Value).ownBlock ∧ some k_ ≠ (.slice au aD.length av : Value).ownBlock ∧ some k_ ≠ (.slice aw aE.length ax : Value).ownBlock ∧ some k_ ≠ (.slice a2 bb.length a3 : Value).ownBlock ∧ some k_ ≠ (.slice aG aO.length aH : Value).ownBlock ∧ some k_ ≠ (.slice aI aN.length aJ : Value).ownBlock) (.slice am ac.length al) ac) := ⟨(by rw [hw]; exact (by exact Kd.R_mono (Kd.R_step (Kd.R_types ae.out ay.out (by decide)) (fun _ hk _ => far11 hk.2)) (fun _ hk => ⟨hk.1.1.1.1.1, ⟨hk.1.1.1.1.2.1, ⟨hk.1.1.1.1.2.2.1, ⟨hk.1.1.1.1.2.2.2.1, ⟨hk.1.1.1.1.2.2.2.2, ⟨hk.1.1.1.2, ⟨hk.1.1.2, hk.1.2⟩⟩⟩⟩⟩⟩⟩)))⟩; have n2_ : Aside0 (Kd.R (Kd.int .u8) 5 bq w.heap.size (fun k_ => some k_ ≠ (.slice aj ar.length ak : Value).ownBlock ∧ some k_ ≠ (.slice am ac.length al : Value).ownBlock ∧ some k_ ≠ (.slice ap aC.length aq : Value).ownBlock ∧ some k_ ≠ (.slice au aD.length av : Value).ownBlock ∧ some k_ ≠ (.slice aw aE.length ax : Value).ownBlock ∧ some k_ ≠ (.slice a2 bb.length a3 : Value).ownBlock ∧ some k_ ≠ (.slice aG aO.length aH : Value).ownBlock ∧ some k_ ≠ (.slice aI aN.length aJ : Value).ownBlock) (.slice an aB.length ao) aB) := ⟨(by rw [hw]; exact (by exact Kd.R_mono (Kd.R_step (Kd.R_types ag.out ay.out (by decide)) (fun _ hk _ => far11 hk.2)) (fun _ hk => ⟨hk.1.1.1.1.1, ⟨hk.1.1.1.1.2.1, ⟨hk.1.1.1.1.2.2.1, ⟨hk.1.1.1.1.2.2.2.1, ⟨hk.1.1.1.1.2.2.2.2, ⟨hk.1.1.1.2, ⟨hk.1.1.2, hk.1.2⟩⟩⟩⟩⟩⟩⟩)))⟩; have n3_ : Aside0 (Kd.R (Kd.int .u8) 5 bq w.heap.size (fun k_ => some k_ ≠ (.slice aj ar.length ak : Value).ownBlock ∧ some k_ ≠ (.slice am ac.length al : Value).ownBlock ∧ some k_ ≠ (.slice an aB.length ao : Value).ownBlock ∧ some k_ ≠ (.slice au aD.length av : Value).ownBlock ∧ some k_ ≠ (.slice aw aE.length ax : Value).ownBlock ∧ some k_ ≠ (.slice a2 bb.length a3 : Value).ownBlock ∧ some k_ ≠ (.slice aG aO.length aH : Value).ownBlock ∧ some k_ ≠ (.slice aI aN.length aJ : Value).ownBlock) (.slice ap aC.length aq) aC) := ⟨(by rw [hw]; exact (by exact Kd.R_mono (Kd.R_step (Kd.R_types ah.out ay.out (by decide)) (fun _ hk _ => far11 hk.2)) (fun _ hk => ⟨hk.1.1.1.1.1, ⟨hk.1.1.1.1.2.1, ⟨hk.1.1.1.1.2.2.1, ⟨hk.1.1.1.1.2.2.2.1, ⟨hk.1.1.1.1.2.2.2.2, ⟨hk.1.1.1.2, ⟨hk.1.1.2, hk.1.2⟩⟩⟩⟩⟩⟩⟩)))⟩; have n4_ : Aside0 (Kd.R (Kd.int .u8) 5 bq w.heap.size (fun k_ => some k_ ≠ (.slice aj ar.length ak : Value).ownBlock ∧ some k_ ≠ (.slice am ac.length al : Value).ownBlock ∧ some k_ ≠ (.slice an aB.length ao : Value).ownBlock ∧ some k_ ≠ (.slice ap aC.length aq : Value).ownBlock ∧ some k_ ≠ (.slice aw aE.length ax : Value).ownBlock ∧ some k_ ≠ (.slice a2 bb.length a3 : Value).ownBlock ∧ some k_ ≠ (.slice aG aO.length aH : Value).ownBlock ∧ some k_ ≠ (.slice aI aN.length aJ : Value).ownBlock) (.slice au aD.length av) aD) := ⟨(by rw [hw]; exact (by exact Kd.R_mono (Kd.R_step (Kd.R_types az.out ay.out (by decide)) (fun _ hk _ => far11 hk.2)) (fun _ hk => ⟨hk.1.1.1.1.1, ⟨hk.1.1.1.1.2.1, ⟨hk.1.1.1.1.2.2.1, ⟨hk.1.1.1.1.2.2.2.1, ⟨hk.1.1.1.1.2.2.2.2, ⟨hk.1.1.1.2, ⟨hk.1.1.2, hk.1.2⟩⟩⟩⟩⟩⟩⟩)))⟩; have n5_ : Aside0 (Kd.R (Kd.int .u8) 5 bq w.heap.size (fun k_ => some k_ ≠ (.slice aj ar.length ak : Value).ownBlock ∧ some k_ ≠ (.slice am ac.length al : Value).ownBlock ∧ some k_ ≠ (.slice an aB.length ao : Value).ownBlock ∧ some k_ ≠ (.slice ap aC.length aq : Value).ownBlock ∧ some k_ ≠ (.slice au aD.length av : Value).ownBlock ∧ some k_ ≠ (.slice a2 bb.length a3 : Value).ownBlock ∧ some k_ ≠ (.slice aG aO.length aH : Value).ownBlock ∧ some k_ ≠ (.slice aI aN.length aJ : Value).ownBlock) (.slice aw aE.length ax) aE) := ⟨(by rw [hw]; exact (by exact Kd.R_mono (Kd.R_step (Kd.R_types aA.out ay.out (by decide)) (fun _ hk _ => far11 hk.2)) (fun _ hk => ⟨hk.1.1.1.1.1, ⟨hk.1.1.1.1.2.1, ⟨hk.1.1.1.1.2.2.1, ⟨hk.1.1.1.1.2.2.2.1, ⟨hk.1.1.1.1.2.2.2.2, ⟨hk.1.1.1.2, ⟨hk.1.1.2, hk.1.2⟩⟩⟩⟩⟩⟩⟩)))⟩; have n6_ : Aside0 (Kd.R (Kd.int .u8) 5 bq w.heap.size (fun k_ => some k_ ≠ (.slice aj ar.length ak : Value).ownBlock ∧ some k_ ≠ (.slice am ac.length al : Value).ownBlock ∧ some k_ ≠ (.slice an aB.length ao : Value).ownBlock ∧ some k_ ≠ (.slice ap aC.length aq : Value).ownBlock ∧ some k_ ≠ (.slice au aD.length av : Value).ownBlock ∧ some k_ ≠ (.slice aw aE.length ax : Value).ownBlock ∧ some k_ ≠ (.slice aG aO.length aH : Value).ownBlock ∧ some k_ ≠ (.slice aI aN.length aJ : Value).ownBlock) (.slice a2 bb.length a3) bb) := ⟨(by rw [hw]; exact (by exact Kd.R_mono (Kd.R_step (Kd.R_types aT.out ay.out (by decide)) (fun _ hk _ => far11 hk.2)) (fun _ hk => ⟨hk.1.1.1.1.1.1.1.1.2, ⟨hk.1.1.1.1.1.1.1.2, ⟨hk.1.1.1.1.1.1.2, ⟨hk.1.1.1.1.1.2, ⟨hk.1.1.1.1.2, ⟨hk.1.1.1.2, ⟨hk.1.1.2, hk.1.2⟩⟩⟩⟩⟩⟩⟩)))⟩; have n7_ : Aside0 (Kd.R (Kd.int .u8) 5 bq w.heap.size (fun k_ => some k_ ≠ (.slice aj ar.length ak : Value).ownBlock ∧ some k_ ≠ (.slice am ac.length al : Value).ownBlock ∧ some k_ ≠ (.slice an aB.length ao : Value).ownBlock ∧ some k_ ≠ (.slice ap aC.length aq : Value).ownBlock ∧ some k_ ≠ (.slice au aD.length av : Value).ownBlock ∧ some k_ ≠ (.slice aw aE.length ax : Value).ownBlock ∧ some k_ ≠ (.slice a2 bb.length a3 : Value).ownBlock ∧ some k_ ≠ (.slice aI aN.length aJ : Value).ownBlock) (.slice aG aO.length aH) aO) := ⟨(by rw [hw]; exact (by exact Kd.R_mono (Kd.R_step (Kd.R_types aM.out ay.out (by decide)) (fun _ hk _ => far11 hk.2)) (fun _ hk => ⟨hk.1.1.1.1.1.1.1.2, ⟨hk.1.1.1.1.1.1.2, ⟨hk.1.1.1.1.1.2, ⟨hk.1.1.1.1.2, ⟨hk.1.1.1.2, ⟨hk.1.1.2, ⟨hk.1.2, hk.1.1.1.1.1.1.1.1⟩⟩⟩⟩⟩⟩⟩)))⟩; have n8_ : Aside0 (Kd.R (Kd.int .u8) 5 bq w.heap.size (fun k_ => some k_ ≠ (.slice aj ar.length ak : Value).ownBlock ∧ some k_ ≠ (.slice am ac.length al : Value).ownBlock ∧ some k_ ≠ (.slice an aB.length ao : Value).ownBlock ∧ some k_ ≠ (.slice ap aC.length aq : Value).ownBlock ∧ some k_ ≠ (.slice au aD.length av : Value).ownBlock ∧ some k_ ≠ (.slice aw aE.length ax : Value).ownBlock ∧ some k_ ≠ (.slice a2 bb.length a3 : Value).ownBlock ∧ some k_ ≠ (.slice aG aO.length aH : Value).ownBlock) (.slice aI aN.length aJ) aN) := ⟨(by rw [hw]; exact (by exact Kd.R_mono (Kd.R_step (Kd.R_types aK.out ay.out (by decide)) (fun _ hk _ => far11 hk.2)) (fun _ hk => ⟨hk.1.1.1.1.1.1.1.2, ⟨hk.1.1.1.1.1.1.2, ⟨hk.1.1.1.1.1.2, ⟨hk.1.1.1.1.2, ⟨hk.1.1.1.2, ⟨hk.1.1.2, ⟨hk.1.2, hk.1.1.1.1.1.1.1.1⟩⟩⟩⟩⟩⟩⟩)))⟩; have n9_ : Aside0 (bq.heap[aR]? = some (.cells #[.int .i64 a4, .int .i64 aX, .bool a5, .bool a6, .int .i64 a7, .int .i64 a8, .int .i64 aY, .int .i64 aU, .int .i64 aZ, .slice aj ar.length ak, .slice am ac.length al] 25 (0, 0))) := ⟨(by rw [hw]; exact (by refine (far11 ct.out).trans ?_; exact ab.out))⟩; have n10_ : Aside0 (bq.heap[bk]? = some (.cells #[.int .i64 cg, .int .i64 ch, .bool ci, .bool cj, .int .i64 ck, .int .i64 cl, .int .i64 cm, .int .i64 cn, .int .i64 co, .slice an aB.length ao, .slice ap aC.length aq] 25 (0, 0))) := ⟨(by rw [hw]; exact (by refine (far11 dw.out).trans ?_; exact af.out))⟩; have n11_ : Aside0 (bq.heap[bd]? = some (.cells #[.int .i64 dj, .int .i64 dk, .bool dl, .bool dm, .int .i64 dn, .int .i64 dp, .int .i64 dq, .int .i64 dr, .int .i64 dt, .slice au aD.length av, .slice aw aE.length ax] 25 (0, 0))) := ⟨(by rw [hw]; exact (by refine (far11 dx.out).trans ?_; exact ai.out))⟩; have n12_ : Aside0 (bq.heap[cf]? = some (.cells #[.int .i64 cI, .int .i64 cJ, .bool cK, .bool cL, .int .i64 cM, .int .i64 cN, .int .i64 cO, .int .i64 bo, .int .i64 bp, .slice aG aO.length aH, .slice aI aN.length aJ] 25 (0, 0))) := ⟨(by rw [hw]; exact (by apply set11; exact ay.out))⟩; have n13_ : Aside0 (Below w.heap.size w bq) := ⟨(by rw [hw]; exact wB)⟩; clear hw; clear ad; clear ae; clear ag; clear ah; clear az; clear aA; clear aT; clear aM; clear aK; clear ab; clear af; clear ai; clear ay; clear HB; have ad := n0_; have ae := n1_; have ag := n2_; have ah := n3_; have az := n4_; have aA := n5_; have aT := n6_; have aM := n7_; have aK := n8_; have ab := n9_; have af := n10_; have ai := n11_; have ay := n12_; have HB := n13_; clear n0_ n1_ n2_ n3_ n4_ n5_ n6_ n7_ n8_ n9_ n10_ n11_ n12_ n13_; obtain ⟨⟨iP, iQ, iR, iS, iT, iU, iV, iW, iX, iY, gs⟩, iZ, i0, i1, i2, i3, i4, i5, i6, i7, i8, gt⟩ := cells11 ay.out) | (go_at_call 25; (with_reducible refine (impl_DecodeIcmp.calls k _ _ aN bh bi bj aS e6 _ ?side1 ?side2 A13.out).mono ?_); (case side1 => exact Ch aK); (case side2 => exact (Kd.R_reads' aK.out).2.1); rintro e mf ⟨mv, rfl, aV, hb⟩; have a1 := Aside0.mk (Kd.R_lower (Kd.R_new' (Kd.R_new' (Kd.R_new' (Kd.R_new' (Kd.R_new' (Kd.R_new' (Kd.R_new' (Kd.R_new' (Kd.R_new' aV (Kd.R_lt (Rh ad))) (Kd.R_lt (Rh ae))) (Kd.R_lt (Rh ag))) (Kd.R_lt (Rh ah))) (Kd.R_lt (Rh az))) (Kd.R_lt (Rh aA))) (Kd.R_lt (Rh aT))) (Kd.R_lt (Rh aM))) (Kd.R_lt (Rh aK))) (below_size wB)); replace ad := Aside0.mk (Kd.R_elder' (Rh ad) (Kd.R_base aV) hb); replace ae := Aside0.mk (Kd.R_elder' (Rh ae) (Kd.R_base aV) hb); replace ag := Aside0.mk (Kd.R_elder' (Rh ag) (Kd.R_base aV) hb); replace ah := Aside0.mk (Kd.R_elder' (Rh ah) (Kd.R_base aV) hb); replace az := Aside0.mk (Kd.R_elder' (Rh az) (Kd.R_base aV) hb); replace aA := Aside0.mk (Kd.R_elder' (Rh aA) (Kd.R_base aV) hb); replace aT := Aside0.mk (Kd.R_elder' (Rh aT) (Kd.R_base aV) hb); replace aM := Aside0.mk (Kd.R_elder' (Rh aM) (Kd.R_base aV) hb); replace aK := Aside0.mk (Kd.R_elder' (Rh aK) (Kd.R_base aV) hb); replace ab := Aside0.mk (blk_below (Bh ab) hb); replace af := Aside0.mk (blk_below (Bh af) hb); replace ai := Aside0.mk (blk_below (Bh ai) hb); replace ay := Aside0.mk (blk_below (Bh ay) hb); replace HB := Aside0.mk (below_step wB hb); clear hb; (try clear aV)) | ((with_reducible refine gate_dst (N := 16) rfl ?_); refine boxE 16 #[.int .i64 0, .int .i64 0, .int .i64 0, .slice none 0 0] 52 ?_; intro cr hg f1 hbox hb; replace ad := Aside0.mk (Kd.R_below (Rh ad) hb); replace ae := Aside0.mk (Kd.R_below (Rh ae) hb); replace ag := Aside0.mk (Kd.R_below (Rh ag) hb); replace ah := Aside0.mk (Kd.R_below (Rh ah) hb); replace az := Aside0.mk (Kd.R_below (Rh az) hb); replace aA := Aside0.mk (Kd.R_below (Rh aA) hb); replace aT := Aside0.mk (Kd.R_below (Rh aT) hb); replace aM := Aside0.mk (Kd.R_below (Rh aM) hb); replace aK := Aside0.mk (Kd.R_below (Rh aK) hb); replace a1 := Aside0.mk (Kd.R_below (Rh a1) hb); have aF := Aside0.mk (hbox); have kD := Aside0.mk ((by rw [hg]; exact (below_size wB) : w.heap.size ≤ cr)); replace HB := Aside0.mk (below_step wB hb); have mg := kD; have bT := Aside0.mk ((by rw [hg]; exact Nat.ne_of_lt (blk_lt (Bh ab)) : aR ≠ cr)); replace ab := Aside0.mk (blk_below (Bh ab) hb); have dy := Aside0.mk bT.out.symm; have cu := Aside0.mk ((by rw [hg]; exact Nat.ne_of_lt (blk_lt (Bh af)) : bk ≠ cr)); replace af := Aside0.mk (blk_below (Bh af) hb); have d3 := Aside0.mk cu.out.symm; have cv := Aside0.mk ((by rw [hg]; exact Nat.ne_of_lt (blk_lt (Bh ai)) : bd ≠ cr)); replace ai := Aside0.mk (blk_below (Bh ai) hb); have d4 := Aside0.mk cv.out.symm; have cw := Aside0.mk ((by rw [hg]; exact Nat.ne_of_lt (blk_lt (Bh ay)) : cf ≠ cr)); replace ay := Aside0.mk (blk_below (Bh ay) hb); have d5 := Aside0.mk cw.out.symm; clear hb hbox hg; have lH := dy.out; have lI := bT.out; have lJ := d3.out; have lK := cu.out; have lL := d4.out; have lM := cv.out; have lN := d5.out; have lO := cw.out; obtain ⟨⟨i9, ja, jb, jc⟩, jd, je, jf, jg⟩ := cells4 aF.out; obtain ⟨aP, aQ, kv⟩ := Kd.R_slice a1.out; subst kv) | ((with_reducible refine gate_store (t := 52) (p := 16) rfl ?_); (try (rw [drewN_self f1]; generalize hq_ : World.drewN f1 _ = f1; replace ad := Aside0.mk (Kd.R_at hq_ ad.out); replace ae := Aside0.mk (Kd.R_at hq_ ae.out); replace ag := Aside0.mk (Kd.R_at hq_ ag.out); replace ah := Aside0.mk (Kd.R_at hq_ ah.out); replace az := Aside0.mk (Kd.R_at hq_ az.out); replace aA := Aside0.mk (Kd.R_at hq_ aA.out); replace aT := Aside0.mk (Kd.R_at hq_ aT.out); replace aM := Aside0.mk (Kd.R_at hq_ aM.out); replace aK := Aside0.mk (Kd.R_at hq_ aK.out); replace a1 := Aside0.mk (Kd.R_at hq_ a1.out); replace ab := Aside0.mk (blk_at hq_ ab.out); replace af := Aside0.mk (blk_at hq_ af.out); replace ai := Aside0.mk (blk_at hq_ ai.out); replace ay := Aside0.mk (blk_at hq_ ay.out); replace aF := Aside0.mk (blk_at hq_ aF.out); replace HB := Aside0.mk (below_at hq_ HB.out); clear hq_; (try (obtain ⟨⟨bs, bu, bv, bw, bz, bA, bB, bC, bD, bE, bm⟩, bF, bG, bH, bI, bJ, bK, bL, bM, bN, bO, bn⟩ := cells11 ab.out)); (try (obtain ⟨⟨bU, bV, bW, bX, bY, bZ, b0, b1, b2, b3, bP⟩, b4, b5, b6, b7, b8, b9, ca, cb, cc, cd, bQ⟩ := cells11 af.out)); (try (obtain ⟨⟨cQ, cR, cS, cT, cU, cV, cW, cX, cY, cZ, cp⟩, c1, da, db, dc, dd, de, df, dg, dh, di, cq⟩ := cells11 ai.out)); (try (obtain ⟨⟨eD, eE, eF, eG, eH, eI, eJ, eK, eL, eM, ex⟩, eN, eO, eP, eQ, eT, eU, eV, eW, eX, eY, ey⟩ := cells11 ay.out)); (try (obtain ⟨⟨gu, gv, gw, gx⟩, gy, gz, gA, gB⟩ := cells4 aF.out)))); refine storeE (put4 f1 cr (.int .i64 bh) (.int .i64 bi) (.int .i64 bj) (.slice aP aS.length aQ)) ?_; intro bf hw; have n0_ : Aside0 (Kd.R (Kd.int .u8) 5 bf w.heap.size (fun k_ => some k_ ≠ (.slice am ac.length al : Value).ownBlock ∧ some k_ ≠ (.slice an aB.length ao : Value).ownBlock ∧ some k_ ≠ (.slice ap aC.length aq : Value).ownBlock ∧ some k_ ≠ (.slice au aD.length av : Value).ownBlock ∧ some k_ ≠ (.slice aw aE.length ax : Value).ownBlock ∧ some k_ ≠ (.slice a2 bb.length a3 : Value).ownBlock ∧ some k_ ≠ (.slice aG aO.length aH : Value).ownBlock ∧ some k_ ≠ (.slice aI aN.length aJ : Value).ownBlock ∧ some k_ ≠ (.slice aP aS.length aQ : Value).ownBlock) (.slice aj ar.length ak) ar) := ⟨(by rw [hw]; exact (by exact Kd.R_mono (Kd.R_step (Kd.R_types ad.out aF.out (by decide)) (fun _ hk _ => far4 hk.2)) (fun _ hk => ⟨hk.1.1.1, ⟨hk.1.1.2.1, ⟨hk.1.1.2.2.1, ⟨hk.1.1.2.2.2.1, ⟨hk.1.1.2.2.2.2.1, ⟨hk.1.1.2.2.2.2.2.1, ⟨hk.1.1.2.2.2.2.2.2.1, ⟨hk.1.1.2.2.2.2.2.2.2, hk.1.2⟩⟩⟩⟩⟩⟩⟩⟩)))⟩; have n1_ : Aside0 (Kd.R (Kd.int .u8) 5 bf w.heap.size (fun k_ => some k_ ≠ (.slice aj ar.length ak : Value).ownBlock ∧ some k_ ≠ (.slice an aB.length ao : Value).ownBlock ∧ some k_ ≠ (.slice ap aC.length aq : Value).ownBlock ∧ some k_ ≠ (.slice au aD.length av : Value).ownBlock ∧ some k_ ≠ (.slice aw aE.length ax : Value).ownBlock ∧ some k_ ≠ (.slice a2 bb.length a3 : Value).ownBlock ∧ some k_ ≠ (.slice aG aO.length aH : Value).ownBlock ∧ some k_ ≠ (.slice aI aN.length aJ : Value).ownBlock ∧ some k_ ≠ (.slice aP aS.length aQ : Value).ownBlock) (.slice am ac.length al) ac) := ⟨(by rw [hw]; exact (by exact Kd.R_mono (Kd.R_step (Kd.R_types ae.out aF.out (by decide)) (fun _ hk _ => far4 hk.2)) (fun _ hk => ⟨hk.1.1.1, ⟨hk.1.1.2.1, ⟨hk.1.1.2.2.1, ⟨hk.1.1.2.2.2.1, ⟨hk.1.1.2.2.2.2.1, ⟨hk.1.1.2.2.2.2.2.1, ⟨hk.1.1.2.2.2.2.2.2.1, ⟨hk.1.1.2.2.2.2.2.2.2, hk.1.2⟩⟩⟩⟩⟩⟩⟩⟩)))⟩; have n2_ : Aside0 (Kd.R (Kd.int .u8) 5 bf w.heap.size (fun k_ => some k_ ≠ (.slice aj ar.length ak : Value).ownBlock ∧ some k_ ≠ (.slice am ac.length al : Value).ownBlock ∧ some k_ ≠ (.slice ap aC.length aq : Value).ownBlock ∧ some k_ ≠ (.slice au aD.length av : Value).ownBlock ∧ some k_ ≠ (.slice aw aE.length ax : Value).ownBlock ∧ some k_ ≠ (.slice a2 bb.length a3 : Value).ownBlock ∧ some k_ ≠ (.slice aG aO.length aH : Value).ownBlock ∧ some k_ ≠ (.slice aI aN.length aJ : Value).ownBlock ∧ some k_ ≠ (.slice aP aS.length aQ : Value).ownBlock) (.slice an aB.length ao) aB) := ⟨(by rw [hw]; exact (by exact Kd.R_mono (Kd.R_step (Kd.R_types ag.out aF.out (by decide)) (fun _ hk _ => far4 hk.2)) (fun _ hk => ⟨hk.1.1.1, ⟨hk.1.1.2.1, ⟨hk.1.1.2.2.1, ⟨hk.1.1.2.2.2.1, ⟨hk.1.1.2.2.2.2.1, ⟨hk.1.1.2.2.2.2.2.1, ⟨hk.1.1.2.2.2.2.2.2.1, ⟨hk.1.1.2.2.2.2.2.2.2, hk.1.2⟩⟩⟩⟩⟩⟩⟩⟩)))⟩; have n3_ : Aside0 (Kd.R (Kd.int .u8) 5 bf w.heap.size (fun k_ => some k_ ≠ (.slice aj ar.length ak : Value).ownBlock ∧ some k_ ≠ (.slice am ac.length al : Value).ownBlock ∧ some k_ ≠ (.slice an aB.length ao : Value).ownBlock ∧ some k_ ≠ (.slice au aD.length av : Value).ownBlock ∧ some k_ ≠ (.slice aw aE.length ax : Value).ownBlock ∧ some k_ ≠ (.slice a2 bb.length a3 : Value).ownBlock ∧ some k_ ≠ (.slice aG aO.length aH : Value).ownBlock ∧ some k_ ≠ (.slice aI aN.length aJ : Value).ownBlock ∧ some k_ ≠ (.slice aP aS.length aQ : Value).ownBlock) (.slice ap aC.length aq) aC) := ⟨(by rw [hw]; exact (by exact Kd.R_mono (Kd.R_step (Kd.R_types ah.out aF.out (by decide)) (fun _ hk _ => far4 hk.2)) (fun _ hk => ⟨hk.1.1.1, ⟨hk.1.1.2.1, ⟨hk.1.1.2.2.1, ⟨hk.1.1.2.2.2.1, ⟨hk.1.1.2.2.2.2.1, ⟨hk.1.1.2.2.2.2.2.1, ⟨hk.1.1.2.2.2.2.2.2.1, ⟨hk.1.1.2.2.2.2.2.2.2, hk.1.2⟩⟩⟩⟩⟩⟩⟩⟩)))⟩; have n4_ : Aside0 (Kd.R (Kd.int .u8) 5 bf w.heap.size (fun k_ => some k_ ≠ (.slice aj ar.length ak : Value).ownBlock ∧ some k_ ≠ (.slice am ac.length al : Value).ownBlock ∧ some k_ ≠ (.slice an aB.length ao : Value).ownBlock ∧ some k_ ≠ (.slice ap aC.length aq : Value).ownBlock ∧ some k_ ≠ (.slice aw aE.length ax : Value).ownBlock ∧ some k_ ≠ (.slice a2 bb.length a3 : Value).ownBlock ∧ some k_ ≠ (.slice aG aO.length aH : Value).ownBlock ∧ some k_ ≠ (.slice aI aN.length aJ : Value).ownBlock ∧ some k_ ≠ (.slice aP aS.length aQ : Value).ownBlock) (.slice au aD.length av) aD) := ⟨(by rw [hw]; exact (by exact Kd.R_mono (Kd.R_step (Kd.R_types az.out aF.out (by decide)) (fun _ hk _ => far4 hk.2)) (fun _ hk => ⟨hk.1.1.1, ⟨hk.1.1.2.1, ⟨hk.1.1.2.2.1, ⟨hk.1.1.2.2.2.1, ⟨hk.1.1.2.2.2.2.1, ⟨hk.1.1.2.2.2.2.2.1, ⟨hk.1.1.2.2.2.2.2.2.1, ⟨hk.1.1.2.2.2.2.2.2.2, hk.1.2⟩⟩⟩⟩⟩⟩⟩⟩)))⟩; have n5_ : Aside0 (Kd.R (Kd.int .u8) 5 bf w.heap.size (fun k_ => some k_ ≠ (.slice aj ar.length ak : Value).ownBlock ∧ some k_ ≠ (.slice am ac.length al : Value).ownBlock ∧ some k_ ≠ (.slice an aB.length ao : Value).ownBlock ∧ some k_ ≠ (.slice ap aC.length aq : Value).ownBlock ∧ some k_ ≠ (.slice au aD.length av : Value).ownBlock ∧ some k_ ≠ (.slice a2 bb.length a3 : Value).ownBlock ∧ some k_ ≠ (.slice aG aO.length aH : Value).ownBlock ∧ some k_ ≠ (.slice aI aN.length aJ : Value).ownBlock ∧ some k_ ≠ (.slice aP aS.length aQ : Value).ownBlock) (.slice aw aE.length ax) aE) := ⟨(by rw [hw]; exact (by exact Kd.R_mono (Kd.R_step (Kd.R_types aA.out aF.out (by decide)) (fun _ hk _ => far4 hk.2)) (fun _ hk => ⟨hk.1.1.1, ⟨hk.1.1.2.1, ⟨hk.1.1.2.2.1, ⟨hk.1.1.2.2.2.1, ⟨hk.1.1.2.2.2.2.1, ⟨hk.1.1.2.2.2.2.2.1, ⟨hk.1.1.2.2.2.2.2.2.1, ⟨hk.1.1.2.2.2.2.2.2.2, hk.1.2⟩⟩⟩⟩⟩⟩⟩⟩)))⟩; have n6_ : Aside0 (Kd.R (Kd.int .u8) 5 bf w.heap.size (fun k_ => some k_ ≠ (.slice aj ar.length ak : Value).ownBlock ∧ some k_ ≠ (.slice am ac.length al : Value).ownBlock ∧ some k_ ≠ (.slice an aB.length ao : Value).ownBlock ∧ some k_ ≠ (.slice ap aC.length aq : Value).ownBlock ∧ some k_ ≠ (.slice au aD.length av : Value).ownBlock ∧ some k_ ≠ (.slice aw aE.length ax : Value).ownBlock ∧ some k_ ≠ (.slice aG aO.length aH : Value).ownBlock ∧ some k_ ≠ (.slice aI aN.length aJ : Value).ownBlock ∧ some k_ ≠ (.slice aP aS.length aQ : Value).ownBlock) (.slice a2 bb.length a3) bb) := ⟨(by rw [hw]; exact (by exact Kd.R_mono (Kd.R_step (Kd.R_types aT.out aF.out (by decide)) (fun _ hk _ => far4 hk.2)) (fun _ hk => ⟨hk.1.1.1, ⟨hk.1.1.2.1, ⟨hk.1.1.2.2.1, ⟨hk.1.1.2.2.2.1, ⟨hk.1.1.2.2.2.2.1, ⟨hk.1.1.2.2.2.2.2.1, ⟨hk.1.1.2.2.2.2.2.2.1, ⟨hk.1.1.2.2.2.2.2.2.2, hk.1.2⟩⟩⟩⟩⟩⟩⟩⟩)))⟩; have n7_ : Aside0 (Kd.R (Kd.int .u8) 5 bf w.heap.size (fun k_ => some k_ ≠ (.slice aj ar.length ak : Value).ownBlock ∧ some k_ ≠ (.slice am ac.length al : Value).ownBlock ∧ some k_ ≠ (.slice an aB.length ao : Value).ownBlock ∧ some k_ ≠ (.slice ap aC.length aq : Value).ownBlock ∧ some k_ ≠ (.slice au aD.length av : Value).ownBlock ∧ some k_ ≠ (.slice aw aE.length ax : Value).ownBlock ∧ some k_ ≠ (.slice a2 bb.length a3 : Value).ownBlock ∧ some k_ ≠ (.slice aI aN.length aJ : Value).ownBlock ∧ some k_ ≠ (.slice aP aS.length aQ : Value).ownBlock) (.slice aG aO.length aH) aO) := ⟨(by rw [hw]; exact (by exact Kd.R_mono (Kd.R_step (Kd.R_types aM.out aF.out (by decide)) (fun _ hk _ => far4 hk.2)) (fun _ hk => ⟨hk.1.1.1, ⟨hk.1.1.2.1, ⟨hk.1.1.2.2.1, ⟨hk.1.1.2.2.2.1, ⟨hk.1.1.2.2.2.2.1, ⟨hk.1.1.2.2.2.2.2.1, ⟨hk.1.1.2.2.2.2.2.2.1, ⟨hk.1.1.2.2.2.2.2.2.2, hk.1.2⟩⟩⟩⟩⟩⟩⟩⟩)))⟩; have n8_ : Aside0 (Kd.R (Kd.int .u8) 5 bf w.heap.size (fun k_ => some k_ ≠ (.slice aj ar.length ak : Value).ownBlock ∧ some k_ ≠ (.slice am ac.length al : Value).ownBlock ∧ some k_ ≠ (.slice an aB.length ao : Value).ownBlock ∧ some k_ ≠ (.slice ap aC.length aq : Value).ownBlock ∧ some k_ ≠ (.slice au aD.length av : Value).ownBlock ∧ some k_ ≠ (.slice aw aE.length ax : Value).ownBlock ∧ some k_ ≠ (.slice a2 bb.length a3 : Value).ownBlock ∧ some k_ ≠ (.slice aG aO.length aH : Value).ownBlock ∧ some k_ ≠ (.slice aP aS.length aQ : Value).ownBlock) (.slice aI aN.length aJ) aN) := ⟨(by rw [hw]; exact (by exact Kd.R_mono (Kd.R_step (Kd.R_types aK.out aF.out (by decide)) (fun _ hk _ => far4 hk.2)) (fun _ hk => ⟨hk.1.1.1, ⟨hk.1.1.2.1, ⟨hk.1.1.2.2.1, ⟨hk.1.1.2.2.2.1, ⟨hk.1.1.2.2.2.2.1, ⟨hk.1.1.2.2.2.2.2.1, ⟨hk.1.1.2.2.2.2.2.2.1, ⟨hk.1.1.2.2.2.2.2.2.2, hk.1.2⟩⟩⟩⟩⟩⟩⟩⟩)))⟩; have n9_ : Aside0 (Kd.R (Kd.int .u8) 5 bf w.heap.size (fun k_ => some k_ ≠ (.slice aj ar.length ak : Value).ownBlock ∧ some k_ ≠ (.slice am ac.length al : Value).ownBlock ∧ some k_ ≠ (.slice an aB.length ao : Value).ownBlock ∧ some k_ ≠ (.slice ap aC.length aq : Value).ownBlock ∧ some k_ ≠ (.slice au aD.length av : Value).ownBlock ∧ some k_ ≠ (.slice aw aE.length ax : Value).ownBlock ∧ some k_ ≠ (.slice a2 bb.length a3 : Value).ownBlock ∧ some k_ ≠ (.slice aG aO.length aH : Value).ownBlock ∧ some k_ ≠ (.slice aI aN.length aJ : Value).ownBlock) (.slice aP aS.length aQ) aS) := ⟨(by rw [hw]; exact (by exact Kd.R_mono (Kd.R_step (Kd.R_types a1.out aF.out (by decide)) (fun _ hk _ => far4 hk.2)) (fun _ hk => ⟨hk.1.1.1.1.1.1.1.1.1.2, ⟨hk.1.1.1.1.1.1.1.1.2, ⟨hk.1.1.1.1.1.1.1.2, ⟨hk.1.1.1.1.1.1.2, ⟨hk.1.1.1.1.1.2, ⟨hk.1.1.1.1.2, ⟨hk.1.1.1.2, ⟨hk.1.1.2, hk.1.2⟩⟩⟩⟩⟩⟩⟩⟩)))⟩; have n10_ : Aside0 (bf.heap[aR]? = some (.cells #[.int .i64 a4, .int .i64 aX, .bool a5, .bool a6, .int .i64 a7, .int .i64 a8, .int .i64 aY, .int .i64 aU, .int .i64 aZ, .slice aj ar.length ak, .slice am ac.length al] 25 (0, 0))) := ⟨(by rw [hw]; exact (by refine (far4 bT.out).trans ?_; exact ab.out))⟩; have n11_ : Aside0 (bf.heap[bk]? = some (.cells #[.int .i64 cg, .int .i64 ch, .bool ci, .bool cj, .int .i64 ck, .int .i64 cl, .int .i64 cm, .int .i64 cn, .int .i64 co, .slice an aB.length ao, .slice ap aC.length aq] 25 (0, 0))) := ⟨(by rw [hw]; exact (by refine (far4 cu.out).trans ?_; exact af.out))⟩; have n12_ : Aside0 (bf.heap[bd]? = some (.cells #[.int .i64 dj, .int .i64 dk, .bool dl, .bool dm, .int .i64 dn, .int .i64 dp, .int .i64 dq, .int .i64 dr, .int .i64 dt, .slice au aD.length av, .slice aw aE.length ax] 25 (0, 0))) := ⟨(by rw [hw]; exact (by refine (far4 cv.out).trans ?_; exact ai.out))⟩; have n13_ : Aside0 (bf.heap[cf]? = some (.cells #[.int .i64 cI, .int .i64 cJ, .bool cK, .bool cL, .int .i64 cM, .int .i64 cN, .int .i64 cO, .int .i64 bo, .int .i64 bp, .slice aG aO.length aH, .slice aI aN.length aJ] 25 (0, 0))) := ⟨(by rw [hw]; exact (by refine (far4 cw.out).trans ?_; exact ay.out))⟩; have n14_ : Aside0 (bf.heap[cr]? = some (.cells #[.int .i64 bh, .int .i64 bi, .int .i64 bj, .slice aP aS.length aQ] 52 (0, 0))) := ⟨(by rw [hw]; exact (by apply set4; exact aF.out))⟩; have n15_ : Aside0 (Below w.heap.size w bf) := ⟨(by rw [hw]; exact wB)⟩; clear hw; clear ad; clear ae; clear ag; clear ah; clear az; clear aA; clear aT; clear aM; clear aK; clear a1; clear ab; clear af; clear ai; clear ay; clear aF; clear HB; have ad := n0_; have ae := n1_; have ag := n2_; have ah := n3_; have az := n4_; have aA := n5_; have aT := n6_; have aM := n7_; have aK := n8_; have a1 := n9_; have ab := n10_; have af := n11_; have ai := n12_; have ay := n13_; have aF := n14_; have HB := n15_; clear n0_ n1_ n2_ n3_ n4_ n5_ n6_ n7_ n8_ n9_ n10_ n11_ n12_ n13_ n14_ n15_))
 (try simp only [Act.put, List.setIfInBounds_toArray, List.set_cons_zero, List.set_cons_succ])
 go_cut [125] (fun lx wc => ∃ (kq : Nat) (ev : Bool), lx = .bool ev ∧ Aside0 (laws_FnComplain.j0 kq ev a4 aX a5 a6 a7 a8 aY aU aZ ar ac bh bi bj aS = some r) ∧ Aside0 (kq ≤ k) ∧ Aside0 (Kd.R (Kd.int .u8) 5 wc w.heap.size (fun k_ => some k_ ≠ ((.slice am ac.length al) : Value).ownBlock ∧ some k_ ≠ ((.slice an aB.length ao) : Value).ownBlock ∧ some k_ ≠ ((.slice ap aC.length aq) : Value).ownBlock ∧ some k_ ≠ ((.slice au aD.length av) : Value).ownBlock ∧ some k_ ≠ ((.slice aw aE.length ax) : Value).ownBlock ∧ some k_ ≠ ((.slice aG aO.length aH) : Value).ownBlock ∧ some k_ ≠ ((.slice aI aN.length aJ) : Value).ownBlock ∧ some k_ ≠ ((.slice aP aS.length aQ) : Value).ownBlock) (.slice aj ar.length ak) ar) ∧ Aside0 (Kd.R (Kd.int .u8) 5 wc w.heap.size (fun k_ => some k_ ≠ ((.slice aj ar.length ak) : Value).ownBlock ∧ some k_ ≠ ((.slice an aB.length ao) : Value).ownBlock ∧ some k_ ≠ ((.slice ap aC.length aq) : Value).ownBlock ∧ some k_ ≠ ((.slice au aD.length av) : Value).ownBlock ∧ some k_ ≠ ((.slice aw aE.length ax) : Value).ownBlock ∧ some k_ ≠ ((.slice aG aO.length aH) : Value).ownBlock ∧ some k_ ≠ ((.slice aI aN.length aJ) : Value).ownBlock ∧ some k_ ≠ ((.slice aP aS.length aQ) : Value).ownBlock) (.slice am ac.length al) ac) ∧ Aside0 (Kd.R (Kd.int .u8) 5 wc w.heap.size (fun k_ => some k_ ≠ ((.slice aj ar.length ak) : Value).ownBlock ∧ some k_ ≠ ((.slice am ac.length al) : Value).ownBlock ∧ some k_ ≠ ((.slice ap aC.length aq) : Value).ownBlock ∧ some k_ ≠ ((.slice au aD.length av) : Value).ownBlock ∧ some k_ ≠ ((.slice aw aE.length ax) : Value).ownBlock ∧ some k_ ≠ ((.slice aG aO.length aH) : Value).ownBlock ∧ some k_ ≠ ((.slice aI aN.length aJ) : Value).ownBlock ∧ some k_ ≠ ((.slice aP aS.length aQ) : Value).ownBlock) (.slice an aB.length ao) aB) ∧ Aside0 (Kd.R (Kd.int .u8) 5 wc w.heap.size (fun k_ => some k_ ≠ ((.slice aj ar.length ak) : Value).ownBlock ∧ some k_ ≠ ((.slice am ac.length al) : Value).ownBlock ∧ some k_ ≠ ((.slice an aB.length ao) : Value).ownBlock ∧ some k_ ≠ ((.slice au aD.length av) : Value).ownBlock ∧ some k_ ≠ ((.slice aw aE.length ax) : Value).ownBlock ∧ some k_ ≠ ((.slice aG aO.length aH) : Value).ownBlock ∧ some k_ ≠ ((.slice aI aN.length aJ) : Value).ownBlock ∧ some k_ ≠ ((.slice aP aS.length aQ) : Value).ownBlock) (.slice ap aC.length aq) aC) ∧ Aside0 (Kd.R (Kd.int .u8) 5 wc w.heap.size (fun k_ => some k_ ≠ ((.slice aj ar.length ak) : Value).ownBlock ∧ some k_ ≠ ((.slice am ac.length al) : Value).ownBlock ∧ some k_ ≠ ((.slice an aB.length ao) : Value).ownBlock ∧ some k_ ≠ ((.slice ap aC.length aq) : Value).ownBlock ∧ some k_ ≠ ((.slice aw aE.length ax) : Value).ownBlock ∧ some k_ ≠ ((.slice aG aO.length aH) : Value).ownBlock ∧ some k_ ≠ ((.slice aI aN.length aJ) : Value).ownBlock ∧ some k_ ≠ ((.slice aP aS.length aQ) : Value).ownBlock) (.slice au aD.length av) aD) ∧ Aside0 (Kd.R (Kd.int .u8) 5 wc w.heap.size (fun k_ => some k_ ≠ ((.slice aj ar.length ak) : Value).ownBlock ∧ some k_ ≠ ((.slice am ac.length al) : Value).ownBlock ∧ some k_ ≠ ((.slice an aB.length ao) : Value).ownBlock ∧ some k_ ≠ ((.slice ap aC.length aq) : Value).ownBlock ∧ some k_ ≠ ((.slice au aD.length av) : Value).ownBlock ∧ some k_ ≠ ((.slice aG aO.length aH) : Value).ownBlock ∧ some k_ ≠ ((.slice aI aN.length aJ) : Value).ownBlock ∧ some k_ ≠ ((.slice aP aS.length aQ) : Value).ownBlock) (.slice aw aE.length ax) aE) ∧ Aside0 (Kd.R (Kd.int .u8) 5 wc w.heap.size (fun k_ => some k_ ≠ ((.slice aj ar.length ak) : Value).ownBlock ∧ some k_ ≠ ((.slice am ac.length al) : Value).ownBlock ∧ some k_ ≠ ((.slice an aB.length ao) : Value).ownBlock ∧ some k_ ≠ ((.slice ap aC.length aq) : Value).ownBlock ∧ some k_ ≠ ((.slice au aD.length av) : Value).ownBlock ∧ some k_ ≠ ((.slice aw aE.length ax) : Value).ownBlock ∧ some k_ ≠ ((.slice aI aN.length aJ) : Value).ownBlock ∧ some k_ ≠ ((.slice aP aS.length aQ) : Value).ownBlock) (.slice aG aO.length aH) aO) ∧ Aside0 (Kd.R (Kd.int .u8) 5 wc w.heap.size (fun k_ => some k_ ≠ ((.slice aj ar.length ak) : Value).ownBlock ∧ some k_ ≠ ((.slice am ac.length al) : Value).ownBlock ∧ some k_ ≠ ((.slice an aB.length ao) : Value).ownBlock ∧ some k_ ≠ ((.slice ap aC.length aq) : Value).ownBlock ∧ some k_ ≠ ((.slice au aD.length av) : Value).ownBlock ∧ some k_ ≠ ((.slice aw aE.length ax) : Value).ownBlock ∧ some k_ ≠ ((.slice aG aO.length aH) : Value).ownBlock ∧ some k_ ≠ ((.slice aP aS.length aQ) : Value).ownBlock) (.slice aI aN.length aJ) aN) ∧ Aside0 (Kd.R (Kd.int .u8) 5 wc w.heap.size (fun k_ => some k_ ≠ ((.slice aj ar.length ak) : Value).ownBlock ∧ some k_ ≠ ((.slice am ac.length al) : Value).ownBlock ∧ some k_ ≠ ((.slice an aB.length ao) : Value).ownBlock ∧ some k_ ≠ ((.slice ap aC.length aq) : Value).ownBlock ∧ some k_ ≠ ((.slice au aD.length av) : Value).ownBlock ∧ some k_ ≠ ((.slice aw aE.length ax) : Value).ownBlock ∧ some k_ ≠ ((.slice aG aO.length aH) : Value).ownBlock ∧ some k_ ≠ ((.slice aI aN.length aJ) : Value).ownBlock) (.slice aP aS.length aQ) aS) ∧ Aside0 (wc.heap[aR]? = some (.cells #[.int .i64 a4, .int .i64 aX, .bool a5, .bool a6, .int .i64 a7, .int .i64 a8, .int .i64 aY, .int .i64 aU, .int .i64 aZ, (.slice aj ar.length ak), (.slice am ac.length al)] 25 (0, 0))) ∧ Aside0 (wc.heap[bk]? = some (.cells #[.int .i64 cg, .int .i64 ch, .bool ci, .bool cj, .int .i64 ck, .int .i64 cl, .int .i64 cm, .int .i64 cn, .int .i64 co, (.slice an aB.length ao), (.slice ap aC.length aq)] 25 (0, 0))) ∧ Aside0 (wc.heap[bd]? = some (.cells #[.int .i64 dj, .int .i64 dk, .bool dl, .bool dm, .int .i64 dn, .int .i64 dp, .int .i64 dq, .int .i64 dr, .int .i64 dt, (.slice au aD.length av), (.slice aw aE.length ax)] 25 (0, 0))) ∧ Aside0 (wc.heap[cf]? = some (.cells #[.int .i64 cI, .int .i64 cJ, .bool cK, .bool cL, .int .i64 cM, .int .i64 cN, .int .i64 cO, .int .i64 bo, .int .i64 bp, (.slice aG aO.length aH), (.slice aI aN.length aJ)] 25 (0, 0))) ∧ Aside0 (wc.heap[cr]? = some (.cells #[.int .i64 bh, .int .i64 bi, .int .i64 bj, (.slice aP aS.length aQ)] 52 (0, 0))) ∧ Aside0 (Below w.heap.size w wc))
 case first => as_aux_lemma => (
 have H := j3.out
 clear j3
 by_cases dz : e4 = 0
 rw [if_pos dz] at H
 have c1049b0 : (e4 == 0) = true := beq_iff_eq.mpr dz
 have c1049b1 : (e4 != 0) = false := bne_eq_false_iff_eq.mpr dz
 clear dz
 (first | rw [c1049b0] | (simp only [i64_w, i32_w]; rw [c1049b0]) | skip)
 by_cases dA : e5 = 0
 rw [if_pos dA] at H
 have c1050b0 : (e5 == 0) = true := beq_iff_eq.mpr dA
 have c1050b1 : (e5 != 0) = false := bne_eq_false_iff_eq.mpr dA
 clear dA
 by_cases dB : e6 = 0
 rw [if_pos dB] at H
 have c1051b0 : (e6 == 0) = true := beq_iff_eq.mpr dB
 have c1051b1 : (e6 != 0) = false := bne_eq_false_iff_eq.mpr dB
 clear dB
 replace H := Option.bind_eq_some_iff.mp H
 obtain ⟨j2, A10520, H⟩ := H
 have A1052 := Aside0.mk A10520
 clear A10520
 by_cases e0 : j2 = true
 subst e0
 have H1 : (if bo = dI then (if bp = aU then (if bh = dJ then (if bi = dK then (if bj = dL then ((impl_MayComplain.f cI cJ cK cL cM cN cO bo bp aO aN).bind fun e3 => (laws_FnComplain.j0 k e3 a4 aX a5 a6 a7 a8 aY aU aZ ar ac bh bi bj aS)) else (laws_FnComplain.j0 k true a4 aX a5 a6 a7 a8 aY aU aZ ar ac bh bi bj aS)) else (laws_FnComplain.j0 k true a4 aX a5 a6 a7 a8 aY aU aZ ar ac bh bi bj aS)) else (laws_FnComplain.j0 k true a4 aX a5 a6 a7 a8 aY aU aZ ar ac bh bi bj aS)) else (laws_FnComplain.j0 k true a4 aX a5 a6 a7 a8 aY aU aZ ar ac bh bi bj aS)) else (laws_FnComplain.j0 k true a4 aX a5 a6 a7 a8 aY aU aZ ar ac bh bi bj aS)) = some r := by rw [if_pos rfl] at H; exact H
 clear H
 have H := H1
 clear H1
 by_cases dC : bo = dI
 rw [if_pos dC] at H
 have c1054b0 : (bo == dI) = true := beq_iff_eq.mpr dC
 have c1054b1 : (bo != dI) = false := bne_eq_false_iff_eq.mpr dC
 clear dC
 by_cases dD : bp = aU
 rw [if_pos dD] at H
 have c1055b0 : (bp == aU) = true := beq_iff_eq.mpr dD
 have c1055b1 : (bp != aU) = false := bne_eq_false_iff_eq.mpr dD
 clear dD
 by_cases dE : bh = dJ
 rw [if_pos dE] at H
 have c1056b0 : (bh == dJ) = true := beq_iff_eq.mpr dE
 have c1056b1 : (bh != dJ) = false := bne_eq_false_iff_eq.mpr dE
 clear dE
 by_cases dF : bi = dK
 rw [if_pos dF] at H
 have c1057b0 : (bi == dK) = true := beq_iff_eq.mpr dF
 have c1057b1 : (bi != dK) = false := bne_eq_false_iff_eq.mpr dF
 clear dF
 by_cases dG : bj = dL
 rw [if_pos dG] at H
 have c1058b0 : (bj == dL) = true := beq_iff_eq.mpr dG
 have c1058b1 : (bj != dL) = false := bne_eq_false_iff_eq.mpr dG
 clear dG
 replace H := Option.bind_eq_some_iff.mp H
 obtain ⟨e3, A10590, H⟩ := H
 have A1059 := Aside0.mk A10590
 clear A10590
 have H' := Aside0.mk H
 clear H
 rotate_left
 rw [if_neg dG] at H
 have c1058b0 : (bj == dL) = false := beq_eq_false_iff_ne.mpr dG
 have c1058b1 : (bj != dL) = true := bne_iff_ne.mpr dG
 have H' := Aside0.mk H
 clear H
 rotate_left
 rw [if_neg dF] at H
 have c1057b0 : (bi == dK) = false := beq_eq_false_iff_ne.mpr dF
 have c1057b1 : (bi != dK) = true := bne_iff_ne.mpr dF
 have H' := Aside0.mk H
 clear H
 rotate_left
 rw [if_neg dE] at H
 have c1056b0 : (bh == dJ) = false := beq_eq_false_iff_ne.mpr dE
 have c1056b1 : (bh != dJ) = true := bne_iff_ne.mpr dE
 have H' := Aside0.mk H
 clear H
 rotate_left
 rw [if_neg dD] at H
 have c1055b0 : (bp == aU) = false := beq_eq_false_iff_ne.mpr dD
 have c1055b1 : (bp != aU) = true := bne_iff_ne.mpr dD
 have H' := Aside0.mk H
 clear H
 rotate_left
 rw [if_neg dC] at H
 have c1054b0 : (bo == dI) = false := beq_eq_false_iff_ne.mpr dC
 have c1054b1 : (bo != dI) = true := bne_iff_ne.mpr dC
 have H' := Aside0.mk H
 clear H
 rotate_left
 replace e0 := Bool.eq_false_iff.mpr e0
 subst e0
 have H1 : (laws_FnComplain.j0 k true a4 aX a5 a6 a7 a8 aY aU aZ ar ac bh bi bj aS) = some r := by rw [if_neg (show ¬ (false = true) by decide)] at H; exact H
 clear H
 have H := H1
 clear H1
 have H' := Aside0.mk H
 clear H
 rotate_left
 rw [if_neg dB] at H
 have c1051b0 : (e6 == 0) = false := beq_eq_false_iff_ne.mpr dB
 have c1051b1 : (e6 != 0) = true := bne_iff_ne.mpr dB
 have H' := Aside0.mk H
 clear H
 rotate_left
 rw [if_neg dA] at H
 have c1050b0 : (e5 == 0) = false := beq_eq_false_iff_ne.mpr dA
 have c1050b1 : (e5 != 0) = true := bne_iff_ne.mpr dA
 have H' := Aside0.mk H
 clear H
 rotate_left
 rw [if_neg dz] at H
 have c1049b0 : (e4 == 0) = false := beq_eq_false_iff_ne.mpr dz
 have c1049b1 : (e4 != 0) = true := bne_iff_ne.mpr dz
 (first | rw [c1049b0] | (simp only [i64_w, i32_w]; rw [c1049b0]) | skip)
 have H' := Aside0.mk H
 clear H
 rotate_left
 iterate 7 (
 focus (
 have j9 := d2.out
 have ka := ct.out
 have kb := ft.out
 have kc := dw.out
 have kd := fu.out
 have ke := dx.out
 have kf := cw.out
 have kg := d5.out
 obtain ⟨⟨fv, fw, fx, fy, jh, ji, jj, jk, jl, jm, gC⟩, fz, fA, fB, fC, jn, jo, jp, jq, jr, js, gD⟩ := cells11 ay.out
 have lP := d1.out
 have lQ := cs.out
 have lR := bg.out
 have lS := dv.out
 have kh := cu.out
 have ki := d3.out
 obtain ⟨⟨jt, ju, jv, jw, jx, jy, jz, jA, jB, jC, gE⟩, jD, jE, jF, jG, jH, jI, jJ, jK, jL, jM, gF⟩ := cells11 af.out
 )
 rotate_left
 )
 rotate_right 7
 iterate 4 (
 focus (
 go_wp2_with (first | (go_at_call 9; (with_reducible refine (laws_lwPacket.calls cI cJ cK cL cM cN cO bo bp _ _ aO _ _ aN cg ch ci cj ck cl cm cn co _ _ aB _ _ aC true _ ?side1 ?side2 ?side3 ?side4 ?side5 ?side6 ?side7 ?side8 A1052.out).mono ?_); (case side1 => exact Ch aM); (case side2 => exact (Kd.R_reads' aM.out).2.1); (case side3 => exact Ch aK); (case side4 => exact (Kd.R_reads' aK.out).2.1); (case side5 => exact Ch ag); (case side6 => exact (Kd.R_reads' ag.out).2.1); (case side7 => exact Ch ah); (case side8 => exact (Kd.R_reads' ah.out).2.1); rintro e gG ⟨rfl, hb⟩; replace ad := Aside0.mk (Kd.R_below (Rh ad) hb); replace ae := Aside0.mk (Kd.R_below (Rh ae) hb); replace ag := Aside0.mk (Kd.R_below (Rh ag) hb); replace ah := Aside0.mk (Kd.R_below (Rh ah) hb); replace az := Aside0.mk (Kd.R_below (Rh az) hb); replace aA := Aside0.mk (Kd.R_below (Rh aA) hb); replace aT := Aside0.mk (Kd.R_below (Rh aT) hb); replace aM := Aside0.mk (Kd.R_below (Rh aM) hb); replace aK := Aside0.mk (Kd.R_below (Rh aK) hb); replace a1 := Aside0.mk (Kd.R_below (Rh a1) hb); replace ab := Aside0.mk (blk_below (Bh ab) hb); replace af := Aside0.mk (blk_below (Bh af) hb); replace ai := Aside0.mk (blk_below (Bh ai) hb); replace ay := Aside0.mk (blk_below (Bh ay) hb); replace aF := Aside0.mk (blk_below (Bh aF) hb); replace HB := Aside0.mk (below_step wB hb); clear hb; obtain ⟨⟨d6, d7, d8, d9, ea, eb, ec, ed, ee, ef, dN⟩, eg, eh, ei, ej, ek, el, em, en, eo, ep, dO⟩ := cells11 ay.out; have ga := ba.out; have gb := bS.out; have kj := bT.out; have kk := dy.out; obtain ⟨⟨fD, fE, fF, fG, fH, fI, fJ, fK, fL, fM, e1⟩, fN, fO, fP, fQ, fR, fS, fT, fU, fV, fW, e2⟩ := cells11 ab.out; have kl := d4.out; have km := cv.out; obtain ⟨⟨jN, jO, jP, jQ⟩, jR, jS, jT, jU⟩ := cells4 aF.out) | (go_at_call 22; (with_reducible refine (impl_MayComplain.calls cI cJ cK cL cM cN cO bo bp _ _ aO _ _ aN e3 _ ?side1 ?side2 ?side3 ?side4 A1059.out).mono ?_); (case side1 => exact Ch aM); (case side2 => exact (Kd.R_reads' aM.out).2.1); (case side3 => exact Ch aK); (case side4 => exact (Kd.R_reads' aK.out).2.1); rintro e mh ⟨rfl, hb⟩; replace ad := Aside0.mk (Kd.R_below (Rh ad) hb); replace ae := Aside0.mk (Kd.R_below (Rh ae) hb); replace ag := Aside0.mk (Kd.R_below (Rh ag) hb); replace ah := Aside0.mk (Kd.R_below (Rh ah) hb); replace az := Aside0.mk (Kd.R_below (Rh az) hb); replace aA := Aside0.mk (Kd.R_below (Rh aA) hb); replace aT := Aside0.mk (Kd.R_below (Rh aT) hb); replace aM := Aside0.mk (Kd.R_below (Rh aM) hb); replace aK := Aside0.mk (Kd.R_below (Rh aK) hb); replace a1 := Aside0.mk (Kd.R_below (Rh a1) hb); replace ab := Aside0.mk (blk_below (Bh ab) hb); replace af := Aside0.mk (blk_below (Bh af) hb); replace ai := Aside0.mk (blk_below (Bh ai) hb); replace ay := Aside0.mk (blk_below (Bh ay) hb); replace aF := Aside0.mk (blk_below (Bh aF) hb); replace HB := Aside0.mk (below_step wB hb); clear hb))
 go_meet
 )
 rotate_left
 )
 rotate_right 4
 {
 case rel => exact ⟨_, (e3), eS, H', ⟨by first | omega | exact Nat.le_refl _⟩, ⟨Kd.R_mono (Rh ad) (fun _ hk => ⟨hk.1, ⟨hk.2.1, ⟨hk.2.2.1, ⟨hk.2.2.2.1, ⟨hk.2.2.2.2.1, ⟨hk.2.2.2.2.2.2.1, ⟨hk.2.2.2.2.2.2.2.1, hk.2.2.2.2.2.2.2.2⟩⟩⟩⟩⟩⟩⟩)⟩, ⟨Kd.R_mono (Rh ae) (fun _ hk => ⟨hk.1, ⟨hk.2.1, ⟨hk.2.2.1, ⟨hk.2.2.2.1, ⟨hk.2.2.2.2.1, ⟨hk.2.2.2.2.2.2.1, ⟨hk.2.2.2.2.2.2.2.1, hk.2.2.2.2.2.2.2.2⟩⟩⟩⟩⟩⟩⟩)⟩, ⟨Kd.R_mono (Rh ag) (fun _ hk => ⟨hk.1, ⟨hk.2.1, ⟨hk.2.2.1, ⟨hk.2.2.2.1, ⟨hk.2.2.2.2.1, ⟨hk.2.2.2.2.2.2.1, ⟨hk.2.2.2.2.2.2.2.1, hk.2.2.2.2.2.2.2.2⟩⟩⟩⟩⟩⟩⟩)⟩, ⟨Kd.R_mono (Rh ah) (fun _ hk => ⟨hk.1, ⟨hk.2.1, ⟨hk.2.2.1, ⟨hk.2.2.2.1, ⟨hk.2.2.2.2.1, ⟨hk.2.2.2.2.2.2.1, ⟨hk.2.2.2.2.2.2.2.1, hk.2.2.2.2.2.2.2.2⟩⟩⟩⟩⟩⟩⟩)⟩, ⟨Kd.R_mono (Rh az) (fun _ hk => ⟨hk.1, ⟨hk.2.1, ⟨hk.2.2.1, ⟨hk.2.2.2.1, ⟨hk.2.2.2.2.1, ⟨hk.2.2.2.2.2.2.1, ⟨hk.2.2.2.2.2.2.2.1, hk.2.2.2.2.2.2.2.2⟩⟩⟩⟩⟩⟩⟩)⟩, ⟨Kd.R_mono (Rh aA) (fun _ hk => ⟨hk.1, ⟨hk.2.1, ⟨hk.2.2.1, ⟨hk.2.2.2.1, ⟨hk.2.2.2.2.1, ⟨hk.2.2.2.2.2.2.1, ⟨hk.2.2.2.2.2.2.2.1, hk.2.2.2.2.2.2.2.2⟩⟩⟩⟩⟩⟩⟩)⟩, ⟨Kd.R_mono (Rh aM) (fun _ hk => ⟨hk.1, ⟨hk.2.1, ⟨hk.2.2.1, ⟨hk.2.2.2.1, ⟨hk.2.2.2.2.1, ⟨hk.2.2.2.2.2.1, ⟨hk.2.2.2.2.2.2.2.1, hk.2.2.2.2.2.2.2.2⟩⟩⟩⟩⟩⟩⟩)⟩, ⟨Kd.R_mono (Rh aK) (fun _ hk => ⟨hk.1, ⟨hk.2.1, ⟨hk.2.2.1, ⟨hk.2.2.2.1, ⟨hk.2.2.2.2.1, ⟨hk.2.2.2.2.2.1, ⟨hk.2.2.2.2.2.2.2.1, hk.2.2.2.2.2.2.2.2⟩⟩⟩⟩⟩⟩⟩)⟩, ⟨Kd.R_mono (Rh a1) (fun _ hk => ⟨hk.1, ⟨hk.2.1, ⟨hk.2.2.1, ⟨hk.2.2.2.1, ⟨hk.2.2.2.2.1, ⟨hk.2.2.2.2.2.1, ⟨hk.2.2.2.2.2.2.2.1, hk.2.2.2.2.2.2.2.2⟩⟩⟩⟩⟩⟩⟩)⟩, ⟨Bh ab⟩, ⟨Bh af⟩, ⟨Bh ai⟩, ⟨Bh ay⟩, ⟨Bh aF⟩, ⟨wB⟩⟩
 }
 iterate 3 (
 focus (
 case rel => exact ⟨_, (true), eS, H', ⟨by first | omega | exact Nat.le_refl _⟩, ⟨Kd.R_mono (Rh ad) (fun _ hk => ⟨hk.1, ⟨hk.2.1, ⟨hk.2.2.1, ⟨hk.2.2.2.1, ⟨hk.2.2.2.2.1, ⟨hk.2.2.2.2.2.2.1, ⟨hk.2.2.2.2.2.2.2.1, hk.2.2.2.2.2.2.2.2⟩⟩⟩⟩⟩⟩⟩)⟩, ⟨Kd.R_mono (Rh ae) (fun _ hk => ⟨hk.1, ⟨hk.2.1, ⟨hk.2.2.1, ⟨hk.2.2.2.1, ⟨hk.2.2.2.2.1, ⟨hk.2.2.2.2.2.2.1, ⟨hk.2.2.2.2.2.2.2.1, hk.2.2.2.2.2.2.2.2⟩⟩⟩⟩⟩⟩⟩)⟩, ⟨Kd.R_mono (Rh ag) (fun _ hk => ⟨hk.1, ⟨hk.2.1, ⟨hk.2.2.1, ⟨hk.2.2.2.1, ⟨hk.2.2.2.2.1, ⟨hk.2.2.2.2.2.2.1, ⟨hk.2.2.2.2.2.2.2.1, hk.2.2.2.2.2.2.2.2⟩⟩⟩⟩⟩⟩⟩)⟩, ⟨Kd.R_mono (Rh ah) (fun _ hk => ⟨hk.1, ⟨hk.2.1, ⟨hk.2.2.1, ⟨hk.2.2.2.1, ⟨hk.2.2.2.2.1, ⟨hk.2.2.2.2.2.2.1, ⟨hk.2.2.2.2.2.2.2.1, hk.2.2.2.2.2.2.2.2⟩⟩⟩⟩⟩⟩⟩)⟩, ⟨Kd.R_mono (Rh az) (fun _ hk => ⟨hk.1, ⟨hk.2.1, ⟨hk.2.2.1, ⟨hk.2.2.2.1, ⟨hk.2.2.2.2.1, ⟨hk.2.2.2.2.2.2.1, ⟨hk.2.2.2.2.2.2.2.1, hk.2.2.2.2.2.2.2.2⟩⟩⟩⟩⟩⟩⟩)⟩, ⟨Kd.R_mono (Rh aA) (fun _ hk => ⟨hk.1, ⟨hk.2.1, ⟨hk.2.2.1, ⟨hk.2.2.2.1, ⟨hk.2.2.2.2.1, ⟨hk.2.2.2.2.2.2.1, ⟨hk.2.2.2.2.2.2.2.1, hk.2.2.2.2.2.2.2.2⟩⟩⟩⟩⟩⟩⟩)⟩, ⟨Kd.R_mono (Rh aM) (fun _ hk => ⟨hk.1, ⟨hk.2.1, ⟨hk.2.2.1, ⟨hk.2.2.2.1, ⟨hk.2.2.2.2.1, ⟨hk.2.2.2.2.2.1, ⟨hk.2.2.2.2.2.2.2.1, hk.2.2.2.2.2.2.2.2⟩⟩⟩⟩⟩⟩⟩)⟩, ⟨Kd.R_mono (Rh aK) (fun _ hk => ⟨hk.1, ⟨hk.2.1, ⟨hk.2.2.1, ⟨hk.2.2.2.1, ⟨hk.2.2.2.2.1, ⟨hk.2.2.2.2.2.1, ⟨hk.2.2.2.2.2.2.2.1, hk.2.2.2.2.2.2.2.2⟩⟩⟩⟩⟩⟩⟩)⟩, ⟨Kd.R_mono (Rh a1) (fun _ hk => ⟨hk.1, ⟨hk.2.1, ⟨hk.2.2.1, ⟨hk.2.2.2.1, ⟨hk.2.2.2.2.1, ⟨hk.2.2.2.2.2.1, ⟨hk.2.2.2.2.2.2.2.1, hk.2.2.2.2.2.2.2.2⟩⟩⟩⟩⟩⟩⟩)⟩, ⟨Bh ab⟩, ⟨Bh af⟩, ⟨Bh ai⟩, ⟨Bh ay⟩, ⟨Bh aF⟩, ⟨wB⟩⟩
 )
 )
 {
 go_wp2_with (first | (go_at_call 9; (with_reducible refine (laws_lwPacket.calls cI cJ cK cL cM cN cO bo bp _ _ aO _ _ aN cg ch ci cj ck cl cm cn co _ _ aB _ _ aC true _ ?side1 ?side2 ?side3 ?side4 ?side5 ?side6 ?side7 ?side8 A1052.out).mono ?_); (case side1 => exact Ch aM); (case side2 => exact (Kd.R_reads' aM.out).2.1); (case side3 => exact Ch aK); (case side4 => exact (Kd.R_reads' aK.out).2.1); (case side5 => exact Ch ag); (case side6 => exact (Kd.R_reads' ag.out).2.1); (case side7 => exact Ch ah); (case side8 => exact (Kd.R_reads' ah.out).2.1); rintro e gG ⟨rfl, hb⟩; replace ad := Aside0.mk (Kd.R_below (Rh ad) hb); replace ae := Aside0.mk (Kd.R_below (Rh ae) hb); replace ag := Aside0.mk (Kd.R_below (Rh ag) hb); replace ah := Aside0.mk (Kd.R_below (Rh ah) hb); replace az := Aside0.mk (Kd.R_below (Rh az) hb); replace aA := Aside0.mk (Kd.R_below (Rh aA) hb); replace aT := Aside0.mk (Kd.R_below (Rh aT) hb); replace aM := Aside0.mk (Kd.R_below (Rh aM) hb); replace aK := Aside0.mk (Kd.R_below (Rh aK) hb); replace a1 := Aside0.mk (Kd.R_below (Rh a1) hb); replace ab := Aside0.mk (blk_below (Bh ab) hb); replace af := Aside0.mk (blk_below (Bh af) hb); replace ai := Aside0.mk (blk_below (Bh ai) hb); replace ay := Aside0.mk (blk_below (Bh ay) hb); replace aF := Aside0.mk (blk_below (Bh aF) hb); replace HB := Aside0.mk (below_step wB hb); clear hb; obtain ⟨⟨d6, d7, d8, d9, ea, eb, ec, ed, ee, ef, dN⟩, eg, eh, ei, ej, ek, el, em, en, eo, ep, dO⟩ := cells11 ay.out; have ga := ba.out; have gb := bS.out; have kj := bT.out; have kk := dy.out; obtain ⟨⟨fD, fE, fF, fG, fH, fI, fJ, fK, fL, fM, e1⟩, fN, fO, fP, fQ, fR, fS, fT, fU, fV, fW, e2⟩ := cells11 ab.out))
 go_meet
 case rel => exact ⟨_, (true), eS, H', ⟨by first | omega | exact Nat.le_refl _⟩, ⟨Kd.R_mono (Rh ad) (fun _ hk => ⟨hk.1, ⟨hk.2.1, ⟨hk.2.2.1, ⟨hk.2.2.2.1, ⟨hk.2.2.2.2.1, ⟨hk.2.2.2.2.2.2.1, ⟨hk.2.2.2.2.2.2.2.1, hk.2.2.2.2.2.2.2.2⟩⟩⟩⟩⟩⟩⟩)⟩, ⟨Kd.R_mono (Rh ae) (fun _ hk => ⟨hk.1, ⟨hk.2.1, ⟨hk.2.2.1, ⟨hk.2.2.2.1, ⟨hk.2.2.2.2.1, ⟨hk.2.2.2.2.2.2.1, ⟨hk.2.2.2.2.2.2.2.1, hk.2.2.2.2.2.2.2.2⟩⟩⟩⟩⟩⟩⟩)⟩, ⟨Kd.R_mono (Rh ag) (fun _ hk => ⟨hk.1, ⟨hk.2.1, ⟨hk.2.2.1, ⟨hk.2.2.2.1, ⟨hk.2.2.2.2.1, ⟨hk.2.2.2.2.2.2.1, ⟨hk.2.2.2.2.2.2.2.1, hk.2.2.2.2.2.2.2.2⟩⟩⟩⟩⟩⟩⟩)⟩, ⟨Kd.R_mono (Rh ah) (fun _ hk => ⟨hk.1, ⟨hk.2.1, ⟨hk.2.2.1, ⟨hk.2.2.2.1, ⟨hk.2.2.2.2.1, ⟨hk.2.2.2.2.2.2.1, ⟨hk.2.2.2.2.2.2.2.1, hk.2.2.2.2.2.2.2.2⟩⟩⟩⟩⟩⟩⟩)⟩, ⟨Kd.R_mono (Rh az) (fun _ hk => ⟨hk.1, ⟨hk.2.1, ⟨hk.2.2.1, ⟨hk.2.2.2.1, ⟨hk.2.2.2.2.1, ⟨hk.2.2.2.2.2.2.1, ⟨hk.2.2.2.2.2.2.2.1, hk.2.2.2.2.2.2.2.2⟩⟩⟩⟩⟩⟩⟩)⟩, ⟨Kd.R_mono (Rh aA) (fun _ hk => ⟨hk.1, ⟨hk.2.1, ⟨hk.2.2.1, ⟨hk.2.2.2.1, ⟨hk.2.2.2.2.1, ⟨hk.2.2.2.2.2.2.1, ⟨hk.2.2.2.2.2.2.2.1, hk.2.2.2.2.2.2.2.2⟩⟩⟩⟩⟩⟩⟩)⟩, ⟨Kd.R_mono (Rh aM) (fun _ hk => ⟨hk.1, ⟨hk.2.1, ⟨hk.2.2.1, ⟨hk.2.2.2.1, ⟨hk.2.2.2.2.1, ⟨hk.2.2.2.2.2.1, ⟨hk.2.2.2.2.2.2.2.1, hk.2.2.2.2.2.2.2.2⟩⟩⟩⟩⟩⟩⟩)⟩, ⟨Kd.R_mono (Rh aK) (fun _ hk => ⟨hk.1, ⟨hk.2.1, ⟨hk.2.2.1, ⟨hk.2.2.2.1, ⟨hk.2.2.2.2.1, ⟨hk.2.2.2.2.2.1, ⟨hk.2.2.2.2.2.2.2.1, hk.2.2.2.2.2.2.2.2⟩⟩⟩⟩⟩⟩⟩)⟩, ⟨Kd.R_mono (Rh a1) (fun _ hk => ⟨hk.1, ⟨hk.2.1, ⟨hk.2.2.1, ⟨hk.2.2.2.1, ⟨hk.2.2.2.2.1, ⟨hk.2.2.2.2.2.1, ⟨hk.2.2.2.2.2.2.2.1, hk.2.2.2.2.2.2.2.2⟩⟩⟩⟩⟩⟩⟩)⟩, ⟨Bh ab⟩, ⟨Bh af⟩, ⟨Bh ai⟩, ⟨Bh ay⟩, ⟨Bh aF⟩, ⟨wB⟩⟩
 }
 {
 go_wp2_with (first | (go_at_call 9; (with_reducible refine (laws_lwPacket.calls cI cJ cK cL cM cN cO bo bp _ _ aO _ _ aN cg ch ci cj ck cl cm cn co _ _ aB _ _ aC true _ ?side1 ?side2 ?side3 ?side4 ?side5 ?side6 ?side7 ?side8 A1052.out).mono ?_); (case side1 => exact Ch aM); (case side2 => exact (Kd.R_reads' aM.out).2.1); (case side3 => exact Ch aK); (case side4 => exact (Kd.R_reads' aK.out).2.1); (case side5 => exact Ch ag); (case side6 => exact (Kd.R_reads' ag.out).2.1); (case side7 => exact Ch ah); (case side8 => exact (Kd.R_reads' ah.out).2.1); rintro e gG ⟨rfl, hb⟩; replace ad := Aside0.mk (Kd.R_below (Rh ad) hb); replace ae := Aside0.mk (Kd.R_below (Rh ae) hb); replace ag := Aside0.mk (Kd.R_below (Rh ag) hb); replace ah := Aside0.mk (Kd.R_below (Rh ah) hb); replace az := Aside0.mk (Kd.R_below (Rh az) hb); replace aA := Aside0.mk (Kd.R_below (Rh aA) hb); replace aT := Aside0.mk (Kd.R_below (Rh aT) hb); replace aM := Aside0.mk (Kd.R_below (Rh aM) hb); replace aK := Aside0.mk (Kd.R_below (Rh aK) hb); replace a1 := Aside0.mk (Kd.R_below (Rh a1) hb); replace ab := Aside0.mk (blk_below (Bh ab) hb); replace af := Aside0.mk (blk_below (Bh af) hb); replace ai := Aside0.mk (blk_below (Bh ai) hb); replace ay := Aside0.mk (blk_below (Bh ay) hb); replace aF := Aside0.mk (blk_below (Bh aF) hb); replace HB := Aside0.mk (below_step wB hb); clear hb; obtain ⟨⟨d6, d7, d8, d9, ea, eb, ec, ed, ee, ef, dN⟩, eg, eh, ei, ej, ek, el, em, en, eo, ep, dO⟩ := cells11 ay.out))
 go_meet
 case rel => exact ⟨_, (true), eS, H', ⟨by first | omega | exact Nat.le_refl _⟩, ⟨Kd.R_mono (Rh ad) (fun _ hk => ⟨hk.1, ⟨hk.2.1, ⟨hk.2.2.1, ⟨hk.2.2.2.1, ⟨hk.2.2.2.2.1, ⟨hk.2.2.2.2.2.2.1, ⟨hk.2.2.2.2.2.2.2.1, hk.2.2.2.2.2.2.2.2⟩⟩⟩⟩⟩⟩⟩)⟩, ⟨Kd.R_mono (Rh ae) (fun _ hk => ⟨hk.1, ⟨hk.2.1, ⟨hk.2.2.1, ⟨hk.2.2.2.1, ⟨hk.2.2.2.2.1, ⟨hk.2.2.2.2.2.2.1, ⟨hk.2.2.2.2.2.2.2.1, hk.2.2.2.2.2.2.2.2⟩⟩⟩⟩⟩⟩⟩)⟩, ⟨Kd.R_mono (Rh ag) (fun _ hk => ⟨hk.1, ⟨hk.2.1, ⟨hk.2.2.1, ⟨hk.2.2.2.1, ⟨hk.2.2.2.2.1, ⟨hk.2.2.2.2.2.2.1, ⟨hk.2.2.2.2.2.2.2.1, hk.2.2.2.2.2.2.2.2⟩⟩⟩⟩⟩⟩⟩)⟩, ⟨Kd.R_mono (Rh ah) (fun _ hk => ⟨hk.1, ⟨hk.2.1, ⟨hk.2.2.1, ⟨hk.2.2.2.1, ⟨hk.2.2.2.2.1, ⟨hk.2.2.2.2.2.2.1, ⟨hk.2.2.2.2.2.2.2.1, hk.2.2.2.2.2.2.2.2⟩⟩⟩⟩⟩⟩⟩)⟩, ⟨Kd.R_mono (Rh az) (fun _ hk => ⟨hk.1, ⟨hk.2.1, ⟨hk.2.2.1, ⟨hk.2.2.2.1, ⟨hk.2.2.2.2.1, ⟨hk.2.2.2.2.2.2.1, ⟨hk.2.2.2.2.2.2.2.1, hk.2.2.2.2.2.2.2.2⟩⟩⟩⟩⟩⟩⟩)⟩, ⟨Kd.R_mono (Rh aA) (fun _ hk => ⟨hk.1, ⟨hk.2.1, ⟨hk.2.2.1, ⟨hk.2.2.2.1, ⟨hk.2.2.2.2.1, ⟨hk.2.2.2.2.2.2.1, ⟨hk.2.2.2.2.2.2.2.1, hk.2.2.2.2.2.2.2.2⟩⟩⟩⟩⟩⟩⟩)⟩, ⟨Kd.R_mono (Rh aM) (fun _ hk => ⟨hk.1, ⟨hk.2.1, ⟨hk.2.2.1, ⟨hk.2.2.2.1, ⟨hk.2.2.2.2.1, ⟨hk.2.2.2.2.2.1, ⟨hk.2.2.2.2.2.2.2.1, hk.2.2.2.2.2.2.2.2⟩⟩⟩⟩⟩⟩⟩)⟩, ⟨Kd.R_mono (Rh aK) (fun _ hk => ⟨hk.1, ⟨hk.2.1, ⟨hk.2.2.1, ⟨hk.2.2.2.1, ⟨hk.2.2.2.2.1, ⟨hk.2.2.2.2.2.1, ⟨hk.2.2.2.2.2.2.2.1, hk.2.2.2.2.2.2.2.2⟩⟩⟩⟩⟩⟩⟩)⟩, ⟨Kd.R_mono (Rh a1) (fun _ hk => ⟨hk.1, ⟨hk.2.1, ⟨hk.2.2.1, ⟨hk.2.2.2.1, ⟨hk.2.2.2.2.1, ⟨hk.2.2.2.2.2.1, ⟨hk.2.2.2.2.2.2.2.1, hk.2.2.2.2.2.2.2.2⟩⟩⟩⟩⟩⟩⟩)⟩, ⟨Bh ab⟩, ⟨Bh af⟩, ⟨Bh ai⟩, ⟨Bh ay⟩, ⟨Bh aF⟩, ⟨wB⟩⟩
 }
 {
 go_wp2_with (first | (go_at_call 9; (with_reducible refine (laws_lwPacket.calls cI cJ cK cL cM cN cO bo bp _ _ aO _ _ aN cg ch ci cj ck cl cm cn co _ _ aB _ _ aC false _ ?side1 ?side2 ?side3 ?side4 ?side5 ?side6 ?side7 ?side8 A1052.out).mono ?_); (case side1 => exact Ch aM); (case side2 => exact (Kd.R_reads' aM.out).2.1); (case side3 => exact Ch aK); (case side4 => exact (Kd.R_reads' aK.out).2.1); (case side5 => exact Ch ag); (case side6 => exact (Kd.R_reads' ag.out).2.1); (case side7 => exact Ch ah); (case side8 => exact (Kd.R_reads' ah.out).2.1); rintro e gG ⟨rfl, hb⟩; replace ad := Aside0.mk (Kd.R_below (Rh ad) hb); replace ae := Aside0.mk (Kd.R_below (Rh ae) hb); replace ag := Aside0.mk (Kd.R_below (Rh ag) hb); replace ah := Aside0.mk (Kd.R_below (Rh ah) hb); replace az := Aside0.mk (Kd.R_below (Rh az) hb); replace aA := Aside0.mk (Kd.R_below (Rh aA) hb); replace aT := Aside0.mk (Kd.R_below (Rh aT) hb); replace aM := Aside0.mk (Kd.R_below (Rh aM) hb); replace aK := Aside0.mk (Kd.R_below (Rh aK) hb); replace a1 := Aside0.mk (Kd.R_below (Rh a1) hb); replace ab := Aside0.mk (blk_below (Bh ab) hb); replace af := Aside0.mk (blk_below (Bh af) hb); replace ai := Aside0.mk (blk_below (Bh ai) hb); replace ay := Aside0.mk (blk_below (Bh ay) hb); replace aF := Aside0.mk (blk_below (Bh aF) hb); replace HB := Aside0.mk (below_step wB hb); clear hb))
 go_meet
 case rel => exact ⟨_, (true), eS, H', ⟨by first | omega | exact Nat.le_refl _⟩, ⟨Kd.R_mono (Rh ad) (fun _ hk => ⟨hk.1, ⟨hk.2.1, ⟨hk.2.2.1, ⟨hk.2.2.2.1, ⟨hk.2.2.2.2.1, ⟨hk.2.2.2.2.2.2.1, ⟨hk.2.2.2.2.2.2.2.1, hk.2.2.2.2.2.2.2.2⟩⟩⟩⟩⟩⟩⟩)⟩, ⟨Kd.R_mono (Rh ae) (fun _ hk => ⟨hk.1, ⟨hk.2.1, ⟨hk.2.2.1, ⟨hk.2.2.2.1, ⟨hk.2.2.2.2.1, ⟨hk.2.2.2.2.2.2.1, ⟨hk.2.2.2.2.2.2.2.1, hk.2.2.2.2.2.2.2.2⟩⟩⟩⟩⟩⟩⟩)⟩, ⟨Kd.R_mono (Rh ag) (fun _ hk => ⟨hk.1, ⟨hk.2.1, ⟨hk.2.2.1, ⟨hk.2.2.2.1, ⟨hk.2.2.2.2.1, ⟨hk.2.2.2.2.2.2.1, ⟨hk.2.2.2.2.2.2.2.1, hk.2.2.2.2.2.2.2.2⟩⟩⟩⟩⟩⟩⟩)⟩, ⟨Kd.R_mono (Rh ah) (fun _ hk => ⟨hk.1, ⟨hk.2.1, ⟨hk.2.2.1, ⟨hk.2.2.2.1, ⟨hk.2.2.2.2.1, ⟨hk.2.2.2.2.2.2.1, ⟨hk.2.2.2.2.2.2.2.1, hk.2.2.2.2.2.2.2.2⟩⟩⟩⟩⟩⟩⟩)⟩, ⟨Kd.R_mono (Rh az) (fun _ hk => ⟨hk.1, ⟨hk.2.1, ⟨hk.2.2.1, ⟨hk.2.2.2.1, ⟨hk.2.2.2.2.1, ⟨hk.2.2.2.2.2.2.1, ⟨hk.2.2.2.2.2.2.2.1, hk.2.2.2.2.2.2.2.2⟩⟩⟩⟩⟩⟩⟩)⟩, ⟨Kd.R_mono (Rh aA) (fun _ hk => ⟨hk.1, ⟨hk.2.1, ⟨hk.2.2.1, ⟨hk.2.2.2.1, ⟨hk.2.2.2.2.1, ⟨hk.2.2.2.2.2.2.1, ⟨hk.2.2.2.2.2.2.2.1, hk.2.2.2.2.2.2.2.2⟩⟩⟩⟩⟩⟩⟩)⟩, ⟨Kd.R_mono (Rh aM) (fun _ hk => ⟨hk.1, ⟨hk.2.1, ⟨hk.2.2.1, ⟨hk.2.2.2.1, ⟨hk.2.2.2.2.1, ⟨hk.2.2.2.2.2.1, ⟨hk.2.2.2.2.2.2.2.1, hk.2.2.2.2.2.2.2.2⟩⟩⟩⟩⟩⟩⟩)⟩, ⟨Kd.R_mono (Rh aK) (fun _ hk => ⟨hk.1, ⟨hk.2.1, ⟨hk.2.2.1, ⟨hk.2.2.2.1, ⟨hk.2.2.2.2.1, ⟨hk.2.2.2.2.2.1, ⟨hk.2.2.2.2.2.2.2.1, hk.2.2.2.2.2.2.2.2⟩⟩⟩⟩⟩⟩⟩)⟩, ⟨Kd.R_mono (Rh a1) (fun _ hk => ⟨hk.1, ⟨hk.2.1, ⟨hk.2.2.1, ⟨hk.2.2.2.1, ⟨hk.2.2.2.2.1, ⟨hk.2.2.2.2.2.1, ⟨hk.2.2.2.2.2.2.2.1, hk.2.2.2.2.2.2.2.2⟩⟩⟩⟩⟩⟩⟩)⟩, ⟨Bh ab⟩, ⟨Bh af⟩, ⟨Bh ai⟩, ⟨Bh ay⟩, ⟨Bh aF⟩, ⟨wB⟩⟩
 }
 all_goals (
 go_wp2
 go_meet
 case rel => exact ⟨_, (true), eS, H', ⟨by first | omega | exact Nat.le_refl _⟩, ⟨Kd.R_mono (Rh ad) (fun _ hk => ⟨hk.1, ⟨hk.2.1, ⟨hk.2.2.1, ⟨hk.2.2.2.1, ⟨hk.2.2.2.2.1, ⟨hk.2.2.2.2.2.2.1, ⟨hk.2.2.2.2.2.2.2.1, hk.2.2.2.2.2.2.2.2⟩⟩⟩⟩⟩⟩⟩)⟩, ⟨Kd.R_mono (Rh ae) (fun _ hk => ⟨hk.1, ⟨hk.2.1, ⟨hk.2.2.1, ⟨hk.2.2.2.1, ⟨hk.2.2.2.2.1, ⟨hk.2.2.2.2.2.2.1, ⟨hk.2.2.2.2.2.2.2.1, hk.2.2.2.2.2.2.2.2⟩⟩⟩⟩⟩⟩⟩)⟩, ⟨Kd.R_mono (Rh ag) (fun _ hk => ⟨hk.1, ⟨hk.2.1, ⟨hk.2.2.1, ⟨hk.2.2.2.1, ⟨hk.2.2.2.2.1, ⟨hk.2.2.2.2.2.2.1, ⟨hk.2.2.2.2.2.2.2.1, hk.2.2.2.2.2.2.2.2⟩⟩⟩⟩⟩⟩⟩)⟩, ⟨Kd.R_mono (Rh ah) (fun _ hk => ⟨hk.1, ⟨hk.2.1, ⟨hk.2.2.1, ⟨hk.2.2.2.1, ⟨hk.2.2.2.2.1, ⟨hk.2.2.2.2.2.2.1, ⟨hk.2.2.2.2.2.2.2.1, hk.2.2.2.2.2.2.2.2⟩⟩⟩⟩⟩⟩⟩)⟩, ⟨Kd.R_mono (Rh az) (fun _ hk => ⟨hk.1, ⟨hk.2.1, ⟨hk.2.2.1, ⟨hk.2.2.2.1, ⟨hk.2.2.2.2.1, ⟨hk.2.2.2.2.2.2.1, ⟨hk.2.2.2.2.2.2.2.1, hk.2.2.2.2.2.2.2.2⟩⟩⟩⟩⟩⟩⟩)⟩, ⟨Kd.R_mono (Rh aA) (fun _ hk => ⟨hk.1, ⟨hk.2.1, ⟨hk.2.2.1, ⟨hk.2.2.2.1, ⟨hk.2.2.2.2.1, ⟨hk.2.2.2.2.2.2.1, ⟨hk.2.2.2.2.2.2.2.1, hk.2.2.2.2.2.2.2.2⟩⟩⟩⟩⟩⟩⟩)⟩, ⟨Kd.R_mono (Rh aM) (fun _ hk => ⟨hk.1, ⟨hk.2.1, ⟨hk.2.2.1, ⟨hk.2.2.2.1, ⟨hk.2.2.2.2.1, ⟨hk.2.2.2.2.2.1, ⟨hk.2.2.2.2.2.2.2.1, hk.2.2.2.2.2.2.2.2⟩⟩⟩⟩⟩⟩⟩)⟩, ⟨Kd.R_mono (Rh aK) (fun _ hk => ⟨hk.1, ⟨hk.2.1, ⟨hk.2.2.1, ⟨hk.2.2.2.1, ⟨hk.2.2.2.2.1, ⟨hk.2.2.2.2.2.1, ⟨hk.2.2.2.2.2.2.2.1, hk.2.2.2.2.2.2.2.2⟩⟩⟩⟩⟩⟩⟩)⟩, ⟨Kd.R_mono (Rh a1) (fun _ hk => ⟨hk.1, ⟨hk.2.1, ⟨hk.2.2.1, ⟨hk.2.2.2.1, ⟨hk.2.2.2.2.1, ⟨hk.2.2.2.2.2.1, ⟨hk.2.2.2.2.2.2.2.1, hk.2.2.2.2.2.2.2.2⟩⟩⟩⟩⟩⟩⟩)⟩, ⟨Bh ab⟩, ⟨Bh af⟩, ⟨Bh ai⟩, ⟨Bh ay⟩, ⟨Bh aF⟩, ⟨wB⟩⟩
 )
 )
 case rest => (
 clear j3
 try clear c2
 try clear c2b0
 try clear c2b1
 try clear p2
 try clear c7
 try clear c7b0
 try clear c7b1
 try clear c7b2
 try clear c9
 try clear c9b0
 try clear c9b1
 try clear e8
 try clear c10b0
 try clear c10b1
 try clear dz
 try clear c1049b0
 try clear c1049b1
 try clear dA
 try clear c1050b0
 try clear c1050b1
 try clear dB
 try clear c1051b0
 try clear c1051b1
 try clear e0
 try clear dC
 try clear c1054b0
 try clear c1054b1
 try clear dD
 try clear c1055b0
 try clear c1055b1
 try clear dE
 try clear c1056b0
 try clear c1056b1
 try clear dF
 try clear c1057b0
 try clear c1057b1
 try clear dG
 try clear c1058b0
 try clear c1058b1
 try clear gJ gK gf gM gN gO gP gQ gR gS gT gU gV gg gW gX gY gZ g0 g1 g2 g3
 try clear g4 g5 gh g6 g7 g8 g9 ha hc hd he hf hh gi hj hl hm hn ho hp hq hr
 try clear hs ht gj hu hv hx hy hz hA hB hC hD hE gk hF hG hH hI hJ hL hM hN
 try clear hO hP gl hQ hR hS hT hU hV hW hX hY hZ gm h0 h1 h2 h3 h4 h5 h6 h7
 try clear e9 fa eB fb fc fd fe ff fg fh fi fj fk eC fl fm fn fo fp fq fr fs
 try clear h8 h9 go ia ib ic id ie ig ih ii ij ik gp il im io ip iq ir it iu
 try clear iv iw gq ix iy iz iA iB iC iD iE iF iG gr iH iI iJ iK iL iM iN iO
 try clear iP iQ gs iR iS iT iU iV iW iX iY iZ i0 gt i1 i2 i3 i4 i5 i6 i7 i8
 try clear i9 ja jb jc jd je jf jg
 try clear fv fw gC fx fy jh ji jj jk jl jm fz fA gD fB fC jn jo jp jq jr js
 try clear jt ju gE jv jw jx jy jz jA jB jC jD jE gF jF jG jH jI jJ jK jL jM
 try clear d6 d7 dN d8 d9 ea eb ec ed ee ef eg eh dO ei ej ek el em en eo ep
 try clear fD fE e1 fF fG fH fI fJ fK fL fM fN fO e2 fP fQ fR fS fT fU fV fW
 try clear jN jO jP jQ jR jS jT jU
 obtain ⟨kq, ev, rfl, HA, HJ13, HO_469009, HO_469010, HO_486009, HO_486010, HO_505009, HO_505010, HO_526009, HO_526010, HO_534003, ab, af, ai, ay, aF, HB⟩ := hcut
 cases kq with
 | zero => exact absurd HA.out (by simp [laws_FnComplain.j0])
 | succ kw => {
 have H := HA.out
 clear HA
 simp only [laws_FnComplain.j0] at H
 by_cases f2 : ev = true
 subst f2
 have H1 : (none) = some r := by rw [if_pos rfl] at H; exact H
 clear H
 have H := H1
 clear H1
 exact absurd H (by simp)
 replace f2 := Bool.eq_false_iff.mpr f2
 subst f2
 have H1 : ((impl_ReadQuote.f kw aS).bind fun dH => (if (ac.length : Int) < 8 then (some (dH.2.2.2.2.2.2.2 == 2)) else (if dH.2.2.2.2.2.2.2 = 0 then (if dH.1 = aY then (if dH.2.1 = aU then (if dH.2.2.1 = aZ then (if dH.2.2.2.1 = aX then (if 0 < (ac.length : Int) then (if 1 < (ac.length : Int) then (if dH.2.2.2.2.1 = (wrap64 ((wrap64 ((wrap64 (rd ac 0)) * 256)) + (wrap64 (rd ac 1)))) then (if 2 < (ac.length : Int) then (if 3 < (ac.length : Int) then (some (dH.2.2.2.2.2.1 == (wrap64 ((wrap64 ((wrap64 (rd ac 2)) * 256)) + (wrap64 (rd ac 3)))))) else (none)) else (none)) else (none)) else (none)) else (none)) else (none)) else (none)) else (none)) else (none)) else (none)))) = some r := by rw [if_neg (show ¬ (false = true) by decide)] at H; exact H
 clear H
 have H := H1
 clear H1
 replace H := Option.bind_eq_some_iff.mp H
 obtain ⟨⟨dP, dQ, dR, dS, dU, gH, gI, e7⟩, A10610, H⟩ := H
 try dsimp only at H
 have A1061 := Aside0.mk A10610
 clear A10610
 by_cases ew : (ac.length : Int) < 8
 rw [if_pos ew] at H
 have c1062b0 : decide ((ac.length : Int) < 8) = true := decide_eq_true ew
 have c1062b1 : decide (ac.length < 8) = true := decide_eq_true (by omega)
 clear ew
 obtain rfl := Option.some.inj H
 rotate_left
 rw [if_neg ew] at H
 have c1062b0 : decide ((ac.length : Int) < 8) = false := decide_eq_false ew
 have c1062b1 : decide (ac.length < 8) = false := decide_eq_false (by omega)
 clear ew
 by_cases dV : e7 = 0
 rw [if_pos dV] at H
 have c1063b0 : (e7 == 0) = true := beq_iff_eq.mpr dV
 have c1063b1 : (e7 != 0) = false := bne_eq_false_iff_eq.mpr dV
 clear dV
 by_cases dW : dP = aY
 rw [if_pos dW] at H
 have c1064b0 : (dP == aY) = true := beq_iff_eq.mpr dW
 have c1064b1 : (dP != aY) = false := bne_eq_false_iff_eq.mpr dW
 clear dW
 by_cases dX : dQ = aU
 rw [if_pos dX] at H
 have c1065b0 : (dQ == aU) = true := beq_iff_eq.mpr dX
 have c1065b1 : (dQ != aU) = false := bne_eq_false_iff_eq.mpr dX
 clear dX
 by_cases dY : dR = aZ
 rw [if_pos dY] at H
 have c1066b0 : (dR == aZ) = true := beq_iff_eq.mpr dY
 have c1066b1 : (dR != aZ) = false := bne_eq_false_iff_eq.mpr dY
 clear dY
 by_cases dZ : dS = aX
 rw [if_pos dZ] at H
 have c1067b0 : (dS == aX) = true := beq_iff_eq.mpr dZ
 have c1067b1 : (dS != aX) = false := bne_eq_false_iff_eq.mpr dZ
 clear dZ
 by_cases f3 : 0 < (ac.length : Int)
 rw [if_pos f3] at H
 have c1068b0 : decide (0 < (ac.length : Int)) = true := decide_eq_true f3
 have c1068b1 : decide (0 < ac.length) = true := decide_eq_true (by omega)
 clear f3
 by_cases f4 : 1 < (ac.length : Int)
 rw [if_pos f4] at H
 have c1069b0 : decide (1 < (ac.length : Int)) = true := decide_eq_true f4
 have c1069b1 : decide (1 < ac.length) = true := decide_eq_true (by omega)
 clear f4
 by_cases d0 : dU = (wrap64 ((wrap64 ((wrap64 (rd ac 0)) * 256)) + (wrap64 (rd ac 1))))
 rw [if_pos d0] at H
 have c1070b0 : (dU == (wrap64 ((wrap64 ((wrap64 (rd ac 0)) * 256)) + (wrap64 (rd ac 1))))) = true := beq_iff_eq.mpr d0
 have c1070b1 : (dU != (wrap64 ((wrap64 ((wrap64 (rd ac 0)) * 256)) + (wrap64 (rd ac 1))))) = false := bne_eq_false_iff_eq.mpr d0
 clear d0
 by_cases f5 : 2 < (ac.length : Int)
 rw [if_pos f5] at H
 have c1071b0 : decide (2 < (ac.length : Int)) = true := decide_eq_true f5
 have c1071b1 : decide (2 < ac.length) = true := decide_eq_true (by omega)
 clear f5
 by_cases f6 : 3 < (ac.length : Int)
 rw [if_pos f6] at H
 have c1072b0 : decide (3 < (ac.length : Int)) = true := decide_eq_true f6
 have c1072b1 : decide (3 < ac.length) = true := decide_eq_true (by omega)
 clear f6
 obtain rfl := Option.some.inj H
 rotate_left
 rw [if_neg f6] at H
 exact absurd H (by simp)
 rw [if_neg f5] at H
 exact absurd H (by simp)
 rw [if_neg d0] at H
 have c1070b0 : (dU == (wrap64 ((wrap64 ((wrap64 (rd ac 0)) * 256)) + (wrap64 (rd ac 1))))) = false := beq_eq_false_iff_ne.mpr d0
 have c1070b1 : (dU != (wrap64 ((wrap64 ((wrap64 (rd ac 0)) * 256)) + (wrap64 (rd ac 1))))) = true := bne_iff_ne.mpr d0
 exact absurd H (by simp)
 rw [if_neg f4] at H
 exact absurd H (by simp)
 rw [if_neg f3] at H
 exact absurd H (by simp)
 rw [if_neg dZ] at H
 have c1067b0 : (dS == aX) = false := beq_eq_false_iff_ne.mpr dZ
 have c1067b1 : (dS != aX) = true := bne_iff_ne.mpr dZ
 exact absurd H (by simp)
 rw [if_neg dY] at H
 have c1066b0 : (dR == aZ) = false := beq_eq_false_iff_ne.mpr dY
 have c1066b1 : (dR != aZ) = true := bne_iff_ne.mpr dY
 exact absurd H (by simp)
 rw [if_neg dX] at H
 have c1065b0 : (dQ == aU) = false := beq_eq_false_iff_ne.mpr dX
 have c1065b1 : (dQ != aU) = true := bne_iff_ne.mpr dX
 exact absurd H (by simp)
 rw [if_neg dW] at H
 have c1064b0 : (dP == aY) = false := beq_eq_false_iff_ne.mpr dW
 have c1064b1 : (dP != aY) = true := bne_iff_ne.mpr dW
 exact absurd H (by simp)
 rw [if_neg dV] at H
 have c1063b0 : (e7 == 0) = false := beq_eq_false_iff_ne.mpr dV
 have c1063b1 : (e7 != 0) = true := bne_iff_ne.mpr dV
 exact absurd H (by simp)
 all_goals (
 have j9 := dy.out
 have ka := bT.out
 have kb := d3.out
 have kc := cu.out
 have kd := d4.out
 have ke := cv.out
 have kf := d5.out
 have kg := cw.out
 obtain ⟨⟨fv, fw, fx, fy⟩, fz, fA, fB, fC⟩ := cells4 aF.out
 try go_wp2_with (first | (go_at_call 26; (with_reducible refine (impl_ReadQuote.calls kw _ _ aS dP dQ dR dS dU gH gI e7 _ ?side1 ?side2 A1061.out).mono ?_); (case side1 => exact Ch HO_534003); (case side2 => exact (Kd.R_reads' HO_534003.out).2.1); rintro e mi ⟨rfl, hb⟩; replace HO_469009 := Aside0.mk (Kd.R_below (Rh HO_469009) hb); replace HO_469010 := Aside0.mk (Kd.R_below (Rh HO_469010) hb); replace HO_486009 := Aside0.mk (Kd.R_below (Rh HO_486009) hb); replace HO_486010 := Aside0.mk (Kd.R_below (Rh HO_486010) hb); replace HO_505009 := Aside0.mk (Kd.R_below (Rh HO_505009) hb); replace HO_505010 := Aside0.mk (Kd.R_below (Rh HO_505010) hb); replace HO_526009 := Aside0.mk (Kd.R_below (Rh HO_526009) hb); replace HO_526010 := Aside0.mk (Kd.R_below (Rh HO_526010) hb); replace HO_534003 := Aside0.mk (Kd.R_below (Rh HO_534003) hb); replace ab := Aside0.mk (blk_below (Bh ab) hb); replace af := Aside0.mk (blk_below (Bh af) hb); replace ai := Aside0.mk (blk_below (Bh ai) hb); replace ay := Aside0.mk (blk_below (Bh ay) hb); replace aF := Aside0.mk (blk_below (Bh aF) hb); replace HB := Aside0.mk (below_step wB hb); clear hb) | ((with_reducible refine gate_dst (N := 18) rfl ?_); refine boxE 18 #[.int .i64 0, .int .i64 0, .int .i64 0, .int .i64 0, .int .i64 0, .int .i64 0, .int .i64 0] 56 ?_; intro bl hg f7 hbox hb; replace HO_469009 := Aside0.mk (Kd.R_below (Rh HO_469009) hb); replace HO_469010 := Aside0.mk (Kd.R_below (Rh HO_469010) hb); replace HO_486009 := Aside0.mk (Kd.R_below (Rh HO_486009) hb); replace HO_486010 := Aside0.mk (Kd.R_below (Rh HO_486010) hb); replace HO_505009 := Aside0.mk (Kd.R_below (Rh HO_505009) hb); replace HO_505010 := Aside0.mk (Kd.R_below (Rh HO_505010) hb); replace HO_526009 := Aside0.mk (Kd.R_below (Rh HO_526009) hb); replace HO_526010 := Aside0.mk (Kd.R_below (Rh HO_526010) hb); replace HO_534003 := Aside0.mk (Kd.R_below (Rh HO_534003) hb); have aW := Aside0.mk (hbox); have kE := Aside0.mk ((by rw [hg]; exact (below_size wB) : w.heap.size ≤ bl)); replace HB := Aside0.mk (below_step wB hb); have mj := kE; have eq := Aside0.mk ((by rw [hg]; exact Nat.ne_of_lt (blk_lt (Bh ab)) : aR ≠ bl)); replace ab := Aside0.mk (blk_below (Bh ab) hb); have jV := Aside0.mk eq.out.symm; have er := Aside0.mk ((by rw [hg]; exact Nat.ne_of_lt (blk_lt (Bh af)) : bk ≠ bl)); replace af := Aside0.mk (blk_below (Bh af) hb); have jW := Aside0.mk er.out.symm; have es := Aside0.mk ((by rw [hg]; exact Nat.ne_of_lt (blk_lt (Bh ai)) : bd ≠ bl)); replace ai := Aside0.mk (blk_below (Bh ai) hb); have jX := Aside0.mk es.out.symm; have et := Aside0.mk ((by rw [hg]; exact Nat.ne_of_lt (blk_lt (Bh ay)) : cf ≠ bl)); replace ay := Aside0.mk (blk_below (Bh ay) hb); have jY := Aside0.mk et.out.symm; have eu := Aside0.mk ((by rw [hg]; exact Nat.ne_of_lt (blk_lt (Bh aF)) : cr ≠ bl)); replace aF := Aside0.mk (blk_below (Bh aF) hb); have jZ := Aside0.mk eu.out.symm; clear hb hbox hg; have kh := jV.out; have ki := eq.out; have lT := jW.out; have lU := er.out; have lV := jX.out; have lW := es.out; have lX := jY.out; have lY := et.out; have ga := jZ.out; have gb := eu.out; obtain ⟨⟨kV, kW, kX, kY, kZ, k0, k1⟩, k2, k3, k4, k5, k6, k7, k8⟩ := cells7 aW.out) | ((with_reducible refine gate_store (t := 56) (p := 18) rfl ?_); (try (rw [drewN_self f7]; generalize hq_ : World.drewN f7 _ = f7; replace HO_469009 := Aside0.mk (Kd.R_at hq_ HO_469009.out); replace HO_469010 := Aside0.mk (Kd.R_at hq_ HO_469010.out); replace HO_486009 := Aside0.mk (Kd.R_at hq_ HO_486009.out); replace HO_486010 := Aside0.mk (Kd.R_at hq_ HO_486010.out); replace HO_505009 := Aside0.mk (Kd.R_at hq_ HO_505009.out); replace HO_505010 := Aside0.mk (Kd.R_at hq_ HO_505010.out); replace HO_526009 := Aside0.mk (Kd.R_at hq_ HO_526009.out); replace HO_526010 := Aside0.mk (Kd.R_at hq_ HO_526010.out); replace HO_534003 := Aside0.mk (Kd.R_at hq_ HO_534003.out); replace ab := Aside0.mk (blk_at hq_ ab.out); replace af := Aside0.mk (blk_at hq_ af.out); replace ai := Aside0.mk (blk_at hq_ ai.out); replace ay := Aside0.mk (blk_at hq_ ay.out); replace aF := Aside0.mk (blk_at hq_ aF.out); replace aW := Aside0.mk (blk_at hq_ aW.out); replace HB := Aside0.mk (below_at hq_ HB.out); clear hq_; (try (obtain ⟨⟨bs, bu, bv, bw, bz, bA, bB, bC, bD, bE, bm⟩, bF, bG, bH, bI, bJ, bK, bL, bM, bN, bO, bn⟩ := cells11 ab.out)); (try (obtain ⟨⟨bU, bV, bW, bX, bY, bZ, b0, b1, b2, b3, bP⟩, b4, b5, b6, b7, b8, b9, ca, cb, cc, cd, bQ⟩ := cells11 af.out)); (try (obtain ⟨⟨cQ, cR, cS, cT, cU, cV, cW, cX, cY, cZ, cp⟩, c1, da, db, dc, dd, de, df, dg, dh, di, cq⟩ := cells11 ai.out)); (try (obtain ⟨⟨eD, eE, eF, eG, eH, eI, eJ, eK, eL, eM, ex⟩, eN, eO, eP, eQ, eT, eU, eV, eW, eX, eY, ey⟩ := cells11 ay.out)); (try (obtain ⟨⟨gu, gv, gw, gx⟩, gy, gz, gA, gB⟩ := cells4 aF.out)); (try (obtain ⟨⟨kF, kG, kH, kI, kJ, kK, kL⟩, kM, kN, kO, kP, kQ, kR, kS⟩ := cells7 aW.out)))); refine storeE (put7 f7 bl (.int .i64 dP) (.int .i64 dQ) (.int .i64 dR) (.int .i64 dS) (.int .i64 dU) (.int .i64 gH) (.int .i64 gI)) ?_; intro be hw; have n0_ : Aside0 (Kd.R (Kd.int .u8) 5 be w.heap.size (fun k_ => some k_ ≠ (.slice am ac.length al : Value).ownBlock ∧ some k_ ≠ (.slice an aB.length ao : Value).ownBlock ∧ some k_ ≠ (.slice ap aC.length aq : Value).ownBlock ∧ some k_ ≠ (.slice au aD.length av : Value).ownBlock ∧ some k_ ≠ (.slice aw aE.length ax : Value).ownBlock ∧ some k_ ≠ (.slice aG aO.length aH : Value).ownBlock ∧ some k_ ≠ (.slice aI aN.length aJ : Value).ownBlock ∧ some k_ ≠ (.slice aP aS.length aQ : Value).ownBlock) (.slice aj ar.length ak) ar) := ⟨(by rw [hw]; exact (by exact Kd.R_mono (Kd.R_step (Kd.R_types HO_469009.out aW.out (by decide)) (fun _ hk _ => far7 hk.2)) (fun _ hk => ⟨hk.1.1, ⟨hk.1.2.1, ⟨hk.1.2.2.1, ⟨hk.1.2.2.2.1, ⟨hk.1.2.2.2.2.1, ⟨hk.1.2.2.2.2.2.1, ⟨hk.1.2.2.2.2.2.2.1, hk.1.2.2.2.2.2.2.2⟩⟩⟩⟩⟩⟩⟩)))⟩; have n1_ : Aside0 (Kd.R (Kd.int .u8) 5 be w.heap.size (fun k_ => some k_ ≠ (.slice aj ar.length ak : Value).ownBlock ∧ some k_ ≠ (.slice an aB.length ao : Value).ownBlock ∧ some k_ ≠ (.slice ap aC.length aq : Value).ownBlock ∧ some k_ ≠ (.slice au aD.length av : Value).ownBlock ∧ some k_ ≠ (.slice aw aE.length ax : Value).ownBlock ∧ some k_ ≠ (.slice aG aO.length aH : Value).ownBlock ∧ some k_ ≠ (.slice aI aN.length aJ : Value).ownBlock ∧ some k_ ≠ (.slice aP aS.length aQ : Value).ownBlock) (.slice am ac.length al) ac) := ⟨(by rw [hw]; exact (by exact Kd.R_mono (Kd.R_step (Kd.R_types HO_469010.out aW.out (by decide)) (fun _ hk _ => far7 hk.2)) (fun _ hk => ⟨hk.1.1, ⟨hk.1.2.1, ⟨hk.1.2.2.1, ⟨hk.1.2.2.2.1, ⟨hk.1.2.2.2.2.1, ⟨hk.1.2.2.2.2.2.1, ⟨hk.1.2.2.2.2.2.2.1, hk.1.2.2.2.2.2.2.2⟩⟩⟩⟩⟩⟩⟩)))⟩; have n2_ : Aside0 (Kd.R (Kd.int .u8) 5 be w.heap.size (fun k_ => some k_ ≠ (.slice aj ar.length ak : Value).ownBlock ∧ some k_ ≠ (.slice am ac.length al : Value).ownBlock ∧ some k_ ≠ (.slice ap aC.length aq : Value).ownBlock ∧ some k_ ≠ (.slice au aD.length av : Value).ownBlock ∧ some k_ ≠ (.slice aw aE.length ax : Value).ownBlock ∧ some k_ ≠ (.slice aG aO.length aH : Value).ownBlock ∧ some k_ ≠ (.slice aI aN.length aJ : Value).ownBlock ∧ some k_ ≠ (.slice aP aS.length aQ : Value).ownBlock) (.slice an aB.length ao) aB) := ⟨(by rw [hw]; exact (by exact Kd.R_mono (Kd.R_step (Kd.R_types HO_486009.out aW.out (by decide)) (fun _ hk _ => far7 hk.2)) (fun _ hk => ⟨hk.1.1, ⟨hk.1.2.1, ⟨hk.1.2.2.1, ⟨hk.1.2.2.2.1, ⟨hk.1.2.2.2.2.1, ⟨hk.1.2.2.2.2.2.1, ⟨hk.1.2.2.2.2.2.2.1, hk.1.2.2.2.2.2.2.2⟩⟩⟩⟩⟩⟩⟩)))⟩; have n3_ : Aside0 (Kd.R (Kd.int .u8) 5 be w.heap.size (fun k_ => some k_ ≠ (.slice aj ar.length ak : Value).ownBlock ∧ some k_ ≠ (.slice am ac.length al : Value).ownBlock ∧ some k_ ≠ (.slice an aB.length ao : Value).ownBlock ∧ some k_ ≠ (.slice au aD.length av : Value).ownBlock ∧ some k_ ≠ (.slice aw aE.length ax : Value).ownBlock ∧ some k_ ≠ (.slice aG aO.length aH : Value).ownBlock ∧ some k_ ≠ (.slice aI aN.length aJ : Value).ownBlock ∧ some k_ ≠ (.slice aP aS.length aQ : Value).ownBlock) (.slice ap aC.length aq) aC) := ⟨(by rw [hw]; exact (by exact Kd.R_mono (Kd.R_step (Kd.R_types HO_486010.out aW.out (by decide)) (fun _ hk _ => far7 hk.2)) (fun _ hk => ⟨hk.1.1, ⟨hk.1.2.1, ⟨hk.1.2.2.1, ⟨hk.1.2.2.2.1, ⟨hk.1.2.2.2.2.1, ⟨hk.1.2.2.2.2.2.1, ⟨hk.1.2.2.2.2.2.2.1, hk.1.2.2.2.2.2.2.2⟩⟩⟩⟩⟩⟩⟩)))⟩; have n4_ : Aside0 (Kd.R (Kd.int .u8) 5 be w.heap.size (fun k_ => some k_ ≠ (.slice aj ar.length ak : Value).ownBlock ∧ some k_ ≠ (.slice am ac.length al : Value).ownBlock ∧ some k_ ≠ (.slice an aB.length ao : Value).ownBlock ∧ some k_ ≠ (.slice ap aC.length aq : Value).ownBlock ∧ some k_ ≠ (.slice aw aE.length ax : Value).ownBlock ∧ some k_ ≠ (.slice aG aO.length aH : Value).ownBlock ∧ some k_ ≠ (.slice aI aN.length aJ : Value).ownBlock ∧ some k_ ≠ (.slice aP aS.length aQ : Value).ownBlock) (.slice au aD.length av) aD) := ⟨(by rw [hw]; exact (by exact Kd.R_mono (Kd.R_step (Kd.R_types HO_505009.out aW.out (by decide)) (fun _ hk _ => far7 hk.2)) (fun _ hk => ⟨hk.1.1, ⟨hk.1.2.1, ⟨hk.1.2.2.1, ⟨hk.1.2.2.2.1, ⟨hk.1.2.2.2.2.1, ⟨hk.1.2.2.2.2.2.1, ⟨hk.1.2.2.2.2.2.2.1, hk.1.2.2.2.2.2.2.2⟩⟩⟩⟩⟩⟩⟩)))⟩; have n5_ : Aside0 (Kd.R (Kd.int .u8) 5 be w.heap.size (fun k_ => some k_ ≠ (.slice aj ar.length ak : Value).ownBlock ∧ some k_ ≠ (.slice am ac.length al : Value).ownBlock ∧ some k_ ≠ (.slice an aB.length ao : Value).ownBlock ∧ some k_ ≠ (.slice ap aC.length aq : Value).ownBlock ∧ some k_ ≠ (.slice au aD.length av : Value).ownBlock ∧ some k_ ≠ (.slice aG aO.length aH : Value).ownBlock ∧ some k_ ≠ (.slice aI aN.length aJ : Value).ownBlock ∧ some k_ ≠ (.slice aP aS.length aQ : Value).ownBlock) (.slice aw aE.length ax) aE) := ⟨(by rw [hw]; exact (by exact Kd.R_mono (Kd.R_step (Kd.R_types HO_505010.out aW.out (by decide)) (fun _ hk _ => far7 hk.2)) (fun _ hk => ⟨hk.1.1, ⟨hk.1.2.1, ⟨hk.1.2.2.1, ⟨hk.1.2.2.2.1, ⟨hk.1.2.2.2.2.1, ⟨hk.1.2.2.2.2.2.1, ⟨hk.1.2.2.2.2.2.2.1, hk.1.2.2.2.2.2.2.2⟩⟩⟩⟩⟩⟩⟩)))⟩; have n6_ : Aside0 (Kd.R (Kd.int .u8) 5 be w.heap.size (fun k_ => some k_ ≠ (.slice aj ar.length ak : Value).ownBlock ∧ some k_ ≠ (.slice am ac.length al : Value).ownBlock ∧ some k_ ≠ (.slice an aB.length ao : Value).ownBlock ∧ some k_ ≠ (.slice ap aC.length aq : Value).ownBlock ∧ some k_ ≠ (.slice au aD.length av : Value).ownBlock ∧ some k_ ≠ (.slice aw aE.length ax : Value).ownBlock ∧ some k_ ≠ (.slice aI aN.length aJ : Value).ownBlock ∧ some k_ ≠ (.slice aP aS.length aQ : Value).ownBlock) (.slice aG aO.length aH) aO) := ⟨(by rw [hw]; exact (by exact Kd.R_mono (Kd.R_step (Kd.R_types HO_526009.out aW.out (by decide)) (fun _ hk _ => far7 hk.2)) (fun _ hk => ⟨hk.1.1, ⟨hk.1.2.1, ⟨hk.1.2.2.1, ⟨hk.1.2.2.2.1, ⟨hk.1.2.2.2.2.1, ⟨hk.1.2.2.2.2.2.1, ⟨hk.1.2.2.2.2.2.2.1, hk.1.2.2.2.2.2.2.2⟩⟩⟩⟩⟩⟩⟩)))⟩; have n7_ : Aside0 (Kd.R (Kd.int .u8) 5 be w.heap.size (fun k_ => some k_ ≠ (.slice aj ar.length ak : Value).ownBlock ∧ some k_ ≠ (.slice am ac.length al : Value).ownBlock ∧ some k_ ≠ (.slice an aB.length ao : Value).ownBlock ∧ some k_ ≠ (.slice ap aC.length aq : Value).ownBlock ∧ some k_ ≠ (.slice au aD.length av : Value).ownBlock ∧ some k_ ≠ (.slice aw aE.length ax : Value).ownBlock ∧ some k_ ≠ (.slice aG aO.length aH : Value).ownBlock ∧ some k_ ≠ (.slice aP aS.length aQ : Value).ownBlock) (.slice aI aN.length aJ) aN) := ⟨(by rw [hw]; exact (by exact Kd.R_mono (Kd.R_step (Kd.R_types HO_526010.out aW.out (by decide)) (fun _ hk _ => far7 hk.2)) (fun _ hk => ⟨hk.1.1, ⟨hk.1.2.1, ⟨hk.1.2.2.1, ⟨hk.1.2.2.2.1, ⟨hk.1.2.2.2.2.1, ⟨hk.1.2.2.2.2.2.1, ⟨hk.1.2.2.2.2.2.2.1, hk.1.2.2.2.2.2.2.2⟩⟩⟩⟩⟩⟩⟩)))⟩; have n8_ : Aside0 (Kd.R (Kd.int .u8) 5 be w.heap.size (fun k_ => some k_ ≠ (.slice aj ar.length ak : Value).ownBlock ∧ some k_ ≠ (.slice am ac.length al : Value).ownBlock ∧ some k_ ≠ (.slice an aB.length ao : Value).ownBlock ∧ some k_ ≠ (.slice ap aC.length aq : Value).ownBlock ∧ some k_ ≠ (.slice au aD.length av : Value).ownBlock ∧ some k_ ≠ (.slice aw aE.length ax : Value).ownBlock ∧ some k_ ≠ (.slice aG aO.length aH : Value).ownBlock ∧ some k_ ≠ (.slice aI aN.length aJ : Value).ownBlock) (.slice aP aS.length aQ) aS) := ⟨(by rw [hw]; exact (by exact Kd.R_mono (Kd.R_step (Kd.R_types HO_534003.out aW.out (by decide)) (fun _ hk _ => far7 hk.2)) (fun _ hk => ⟨hk.1.1, ⟨hk.1.2.1, ⟨hk.1.2.2.1, ⟨hk.1.2.2.2.1, ⟨hk.1.2.2.2.2.1, ⟨hk.1.2.2.2.2.2.1, ⟨hk.1.2.2.2.2.2.2.1, hk.1.2.2.2.2.2.2.2⟩⟩⟩⟩⟩⟩⟩)))⟩; have n9_ : Aside0 (be.heap[aR]? = some (.cells #[.int .i64 a4, .int .i64 aX, .bool a5, .bool a6, .int .i64 a7, .int .i64 a8, .int .i64 aY, .int .i64 aU, .int .i64 aZ, .slice aj ar.length ak, .slice am ac.length al] 25 (0, 0))) := ⟨(by rw [hw]; exact (by refine (far7 eq.out).trans ?_; exact ab.out))⟩; have n10_ : Aside0 (be.heap[bk]? = some (.cells #[.int .i64 cg, .int .i64 ch, .bool ci, .bool cj, .int .i64 ck, .int .i64 cl, .int .i64 cm, .int .i64 cn, .int .i64 co, .slice an aB.length ao, .slice ap aC.length aq] 25 (0, 0))) := ⟨(by rw [hw]; exact (by refine (far7 er.out).trans ?_; exact af.out))⟩; have n11_ : Aside0 (be.heap[bd]? = some (.cells #[.int .i64 dj, .int .i64 dk, .bool dl, .bool dm, .int .i64 dn, .int .i64 dp, .int .i64 dq, .int .i64 dr, .int .i64 dt, .slice au aD.length av, .slice aw aE.length ax] 25 (0, 0))) := ⟨(by rw [hw]; exact (by refine (far7 es.out).trans ?_; exact ai.out))⟩; have n12_ : Aside0 (be.heap[cf]? = some (.cells #[.int .i64 cI, .int .i64 cJ, .bool cK, .bool cL, .int .i64 cM, .int .i64 cN, .int .i64 cO, .int .i64 bo, .int .i64 bp, .slice aG aO.length aH, .slice aI aN.length aJ] 25 (0, 0))) := ⟨(by rw [hw]; exact (by refine (far7 et.out).trans ?_; exact ay.out))⟩; have n13_ : Aside0 (be.heap[cr]? = some (.cells #[.int .i64 bh, .int .i64 bi, .int .i64 bj, .slice aP aS.length aQ] 52 (0, 0))) := ⟨(by rw [hw]; exact (by refine (far7 eu.out).trans ?_; exact aF.out))⟩; have n14_ : Aside0 (be.heap[bl]? = some (.cells #[.int .i64 dP, .int .i64 dQ, .int .i64 dR, .int .i64 dS, .int .i64 dU, .int .i64 gH, .int .i64 gI] 56 (0, 0))) := ⟨(by rw [hw]; exact (by apply set7; exact aW.out))⟩; have n15_ : Aside0 (Below w.heap.size w be) := ⟨(by rw [hw]; exact wB)⟩; clear hw; clear HO_469009; clear HO_469010; clear HO_486009; clear HO_486010; clear HO_505009; clear HO_505010; clear HO_526009; clear HO_526010; clear HO_534003; clear ab; clear af; clear ai; clear ay; clear aF; clear aW; clear HB; have HO_469009 := n0_; have HO_469010 := n1_; have HO_486009 := n2_; have HO_486010 := n3_; have HO_505009 := n4_; have HO_505010 := n5_; have HO_526009 := n6_; have HO_526010 := n7_; have HO_534003 := n8_; have ab := n9_; have af := n10_; have ai := n11_; have ay := n12_; have aF := n13_; have aW := n14_; have HB := n15_; clear n0_ n1_ n2_ n3_ n4_ n5_ n6_ n7_ n8_ n9_ n10_ n11_ n12_ n13_ n14_ n15_; have kl := cs.out; have km := d1.out; have lZ := ba.out; have l1 := bS.out; have l2 := ct.out; have l3 := d2.out; obtain ⟨⟨k9, la, lb, lc, ld, le, lf, lg, lh, lj, kT⟩, lk, ll, lm, ln, lo, lp, lq, lr, ls, lu, kU⟩ := cells11 ab.out))
 )
 {
 go_ret
 exact ⟨eR, wB⟩
 }
 {
 have n0_ := Aside0.mk (Kd.R_drew HO_469009.out)
 have n1_ := Aside0.mk (Kd.R_drew HO_469010.out)
 have n2_ := Aside0.mk (Kd.R_drew HO_486009.out)
 have n3_ := Aside0.mk (Kd.R_drew HO_486010.out)
 have n4_ := Aside0.mk (Kd.R_drew HO_505009.out)
 have n5_ := Aside0.mk (Kd.R_drew HO_505010.out)
 have n6_ := Aside0.mk (Kd.R_drew HO_526009.out)
 have n7_ := Aside0.mk (Kd.R_drew HO_526010.out)
 have n8_ := Aside0.mk (Kd.R_drew HO_534003.out)
 have n9_ := Aside0.mk (blk_drew ab.out)
 have n10_ := Aside0.mk (blk_drew af.out)
 have n11_ := Aside0.mk (blk_drew ai.out)
 have n12_ := Aside0.mk (blk_drew ay.out)
 have n13_ := Aside0.mk (blk_drew aF.out)
 have n14_ := Aside0.mk (blk_drew aW.out)
 have n15_ := Aside0.mk (below_drew1 HB.out)
 clear HO_469009
 clear HO_469010
 clear HO_486009
 clear HO_486010
 clear HO_505009
 clear HO_505010
 clear HO_526009
 clear HO_526010
 clear HO_534003
 clear ab
 clear af
 clear ai
 clear ay
 clear aF
 clear aW
 clear HB
 have HO_469009 := n0_
 have HO_469010 := n1_
 have HO_486009 := n2_
 have HO_486010 := n3_
 have HO_505009 := n4_
 have HO_505010 := n5_
 have HO_526009 := n6_
 have HO_526010 := n7_
 have HO_534003 := n8_
 have ab := n9_
 have af := n10_
 have ai := n11_
 have ay := n12_
 have aF := n13_
 have aW := n14_
 have HB := n15_
 clear n0_ n1_ n2_ n3_ n4_ n5_ n6_ n7_ n8_ n9_ n10_ n11_ n12_ n13_ n14_ n15_
 have p545 : 0 ≤ (0 : Int) := (by omega)
 have q545 : 0 < (ac.length : Int) := dT
 obtain ⟨ad545, e545, hx545_0⟩ := Kd.at_int (Kd.R_reads' HO_469010.out).2.2 0 p545 q545
 cases e545
 have qi545 : (0 < ac.length) = True := eq_true (by omega)
 (try rw [show ((0 : Int)).toNat = 0 from rfl] at hx545_0)
 (try rw [Addr.add_zero'] at hx545_0)
 replace p545 := eq_true p545
 replace q545 := eq_true q545
 have p546 : 0 ≤ (1 : Int) := (by omega)
 have q546 : 1 < (ac.length : Int) := dT
 obtain ⟨ad546, e546, hx546_0⟩ := Kd.at_int (Kd.R_reads' HO_469010.out).2.2 1 p546 q546
 obtain rfl : ad545 = ad546 := (by injection e546)
 (try simp only [show (1 : Int).toNat = 1 from rfl, Nat.reduceMul, Nat.reduceEqDiff, Go.Addr.add, ↓reduceIte] at hx546_0)
 have qi546 : (1 < ac.length) = True := eq_true (by omega)
 (try rw [show ((1 : Int)).toNat = 1 from rfl] at hx546_0)
 replace p546 := eq_true p546
 replace q546 := eq_true q546
 have p547 : 0 ≤ (2 : Int) := (by omega)
 have q547 : 2 < (ac.length : Int) := dT
 obtain ⟨ad547, e547, hx547_0⟩ := Kd.at_int (Kd.R_reads' HO_469010.out).2.2 2 p547 q547
 obtain rfl : ad545 = ad547 := (by injection e547)
 (try simp only [show (2 : Int).toNat = 2 from rfl, Nat.reduceMul, Nat.reduceEqDiff, Go.Addr.add, ↓reduceIte] at hx547_0)
 have qi547 : (2 < ac.length) = True := eq_true (by omega)
 (try rw [show ((2 : Int)).toNat = 2 from rfl] at hx547_0)
 replace p547 := eq_true p547
 replace q547 := eq_true q547
 have p548 : 0 ≤ (3 : Int) := (by omega)
 have q548 : 3 < (ac.length : Int) := dT
 obtain ⟨ad548, e548, hx548_0⟩ := Kd.at_int (Kd.R_reads' HO_469010.out).2.2 3 p548 q548
 obtain rfl : ad545 = ad548 := (by injection e548)
 (try simp only [show (3 : Int).toNat = 3 from rfl, Nat.reduceMul, Nat.reduceEqDiff, Go.Addr.add, ↓reduceIte] at hx548_0)
 have qi548 : (3 < ac.length) = True := eq_true (by omega)
 (try rw [show ((3 : Int)).toNat = 3 from rfl] at hx548_0)
 replace p548 := eq_true p548
 replace q548 := eq_true q548
 refine start_ (n := 65) (S := fun w' => w'.cell? ⟨bl, 0, none⟩ = some (.int .i64 dP) ∧ w'.cell? ⟨bl, 1, none⟩ = some (.int .i64 dQ) ∧ w'.cell? ⟨bl, 2, none⟩ = some (.int .i64 dR) ∧ w'.cell? ⟨bl, 3, none⟩ = some (.int .i64 dS) ∧ w'.cell? ⟨bl, 4, none⟩ = some (.int .i64 dU) ∧ w'.cell? ⟨bl, 5, none⟩ = some (.int .i64 gH) ∧ w'.cell? ⟨bl, 6, none⟩ = some (.int .i64 gI) ∧ w'.cell? ⟨aR, 0, none⟩ = some (.int .i64 a4) ∧ w'.cell? ⟨aR, 1, none⟩ = some (.int .i64 aX) ∧ w'.cell? ⟨aR, 2, none⟩ = some (.bool a5) ∧ w'.cell? ⟨aR, 3, none⟩ = some (.bool a6) ∧ w'.cell? ⟨aR, 4, none⟩ = some (.int .i64 a7) ∧ w'.cell? ⟨aR, 5, none⟩ = some (.int .i64 a8) ∧ w'.cell? ⟨aR, 6, none⟩ = some (.int .i64 aY) ∧ w'.cell? ⟨aR, 7, none⟩ = some (.int .i64 aU) ∧ w'.cell? ⟨aR, 8, none⟩ = some (.int .i64 aZ) ∧ w'.cell? ⟨aR, 9, none⟩ = some (.slice aj ar.length ak) ∧ w'.cell? ⟨aR, 10, none⟩ = some (.slice (some ad545) ac.length al) ∧ w'.cell? ad545 = some (.int .u8 (rd ac 0)) ∧ w'.cell? ⟨ad545.block, ad545.off + 1, none⟩ = some (.int .u8 (rd ac 1)) ∧ w'.cell? ⟨ad545.block, ad545.off + 2, none⟩ = some (.int .u8 (rd ac 2)) ∧ w'.cell? ⟨ad545.block, ad545.off + 3, none⟩ = some (.int .u8 (rd ac 3))) (ds := []) #[false, false, false, false, false, false, false, false, false, false, false, false, false, false, false, false, false, false, false, false, false, false, false, false, false, false, false, false, false, false, false, false, false, false, false, false, false, false, false, false, false, false, false, false, false, false, false, false, false, false, false, false, false, false, false, false, false, false, false, false, false, false, false, false, false] (by kernel_rfl) rfl rfl ⟨(blk_cell aW.out 0).trans rfl, (blk_cell aW.out 1).trans rfl, (blk_cell aW.out 2).trans rfl, (blk_cell aW.out 3).trans rfl, (blk_cell aW.out 4).trans rfl, (blk_cell aW.out 5).trans rfl, (blk_cell aW.out 6).trans rfl, (blk_cell ab.out 0).trans rfl, (blk_cell ab.out 1).trans rfl, (blk_cell ab.out 2).trans rfl, (blk_cell ab.out 3).trans rfl, (blk_cell ab.out 4).trans rfl, (blk_cell ab.out 5).trans rfl, (blk_cell ab.out 6).trans rfl, (blk_cell ab.out 7).trans rfl, (blk_cell ab.out 8).trans rfl, (blk_cell ab.out 9).trans rfl, (blk_cell ab.out 10).trans rfl, hx545_0, hx546_0, hx547_0, hx548_0⟩ (fun hHeld => ?_); refine with_tabW laws_FnComplain.tab20 laws_FnComplain.bits20 (fun HT_ HW_ => ?_)
 generalize be.drew = ml at HO_469009 HO_469010 HO_486009 HO_486010 HO_505009 HO_505010 HO_526009 HO_526010 HO_534003 ab af ai ay aF aW HB hx545_0 hx546_0 hx547_0 hx548_0 hHeld ⊢
 refine pure_ (i := 0) (N := some 138) (v := ?_) (a' := ?_) #[true, false, false, false, false, false, false, false, false, false, false, false, false, false, false, false, false, false, false, false, false, false, false, false, false, false, false, false, false, false, false, false, false, false, false, false, false, false, false, false, false, false, false, false, false, false, false, false, false, false, false, false, false, false, false, false, false, false, false, false, false, false, false, false, false] rfl rfl (any_of HT_.out (by kernel_rfl)) (fun _ _ _ h => h) (Or.inl ⟨by rfl, ?_⟩) ?_ ?_
 rotate_left
 {
 intro w'
 go_simp
 with_reducible rfl
 }
 rotate_left
 {
 simp only [Act.put, List.setIfInBounds_toArray, List.set_cons_zero, List.set_cons_succ, i64_w, i32_w]
 rfl
 }
 refine pure_ (i := 1) (N := some 139) (v := ?_) (a' := ?_) #[true, true, false, false, false, false, false, false, false, false, false, false, false, false, false, false, false, false, false, false, false, false, false, false, false, false, false, false, false, false, false, false, false, false, false, false, false, false, false, false, false, false, false, false, false, false, false, false, false, false, false, false, false, false, false, false, false, false, false, false, false, false, false, false, false] rfl rfl (any_of HT_.out (by kernel_rfl)) (fun _ _ _ h => h) (Or.inl ⟨by rfl, ?_⟩) ?_ ?_
 rotate_left
 {
 intro w'
 go_simp
 with_reducible rfl
 }
 rotate_left
 {
 simp only [Act.put, List.setIfInBounds_toArray, List.set_cons_zero, List.set_cons_succ, i64_w, i32_w]
 rfl
 }
 refine pure_ (i := 2) (N := some 140) (v := ?_) (a' := ?_) #[true, true, true, false, false, false, false, false, false, false, false, false, false, false, false, false, false, false, false, false, false, false, false, false, false, false, false, false, false, false, false, false, false, false, false, false, false, false, false, false, false, false, false, false, false, false, false, false, false, false, false, false, false, false, false, false, false, false, false, false, false, false, false, false, false] rfl rfl (any_of HT_.out (by kernel_rfl)) (fun _ _ _ h => h) (Or.inl ⟨by rfl, ?_⟩) ?_ ?_
 rotate_left
 {
 intro w'
 go_simp
 with_reducible rfl
 }
 rotate_left
 {
 simp only [Act.put, List.setIfInBounds_toArray, List.set_cons_zero, List.set_cons_succ, i64_w, i32_w]
 rfl
 }
 refine pure_ (i := 3) (N := some 141) (v := ?_) (a' := ?_) #[true, true, true, true, false, false, false, false, false, false, false, false, false, false, false, false, false, false, false, false, false, false, false, false, false, false, false, false, false, false, false, false, false, false, false, false, false, false, false, false, false, false, false, false, false, false, false, false, false, false, false, false, false, false, false, false, false, false, false, false, false, false, false, false, false] rfl rfl (any_of HT_.out (by kernel_rfl)) (fun _ _ _ h => h) (Or.inl ⟨by rfl, ?_⟩) ?_ ?_
 rotate_left
 {
 intro w'
 go_simp
 with_reducible rfl
 }
 rotate_left
 {
 simp only [Act.put, List.setIfInBounds_toArray, List.set_cons_zero, List.set_cons_succ, i64_w, i32_w]
 rfl
 }
 refine pure_ (i := 5) (N := some 143) (v := ?_) (a' := ?_) #[true, true, true, true, false, true, false, false, false, false, false, false, false, false, false, false, false, false, false, false, false, false, false, false, false, false, false, false, false, false, false, false, false, false, false, false, false, false, false, false, false, false, false, false, false, false, false, false, false, false, false, false, false, false, false, false, false, false, false, false, false, false, false, false, false] rfl rfl (any_of HT_.out (by kernel_rfl)) (fun _ _ _ h => h) (Or.inl ⟨by rfl, ?_⟩) ?_ ?_
 rotate_left
 {
 intro w'
 go_simp
 with_reducible rfl
 }
 rotate_left
 {
 simp only [Act.put, List.setIfInBounds_toArray, List.set_cons_zero, List.set_cons_succ, i64_w, i32_w]
 rfl
 }
 refine take_ (i := 4) (N := some 142) (v := ?_) (a' := ?_) #[true, true, true, true, true, true, false, false, false, false, false, false, false, false, false, false, false, false, false, false, false, false, false, false, false, false, false, false, false, false, false, false, false, false, false, false, false, false, false, false, false, false, false, false, false, false, false, false, false, false, false, false, false, false, false, false, false, false, false, false, false, false, false, false, false] rfl rfl (take_ofW HT_.out HW_.out (by kernel_rfl)) (fun _ _ _ h => h) (Or.inl ⟨by rfl, ?_⟩) hHeld ?_ ?_
 rotate_left
 {
 rintro w' ⟨s0, s1, s2, s3, s4, s5, s6, s7, s8, s9, ce, cx, cy, cz, cA, cB, cC, cD, cE, cF, cG, cH⟩
 go_simp
 with_reducible rfl
 }
 rotate_left
 {
 simp only [Act.put, List.setIfInBounds_toArray, List.set_cons_zero, List.set_cons_succ, i64_w, i32_w]
 rfl
 }
 refine take_ (i := 6) (N := some 144) (v := ?_) (a' := ?_) #[true, true, true, true, true, true, true, false, false, false, false, false, false, false, false, false, false, false, false, false, false, false, false, false, false, false, false, false, false, false, false, false, false, false, false, false, false, false, false, false, false, false, false, false, false, false, false, false, false, false, false, false, false, false, false, false, false, false, false, false, false, false, false, false, false] rfl rfl (take_ofW HT_.out HW_.out (by kernel_rfl)) (fun _ _ _ h => h) (Or.inl ⟨by rfl, ?_⟩) hHeld ?_ ?_
 rotate_left
 {
 rintro w' ⟨s0, s1, s2, s3, s4, s5, s6, s7, s8, s9, ce, cx, cy, cz, cA, cB, cC, cD, cE, cF, cG, cH⟩
 go_simp
 with_reducible rfl
 }
 rotate_left
 {
 simp only [Act.put, List.setIfInBounds_toArray, List.set_cons_zero, List.set_cons_succ, i64_w, i32_w]
 rfl
 }
 refine pure_ (i := 7) (N := some 145) (v := ?_) (a' := ?_) #[true, true, true, true, true, true, true, true, false, false, false, false, false, false, false, false, false, false, false, false, false, false, false, false, false, false, false, false, false, false, false, false, false, false, false, false, false, false, false, false, false, false, false, false, false, false, false, false, false, false, false, false, false, false, false, false, false, false, false, false, false, false, false, false, false] rfl rfl (any_of HT_.out (by kernel_rfl)) (fun _ _ _ h => h) (Or.inl ⟨by rfl, ?_⟩) ?_ ?_
 rotate_left
 {
 intro w'
 go_simp
 with_reducible rfl
 }
 rotate_left
 {
 simp only [Act.put, List.setIfInBounds_toArray, List.set_cons_zero, List.set_cons_succ, i64_w, i32_w]
 rfl
 }
 refine pure_ (i := 8) (N := some 146) (v := ?_) (a' := ?_) #[true, true, true, true, true, true, true, true, true, false, false, false, false, false, false, false, false, false, false, false, false, false, false, false, false, false, false, false, false, false, false, false, false, false, false, false, false, false, false, false, false, false, false, false, false, false, false, false, false, false, false, false, false, false, false, false, false, false, false, false, false, false, false, false, false] rfl rfl (any_of HT_.out (by kernel_rfl)) (fun _ _ _ h => h) (Or.inl ⟨by rfl, ?_⟩) ?_ ?_
 rotate_left
 {
 intro w'
 go_simp
 with_reducible rfl
 }
 rotate_left
 {
 simp only [Act.put, List.setIfInBounds_toArray, List.set_cons_zero, List.set_cons_succ, i64_w, i32_w]
 rfl
 }
 refine pure_ (i := 9) (N := some 147) (v := ?_) (a' := ?_) #[true, true, true, true, true, true, true, true, true, true, false, false, false, false, false, false, false, false, false, false, false, false, false, false, false, false, false, false, false, false, false, false, false, false, false, false, false, false, false, false, false, false, false, false, false, false, false, false, false, false, false, false, false, false, false, false, false, false, false, false, false, false, false, false, false] rfl rfl (any_of HT_.out (by kernel_rfl)) (fun _ _ _ h => h) (Or.inl ⟨by rfl, ?_⟩) ?_ ?_
 rotate_left
 {
 intro w'
 go_simp
 with_reducible rfl
 }
 rotate_left
 {
 simp only [Act.put, List.setIfInBounds_toArray, List.set_cons_zero, List.set_cons_succ, i64_w, i32_w]
 rfl
 }
 refine pure_ (i := 10) (N := some 148) (v := ?_) (a' := ?_) #[true, true, true, true, true, true, true, true, true, true, true, false, false, false, false, false, false, false, false, false, false, false, false, false, false, false, false, false, false, false, false, false, false, false, false, false, false, false, false, false, false, false, false, false, false, false, false, false, false, false, false, false, false, false, false, false, false, false, false, false, false, false, false, false, false] rfl rfl (any_of HT_.out (by kernel_rfl)) (fun _ _ _ h => h) (Or.inl ⟨by rfl, ?_⟩) ?_ ?_
 rotate_left
 {
 intro w'
 go_simp
 with_reducible rfl
 }
 rotate_left
 {
 simp only [Act.put, List.setIfInBounds_toArray, List.set_cons_zero, List.set_cons_succ, i64_w, i32_w]
 rfl
 }
 refine pure_ (i := 12) (N := some 150) (v := ?_) (a' := ?_) #[true, true, true, true, true, true, true, true, true, true, true, false, true, false, false, false, false, false, false, false, false, false, false, false, false, false, false, false, false, false, false, false, false, false, false, false, false, false, false, false, false, false, false, false, false, false, false, false, false, false, false, false, false, false, false, false, false, false, false, false, false, false, false, false, false] rfl rfl (any_of HT_.out (by kernel_rfl)) (fun _ _ _ h => h) (Or.inl ⟨by rfl, ?_⟩) ?_ ?_
 rotate_left
 {
 intro w'
 go_simp
 with_reducible rfl
 }
 rotate_left
 {
 simp only [Act.put, List.setIfInBounds_toArray, List.set_cons_zero, List.set_cons_succ, i64_w, i32_w]
 rfl
 }
 refine take_ (i := 11) (N := some 149) (v := ?_) (a' := ?_) #[true, true, true, true, true, true, true, true, true, true, true, true, true, false, false, false, false, false, false, false, false, false, false, false, false, false, false, false, false, false, false, false, false, false, false, false, false, false, false, false, false, false, false, false, false, false, false, false, false, false, false, false, false, false, false, false, false, false, false, false, false, false, false, false, false] rfl rfl (take_ofW HT_.out HW_.out (by kernel_rfl)) (fun _ _ _ h => h) (Or.inl ⟨by rfl, ?_⟩) hHeld ?_ ?_
 rotate_left
 {
 rintro w' ⟨s0, s1, s2, s3, s4, s5, s6, s7, s8, s9, ce, cx, cy, cz, cA, cB, cC, cD, cE, cF, cG, cH⟩
 go_simp
 with_reducible rfl
 }
 rotate_left
 {
 simp only [Act.put, List.setIfInBounds_toArray, List.set_cons_zero, List.set_cons_succ, i64_w, i32_w]
 rfl
 }
 refine take_ (i := 13) (N := some 151) (v := ?_) (a' := ?_) #[true, true, true, true, true, true, true, true, true, true, true, true, true, true, false, false, false, false, false, false, false, false, false, false, false, false, false, false, false, false, false, false, false, false, false, false, false, false, false, false, false, false, false, false, false, false, false, false, false, false, false, false, false, false, false, false, false, false, false, false, false, false, false, false, false] rfl rfl (take_ofW HT_.out HW_.out (by kernel_rfl)) (fun _ _ _ h => h) (Or.inl ⟨by rfl, ?_⟩) hHeld ?_ ?_
 rotate_left
 {
 rintro w' ⟨s0, s1, s2, s3, s4, s5, s6, s7, s8, s9, ce, cx, cy, cz, cA, cB, cC, cD, cE, cF, cG, cH⟩
 go_simp
 with_reducible rfl
 }
 rotate_left
 {
 simp only [Act.put, List.setIfInBounds_toArray, List.set_cons_zero, List.set_cons_succ, i64_w, i32_w]
 rfl
 }
 refine pure_ (i := 14) (N := some 152) (v := ?_) (a' := ?_) #[true, true, true, true, true, true, true, true, true, true, true, true, true, true, true, false, false, false, false, false, false, false, false, false, false, false, false, false, false, false, false, false, false, false, false, false, false, false, false, false, false, false, false, false, false, false, false, false, false, false, false, false, false, false, false, false, false, false, false, false, false, false, false, false, false] rfl rfl (any_of HT_.out (by kernel_rfl)) (fun _ _ _ h => h) (Or.inl ⟨by rfl, ?_⟩) ?_ ?_
 rotate_left
 {
 intro w'
 go_simp
 with_reducible rfl
 }
 rotate_left
 {
 simp only [Act.put, List.setIfInBounds_toArray, List.set_cons_zero, List.set_cons_succ, i64_w, i32_w]
 rfl
 }
 refine pure_ (i := 15) (N := some 153) (v := ?_) (a' := ?_) #[true, true, true, true, true, true, true, true, true, true, true, true, true, true, true, true, false, false, false, false, false, false, false, false, false, false, false, false, false, false, false, false, false, false, false, false, false, false, false, false, false, false, false, false, false, false, false, false, false, false, false, false, false, false, false, false, false, false, false, false, false, false, false, false, false] rfl rfl (any_of HT_.out (by kernel_rfl)) (fun _ _ _ h => h) (Or.inl ⟨by rfl, ?_⟩) ?_ ?_
 rotate_left
 {
 intro w'
 go_simp
 with_reducible rfl
 }
 rotate_left
 {
 simp only [Act.put, List.setIfInBounds_toArray, List.set_cons_zero, List.set_cons_succ, i64_w, i32_w]
 rfl
 }
 refine pure_ (i := 16) (N := some 154) (v := ?_) (a' := ?_) #[true, true, true, true, true, true, true, true, true, true, true, true, true, true, true, true, true, false, false, false, false, false, false, false, false, false, false, false, false, false, false, false, false, false, false, false, false, false, false, false, false, false, false, false, false, false, false, false, false, false, false, false, false, false, false, false, false, false, false, false, false, false, false, false, false] rfl rfl (any_of HT_.out (by kernel_rfl)) (fun _ _ _ h => h) (Or.inl ⟨by rfl, ?_⟩) ?_ ?_
 rotate_left
 {
 intro w'
 go_simp
 with_reducible rfl
 }
 rotate_left
 {
 simp only [Act.put, List.setIfInBounds_toArray, List.set_cons_zero, List.set_cons_succ, i64_w, i32_w]
 rfl
 }
 refine pure_ (i := 17) (N := some 155) (v := ?_) (a' := ?_) #[true, true, true, true, true, true, true, true, true, true, true, true, true, true, true, true, true, true, false, false, false, false, false, false, false, false, false, false, false, false, false, false, false, false, false, false, false, false, false, false, false, false, false, false, false, false, false, false, false, false, false, false, false, false, false, false, false, false, false, false, false, false, false, false, false] rfl rfl (any_of HT_.out (by kernel_rfl)) (fun _ _ _ h => h) (Or.inl ⟨by rfl, ?_⟩) ?_ ?_
 rotate_left
 {
 intro w'
 go_simp
 with_reducible rfl
 }
 rotate_left
 {
 simp only [Act.put, List.setIfInBounds_toArray, List.set_cons_zero, List.set_cons_succ, i64_w, i32_w]
 rfl
 }
 refine pure_ (i := 19) (N := some 157) (v := ?_) (a' := ?_) #[true, true, true, true, true, true, true, true, true, true, true, true, true, true, true, true, true, true, false, true, false, false, false, false, false, false, false, false, false, false, false, false, false, false, false, false, false, false, false, false, false, false, false, false, false, false, false, false, false, false, false, false, false, false, false, false, false, false, false, false, false, false, false, false, false] rfl rfl (any_of HT_.out (by kernel_rfl)) (fun _ _ _ h => h) (Or.inl ⟨by rfl, ?_⟩) ?_ ?_
 rotate_left
 {
 intro w'
 go_simp
 with_reducible rfl
 }
 rotate_left
 {
 simp only [Act.put, List.setIfInBounds_toArray, List.set_cons_zero, List.set_cons_succ, i64_w, i32_w]
 rfl
 }
 refine take_ (i := 18) (N := some 156) (v := ?_) (a' := ?_) #[true, true, true, true, true, true, true, true, true, true, true, true, true, true, true, true, true, true, true, true, false, false, false, false, false, false, false, false, false, false, false, false, false, false, false, false, false, false, false, false, false, false, false, false, false, false, false, false, false, false, false, false, false, false, false, false, false, false, false, false, false, false, false, false, false] rfl rfl (take_ofW HT_.out HW_.out (by kernel_rfl)) (fun _ _ _ h => h) (Or.inl ⟨by rfl, ?_⟩) hHeld ?_ ?_
 rotate_left
 {
 rintro w' ⟨s0, s1, s2, s3, s4, s5, s6, s7, s8, s9, ce, cx, cy, cz, cA, cB, cC, cD, cE, cF, cG, cH⟩
 go_simp
 with_reducible rfl
 }
 rotate_left
 {
 simp only [Act.put, List.setIfInBounds_toArray, List.set_cons_zero, List.set_cons_succ, i64_w, i32_w]
 rfl
 }
 refine take_ (i := 20) (N := some 158) (v := ?_) (a' := ?_) #[true, true, true, true, true, true, true, true, true, true, true, true, true, true, true, true, true, true, true, true, true, false, false, false, false, false, false, false, false, false, false, false, false, false, false, false, false, false, false, false, false, false, false, false, false, false, false, false, false, false, false, false, false, false, false, false, false, false, false, false, false, false, false, false, false] rfl rfl (take_ofW HT_.out HW_.out (by kernel_rfl)) (fun _ _ _ h => h) (Or.inl ⟨by rfl, ?_⟩) hHeld ?_ ?_
 rotate_left
 {
 rintro w' ⟨s0, s1, s2, s3, s4, s5, s6, s7, s8, s9, ce, cx, cy, cz, cA, cB, cC, cD, cE, cF, cG, cH⟩
 go_simp
 with_reducible rfl
 }
 rotate_left
 {
 simp only [Act.put, List.setIfInBounds_toArray, List.set_cons_zero, List.set_cons_succ, i64_w, i32_w]
 rfl
 }
 refine pure_ (i := 21) (N := some 159) (v := ?_) (a' := ?_) #[true, true, true, true, true, true, true, true, true, true, true, true, true, true, true, true, true, true, true, true, true, true, false, false, false, false, false, false, false, false, false, false, false, false, false, false, false, false, false, false, false, false, false, false, false, false, false, false, false, false, false, false, false, false, false, false, false, false, false, false, false, false, false, false, false] rfl rfl (any_of HT_.out (by kernel_rfl)) (fun _ _ _ h => h) (Or.inl ⟨by rfl, ?_⟩) ?_ ?_
 rotate_left
 {
 intro w'
 go_simp
 with_reducible rfl
 }
 rotate_left
 {
 simp only [Act.put, List.setIfInBounds_toArray, List.set_cons_zero, List.set_cons_succ, i64_w, i32_w]
 rfl
 }
 refine pure_ (i := 22) (N := some 160) (v := ?_) (a' := ?_) #[true, true, true, true, true, true, true, true, true, true, true, true, true, true, true, true, true, true, true, true, true, true, true, false, false, false, false, false, false, false, false, false, false, false, false, false, false, false, false, false, false, false, false, false, false, false, false, false, false, false, false, false, false, false, false, false, false, false, false, false, false, false, false, false, false] rfl rfl (any_of HT_.out (by kernel_rfl)) (fun _ _ _ h => h) (Or.inl ⟨by rfl, ?_⟩) ?_ ?_
 rotate_left
 {
 intro w'
 go_simp
 with_reducible rfl
 }
 rotate_left
 {
 simp only [Act.put, List.setIfInBounds_toArray, List.set_cons_zero, List.set_cons_succ, i64_w, i32_w]
 rfl
 }
 refine pure_ (i := 23) (N := some 161) (v := ?_) (a' := ?_) #[true, true, true, true, true, true, true, true, true, true, true, true, true, true, true, true, true, true, true, true, true, true, true, true, false, false, false, false, false, false, false, false, false, false, false, false, false, false, false, false, false, false, false, false, false, false, false, false, false, false, false, false, false, false, false, false, false, false, false, false, false, false, false, false, false] rfl rfl (any_of HT_.out (by kernel_rfl)) (fun _ _ _ h => h) (Or.inl ⟨by rfl, ?_⟩) ?_ ?_
 rotate_left
 {
 intro w'
 go_simp
 with_reducible rfl
 }
 rotate_left
 {
 simp only [Act.put, List.setIfInBounds_toArray, List.set_cons_zero, List.set_cons_succ, i64_w, i32_w]
 rfl
 }
 refine pure_ (i := 24) (N := some 162) (v := ?_) (a' := ?_) #[true, true, true, true, true, true, true, true, true, true, true, true, true, true, true, true, true, true, true, true, true, true, true, true, true, false, false, false, false, false, false, false, false, false, false, false, false, false, false, false, false, false, false, false, false, false, false, false, false, false, false, false, false, false, false, false, false, false, false, false, false, false, false, false, false] rfl rfl (any_of HT_.out (by kernel_rfl)) (fun _ _ _ h => h) (Or.inl ⟨by rfl, ?_⟩) ?_ ?_
 rotate_left
 {
 intro w'
 go_simp
 with_reducible rfl
 }
 rotate_left
 {
 simp only [Act.put, List.setIfInBounds_toArray, List.set_cons_zero, List.set_cons_succ, i64_w, i32_w]
 rfl
 }
 refine pure_ (i := 26) (N := some 164) (v := ?_) (a' := ?_) #[true, true, true, true, true, true, true, true, true, true, true, true, true, true, true, true, true, true, true, true, true, true, true, true, true, false, true, false, false, false, false, false, false, false, false, false, false, false, false, false, false, false, false, false, false, false, false, false, false, false, false, false, false, false, false, false, false, false, false, false, false, false, false, false, false] rfl rfl (any_of HT_.out (by kernel_rfl)) (fun _ _ _ h => h) (Or.inl ⟨by rfl, ?_⟩) ?_ ?_
 rotate_left
 {
 intro w'
 go_simp
 with_reducible rfl
 }
 rotate_left
 {
 simp only [Act.put, List.setIfInBounds_toArray, List.set_cons_zero, List.set_cons_succ, i64_w, i32_w]
 rfl
 }
 refine take_ (i := 25) (N := some 163) (v := ?_) (a' := ?_) #[true, true, true, true, true, true, true, true, true, true, true, true, true, true, true, true, true, true, true, true, true, true, true, true, true, true, true, false, false, false, false, false, false, false, false, false, false, false, false, false, false, false, false, false, false, false, false, false, false, false, false, false, false, false, false, false, false, false, false, false, false, false, false, false, false] rfl rfl (take_ofW HT_.out HW_.out (by kernel_rfl)) (fun _ _ _ h => h) (Or.inl ⟨by rfl, ?_⟩) hHeld ?_ ?_
 rotate_left
 {
 rintro w' ⟨s0, s1, s2, s3, s4, s5, s6, s7, s8, s9, ce, cx, cy, cz, cA, cB, cC, cD, cE, cF, cG, cH⟩
 go_simp
 with_reducible rfl
 }
 rotate_left
 {
 simp only [Act.put, List.setIfInBounds_toArray, List.set_cons_zero, List.set_cons_succ, i64_w, i32_w]
 rfl
 }
 refine take_ (i := 27) (N := some 165) (v := ?_) (a' := ?_) #[true, true, true, true, true, true, true, true, true, true, true, true, true, true, true, true, true, true, true, true, true, true, true, true, true, true, true, true, false, false, false, false, false, false, false, false, false, false, false, false, false, false, false, false, false, false, false, false, false, false, false, false, false, false, false, false, false, false, false, false, false, false, false, false, false] rfl rfl (take_ofW HT_.out HW_.out (by kernel_rfl)) (fun _ _ _ h => h) (Or.inl ⟨by rfl, ?_⟩) hHeld ?_ ?_
 rotate_left
 {
 rintro w' ⟨s0, s1, s2, s3, s4, s5, s6, s7, s8, s9, ce, cx, cy, cz, cA, cB, cC, cD, cE, cF, cG, cH⟩
 go_simp
 with_reducible rfl
 }
 rotate_left
 {
 simp only [Act.put, List.setIfInBounds_toArray, List.set_cons_zero, List.set_cons_succ, i64_w, i32_w]
 rfl
 }
 refine pure_ (i := 28) (N := some 166) (v := ?_) (a' := ?_) #[true, true, true, true, true, true, true, true, true, true, true, true, true, true, true, true, true, true, true, true, true, true, true, true, true, true, true, true, true, false, false, false, false, false, false, false, false, false, false, false, false, false, false, false, false, false, false, false, false, false, false, false, false, false, false, false, false, false, false, false, false, false, false, false, false] rfl rfl (any_of HT_.out (by kernel_rfl)) (fun _ _ _ h => h) (Or.inl ⟨by rfl, ?_⟩) ?_ ?_
 rotate_left
 {
 intro w'
 go_simp
 with_reducible rfl
 }
 rotate_left
 {
 simp only [Act.put, List.setIfInBounds_toArray, List.set_cons_zero, List.set_cons_succ, i64_w, i32_w]
 rfl
 }
 refine pure_ (i := 29) (N := some 167) (v := ?_) (a' := ?_) #[true, true, true, true, true, true, true, true, true, true, true, true, true, true, true, true, true, true, true, true, true, true, true, true, true, true, true, true, true, true, false, false, false, false, false, false, false, false, false, false, false, false, false, false, false, false, false, false, false, false, false, false, false, false, false, false, false, false, false, false, false, false, false, false, false] rfl rfl (any_of HT_.out (by kernel_rfl)) (fun _ _ _ h => h) (Or.inl ⟨by rfl, ?_⟩) ?_ ?_
 rotate_left
 {
 intro w'
 go_simp
 with_reducible rfl
 }
 rotate_left
 {
 simp only [Act.put, List.setIfInBounds_toArray, List.set_cons_zero, List.set_cons_succ, i64_w, i32_w]
 rfl
 }
 refine pure_ (i := 30) (N := some 168) (v := ?_) (a' := ?_) #[true, true, true, true, true, true, true, true, true, true, true, true, true, true, true, true, true, true, true, true, true, true, true, true, true, true, true, true, true, true, true, false, false, false, false, false, false, false, false, false, false, false, false, false, false, false, false, false, false, false, false, false, false, false, false, false, false, false, false, false, false, false, false, false, false] rfl rfl (any_of HT_.out (by kernel_rfl)) (fun _ _ _ h => h) (Or.inl ⟨by rfl, ?_⟩) ?_ ?_
 rotate_left
 {
 intro w'
 go_simp
 with_reducible rfl
 }
 rotate_left
 {
 simp only [Act.put, List.setIfInBounds_toArray, List.set_cons_zero, List.set_cons_succ, i64_w, i32_w]
 rfl
 }
 refine pure_ (i := 31) (N := some 169) (v := ?_) (a' := ?_) #[true, true, true, true, true, true, true, true, true, true, true, true, true, true, true, true, true, true, true, true, true, true, true, true, true, true, true, true, true, true, true, true, false, false, false, false, false, false, false, false, false, false, false, false, false, false, false, false, false, false, false, false, false, false, false, false, false, false, false, false, false, false, false, false, false] rfl rfl (any_of HT_.out (by kernel_rfl)) (fun _ _ _ h => h) (Or.inl ⟨by rfl, ?_⟩) ?_ ?_
 rotate_left
 {
 intro w'
 go_simp
 with_reducible rfl
 }
 rotate_left
 {
 simp only [Act.put, List.setIfInBounds_toArray, List.set_cons_zero, List.set_cons_succ, i64_w, i32_w]
 rfl
 }
 refine pure_ (i := 33) (N := some 171) (v := ?_) (a' := ?_) #[true, true, true, true, true, true, true, true, true, true, true, true, true, true, true, true, true, true, true, true, true, true, true, true, true, true, true, true, true, true, true, true, false, true, false, false, false, false, false, false, false, false, false, false, false, false, false, false, false, false, false, false, false, false, false, false, false, false, false, false, false, false, false, false, false] rfl rfl (any_of HT_.out (by kernel_rfl)) (fun _ _ _ h => h) (Or.inl ⟨by rfl, ?_⟩) ?_ ?_
 rotate_left
 {
 intro w'
 go_simp
 with_reducible rfl
 }
 rotate_left
 {
 simp only [Act.put, List.setIfInBounds_toArray, List.set_cons_zero, List.set_cons_succ, i64_w, i32_w]
 rfl
 }
 refine pure_ (i := 39) (N := some 177) (v := ?_) (a' := ?_) #[true, true, true, true, true, true, true, true, true, true, true, true, true, true, true, true, true, true, true, true, true, true, true, true, true, true, true, true, true, true, true, true, false, true, false, false, false, false, false, true, false, false, false, false, false, false, false, false, false, false, false, false, false, false, false, false, false, false, false, false, false, false, false, false, false] rfl rfl (any_of HT_.out (by kernel_rfl)) (fun _ _ _ h => h) (Or.inl ⟨by rfl, ?_⟩) ?_ ?_
 rotate_left
 {
 intro w'
 go_simp
 with_reducible rfl
 }
 rotate_left
 {
 simp only [Act.put, List.setIfInBounds_toArray, List.set_cons_zero, List.set_cons_succ, i64_w, i32_w]
 rfl
 }
 refine take_ (i := 32) (N := some 170) (v := ?_) (a' := ?_) #[true, true, true, true, true, true, true, true, true, true, true, true, true, true, true, true, true, true, true, true, true, true, true, true, true, true, true, true, true, true, true, true, true, true, false, false, false, false, false, true, false, false, false, false, false, false, false, false, false, false, false, false, false, false, false, false, false, false, false, false, false, false, false, false, false] rfl rfl (take_ofW HT_.out HW_.out (by kernel_rfl)) (fun _ _ _ h => h) (Or.inl ⟨by rfl, ?_⟩) hHeld ?_ ?_
 rotate_left
 {
 rintro w' ⟨s0, s1, s2, s3, s4, s5, s6, s7, s8, s9, ce, cx, cy, cz, cA, cB, cC, cD, cE, cF, cG, cH⟩
 go_simp
 with_reducible rfl
 }
 rotate_left
 {
 simp only [Act.put, List.setIfInBounds_toArray, List.set_cons_zero, List.set_cons_succ, i64_w, i32_w]
 rfl
 }
 refine take_ (i := 34) (N := some 172) (v := ?_) (a' := ?_) #[true, true, true, true, true, true, true, true, true, true, true, true, true, true, true, true, true, true, true, true, true, true, true, true, true, true, true, true, true, true, true, true, true, true, true, false, false, false, false, true, false, false, false, false, false, false, false, false, false, false, false, false, false, false, false, false, false, false, false, false, false, false, false, false, false] rfl rfl (take_ofW HT_.out HW_.out (by kernel_rfl)) (fun _ _ _ h => h) (Or.inl ⟨by rfl, ?_⟩) hHeld ?_ ?_
 rotate_left
 {
 rintro w' ⟨s0, s1, s2, s3, s4, s5, s6, s7, s8, s9, ce, cx, cy, cz, cA, cB, cC, cD, cE, cF, cG, cH⟩
 go_simp
 with_reducible rfl
 }
 rotate_left
 {
 simp only [Act.put, List.setIfInBounds_toArray, List.set_cons_zero, List.set_cons_succ, i64_w, i32_w]
 rfl
 }
 refine pure_ (i := 35) (N := some 173) (v := ?_) (a' := ?_) #[true, true, true, true, true, true, true, true, true, true, true, true, true, true, true, true, true, true, true, true, true, true, true, true, true, true, true, true, true, true, true, true, true, true, true, true, false, false, false, true, false, false, false, false, false, false, false, false, false, false, false, false, false, false, false, false, false, false, false, false, false, false, false, false, false] rfl rfl (any_of HT_.out (by kernel_rfl)) (fun _ _ _ h => h) (Or.inl ⟨by rfl, ?_⟩) ?_ ?_
 rotate_left
 {
 intro w'
 go_simp
 with_reducible rfl
 }
 rotate_left
 {
 simp only [Act.put, List.setIfInBounds_toArray, List.set_cons_zero, List.set_cons_succ, i64_w, i32_w]
 rfl
 }
 refine take_ (i := 36) (N := some 174) (v := ?_) (a' := ?_) #[true, true, true, true, true, true, true, true, true, true, true, true, true, true, true, true, true, true, true, true, true, true, true, true, true, true, true, true, true, true, true, true, true, true, true, true, true, false, false, true, false, false, false, false, false, false, false, false, false, false, false, false, false, false, false, false, false, false, false, false, false, false, false, false, false] rfl rfl (take_ofW HT_.out HW_.out (by kernel_rfl)) (fun _ _ _ h => h) (Or.inl ⟨by rfl, ?_⟩) hHeld ?_ ?_
 rotate_left
 {
 rintro w' ⟨s0, s1, s2, s3, s4, s5, s6, s7, s8, s9, ce, cx, cy, cz, cA, cB, cC, cD, cE, cF, cG, cH⟩
 go_simp
 with_reducible rfl
 }
 rotate_left
 {
 simp only [Act.put, List.setIfInBounds_toArray, List.set_cons_zero, List.set_cons_succ, i64_w, i32_w]
 rfl
 }
 refine pure_ (i := 37) (N := some 175) (v := ?_) (a' := ?_) #[true, true, true, true, true, true, true, true, true, true, true, true, true, true, true, true, true, true, true, true, true, true, true, true, true, true, true, true, true, true, true, true, true, true, true, true, true, true, false, true, false, false, false, false, false, false, false, false, false, false, false, false, false, false, false, false, false, false, false, false, false, false, false, false, false] rfl rfl (any_of HT_.out (by kernel_rfl)) (fun _ _ _ h => h) (Or.inl ⟨by rfl, ?_⟩) ?_ ?_
 rotate_left
 {
 intro w'
 go_simp
 with_reducible rfl
 }
 rotate_left
 {
 simp only [Act.put, List.setIfInBounds_toArray, List.set_cons_zero, List.set_cons_succ, i64_w, i32_w]
 rfl
 }
 refine pure_ (i := 38) (N := some 176) (v := ?_) (a' := ?_) #[true, true, true, true, true, true, true, true, true, true, true, true, true, true, true, true, true, true, true, true, true, true, true, true, true, true, true, true, true, true, true, true, true, true, true, true, true, true, true, true, false, false, false, false, false, false, false, false, false, false, false, false, false, false, false, false, false, false, false, false, false, false, false, false, false] rfl rfl (any_of HT_.out (by kernel_rfl)) (fun _ _ _ h => h) (Or.inl ⟨by rfl, ?_⟩) ?_ ?_
 rotate_left
 {
 intro w'
 go_simp
 with_reducible rfl
 }
 rotate_left
 {
 simp only [Act.put, List.setIfInBounds_toArray, List.set_cons_zero, List.set_cons_succ, i64_w, i32_w]
 rfl
 }
 refine take_ (i := 40) (N := some 178) (v := ?_) (a' := ?_) #[true, true, true, true, true, true, true, true, true, true, true, true, true, true, true, true, true, true, true, true, true, true, true, true, true, true, true, true, true, true, true, true, true, true, true, true, true, true, true, true, true, false, false, false, false, false, false, false, false, false, false, false, false, false, false, false, false, false, false, false, false, false, false, false, false] rfl rfl (take_ofW HT_.out HW_.out (by kernel_rfl)) (fun _ _ _ h => h) (Or.inl ⟨by rfl, ?_⟩) hHeld ?_ ?_
 rotate_left
 {
 rintro w' ⟨s0, s1, s2, s3, s4, s5, s6, s7, s8, s9, ce, cx, cy, cz, cA, cB, cC, cD, cE, cF, cG, cH⟩
 go_simp
 with_reducible rfl
 }
 rotate_left
 {
 simp only [Act.put, List.setIfInBounds_toArray, List.set_cons_zero, List.set_cons_succ, i64_w, i32_w]
 rfl
 }
 refine pure_ (i := 41) (N := some 179) (v := ?_) (a' := ?_) #[true, true, true, true, true, true, true, true, true, true, true, true, true, true, true, true, true, true, true, true, true, true, true, true, true, true, true, true, true, true, true, true, true, true, true, true, true, true, true, true, true, true, false, false, false, false, false, false, false, false, false, false, false, false, false, false, false, false, false, false, false, false, false, false, false] rfl rfl (any_of HT_.out (by kernel_rfl)) (fun _ _ _ h => h) (Or.inl ⟨by rfl, ?_⟩) ?_ ?_
 rotate_left
 {
 intro w'
 go_simp
 with_reducible rfl
 }
 rotate_left
 {
 simp only [Act.put, List.setIfInBounds_toArray, List.set_cons_zero, List.set_cons_succ, i64_w, i32_w]
 rfl
 }
 refine take_ (i := 42) (N := some 180) (v := ?_) (a' := ?_) #[true, true, true, true, true, true, true, true, true, true, true, true, true, true, true, true, true, true, true, true, true, true, true, true, true, true, true, true, true, true, true, true, true, true, true, true, true, true, true, true, true, true, true, false, false, false, false, false, false, false, false, false, false, false, false, false, false, false, false, false, false, false, false, false, false] rfl rfl (take_ofW HT_.out HW_.out (by kernel_rfl)) (fun _ _ _ h => h) (Or.inl ⟨by rfl, ?_⟩) hHeld ?_ ?_
 rotate_left
 {
 rintro w' ⟨s0, s1, s2, s3, s4, s5, s6, s7, s8, s9, ce, cx, cy, cz, cA, cB, cC, cD, cE, cF, cG, cH⟩
 go_simp
 with_reducible rfl
 }
 rotate_left
 {
 simp only [Act.put, List.setIfInBounds_toArray, List.set_cons_zero, List.set_cons_succ, i64_w, i32_w]
 rfl
 }
 refine pure_ (i := 43) (N := some 181) (v := ?_) (a' := ?_) #[true, true, true, true, true, true, true, true, true, true, true, true, true, true, true, true, true, true, true, true, true, true, true, true, true, true, true, true, true, true, true, true, true, true, true, true, true, true, true, true, true, true, true, true, false, false, false, false, false, false, false, false, false, false, false, false, false, false, false, false, false, false, false, false, false] rfl rfl (any_of HT_.out (by kernel_rfl)) (fun _ _ _ h => h) (Or.inl ⟨by rfl, ?_⟩) ?_ ?_
 rotate_left
 {
 intro w'
 go_simp
 with_reducible rfl
 }
 rotate_left
 {
 simp only [Act.put, List.setIfInBounds_toArray, List.set_cons_zero, List.set_cons_succ, i64_w, i32_w]
 rfl
 }
 refine pure_ (i := 44) (N := some 182) (v := ?_) (a' := ?_) #[true, true, true, true, true, true, true, true, true, true, true, true, true, true, true, true, true, true, true, true, true, true, true, true, true, true, true, true, true, true, true, true, true, true, true, true, true, true, true, true, true, true, true, true, true, false, false, false, false, false, false, false, false, false, false, false, false, false, false, false, false, false, false, false, false] rfl rfl (any_of HT_.out (by kernel_rfl)) (fun _ _ _ h => h) (Or.inl ⟨by rfl, ?_⟩) ?_ ?_
 rotate_left
 {
 intro w'
 go_simp
 with_reducible rfl
 }
 rotate_left
 {
 simp only [Act.put, List.setIfInBounds_toArray, List.set_cons_zero, List.set_cons_succ, i64_w, i32_w]
 rfl
 }
 refine pure_ (i := 45) (N := some 183) (v := ?_) (a' := ?_) #[true, true, true, true, true, true, true, true, true, true, true, true, true, true, true, true, true, true, true, true, true, true, true, true, true, true, true, true, true, true, true, true, true, true, true, true, true, true, true, true, true, true, true, true, true, true, false, false, false, false, false, false, false, false, false, false, false, false, false, false, false, false, false, false, false] rfl rfl (any_of HT_.out (by kernel_rfl)) (fun _ _ _ h => h) (Or.inl ⟨by rfl, ?_⟩) ?_ ?_
 rotate_left
 {
 intro w'
 go_simp
 with_reducible rfl
 }
 rotate_left
 {
 simp only [Act.put, List.setIfInBounds_toArray, List.set_cons_zero, List.set_cons_succ, i64_w, i32_w]
 rfl
 }
 refine pure_ (i := 46) (N := some 184) (v := ?_) (a' := ?_) #[true, true, true, true, true, true, true, true, true, true, true, true, true, true, true, true, true, true, true, true, true, true, true, true, true, true, true, true, true, true, true, true, true, true, true, true, true, true, true, true, true, true, true, true, true, true, true, false, false, false, false, false, false, false, false, false, false, false, false, false, false, false, false, false, false] rfl rfl (any_of HT_.out (by kernel_rfl)) (fun _ _ _ h => h) (Or.inl ⟨by rfl, ?_⟩) ?_ ?_
 rotate_left
 {
 intro w'
 go_simp
 with_reducible rfl
 }
 rotate_left
 {
 simp only [Act.put, List.setIfInBounds_toArray, List.set_cons_zero, List.set_cons_succ, i64_w, i32_w]
 rfl
 }
 refine pure_ (i := 47) (N := some 185) (v := ?_) (a' := ?_) #[true, true, true, true, true, true, true, true, true, true, true, true, true, true, true, true, true, true, true, true, true, true, true, true, true, true, true, true, true, true, true, true, true, true, true, true, true, true, true, true, true, true, true, true, true, true, true, true, false, false, false, false, false, false, false, false, false, false, false, false, false, false, false, false, false] rfl rfl (any_of HT_.out (by kernel_rfl)) (fun _ _ _ h => h) (Or.inl ⟨by rfl, ?_⟩) ?_ ?_
 rotate_left
 {
 intro w'
 go_simp
 with_reducible rfl
 }
 rotate_left
 {
 simp only [Act.put, List.setIfInBounds_toArray, List.set_cons_zero, List.set_cons_succ, i64_w, i32_w]
 rfl
 }
 refine pure_ (i := 48) (N := some 186) (v := ?_) (a' := ?_) #[true, true, true, true, true, true, true, true, true, true, true, true, true, true, true, true, true, true, true, true, true, true, true, true, true, true, true, true, true, true, true, true, true, true, true, true, true, true, true, true, true, true, true, true, true, true, true, true, true, false, false, false, false, false, false, false, false, false, false, false, false, false, false, false, false] rfl rfl (any_of HT_.out (by kernel_rfl)) (fun _ _ _ h => h) (Or.inl ⟨by rfl, ?_⟩) ?_ ?_
 rotate_left
 {
 intro w'
 go_simp
 with_reducible rfl
 }
 rotate_left
 {
 simp only [Act.put, List.setIfInBounds_toArray, List.set_cons_zero, List.set_cons_succ, i64_w, i32_w]
 rfl
 }
 refine pure_ (i := 50) (N := some 188) (v := ?_) (a' := ?_) #[true, true, true, true, true, true, true, true, true, true, true, true, true, true, true, true, true, true, true, true, true, true, true, true, true, true, true, true, true, true, true, true, true, true, true, true, true, true, true, true, true, true, true, true, true, true, true, true, true, false, true, false, false, false, false, false, false, false, false, false, false, false, false, false, false] rfl rfl (any_of HT_.out (by kernel_rfl)) (fun _ _ _ h => h) (Or.inl ⟨by rfl, ?_⟩) ?_ ?_
 rotate_left
 {
 intro w'
 go_simp
 with_reducible rfl
 }
 rotate_left
 {
 simp only [Act.put, List.setIfInBounds_toArray, List.set_cons_zero, List.set_cons_succ, i64_w, i32_w]
 rfl
 }
 refine pure_ (i := 56) (N := some 194) (v := ?_) (a' := ?_) #[true, true, true, true, true, true, true, true, true, true, true, true, true, true, true, true, true, true, true, true, true, true, true, true, true, true, true, true, true, true, true, true, true, true, true, true, true, true, true, true, true, true, true, true, true, true, true, true, true, false, true, false, false, false, false, false, true, false, false, false, false, false, false, false, false] rfl rfl (any_of HT_.out (by kernel_rfl)) (fun _ _ _ h => h) (Or.inl ⟨by rfl, ?_⟩) ?_ ?_
 rotate_left
 {
 intro w'
 go_simp
 with_reducible rfl
 }
 rotate_left
 {
 simp only [Act.put, List.setIfInBounds_toArray, List.set_cons_zero, List.set_cons_succ, i64_w, i32_w]
 rfl
 }
 refine take_ (i := 49) (N := some 187) (v := ?_) (a' := ?_) #[true, true, true, true, true, true, true, true, true, true, true, true, true, true, true, true, true, true, true, true, true, true, true, true, true, true, true, true, true, true, true, true, true, true, true, true, true, true, true, true, true, true, true, true, true, true, true, true, true, true, true, false, false, false, false, false, true, false, false, false, false, false, false, false, false] rfl rfl (take_ofW HT_.out HW_.out (by kernel_rfl)) (fun _ _ _ h => h) (Or.inl ⟨by rfl, ?_⟩) hHeld ?_ ?_
 rotate_left
 {
 rintro w' ⟨s0, s1, s2, s3, s4, s5, s6, s7, s8, s9, ce, cx, cy, cz, cA, cB, cC, cD, cE, cF, cG, cH⟩
 go_simp
 with_reducible rfl
 }
 rotate_left
 {
 simp only [Act.put, List.setIfInBounds_toArray, List.set_cons_zero, List.set_cons_succ, i64_w, i32_w]
 rfl
 }
 refine take_ (i := 51) (N := some 189) (v := ?_) (a' := ?_) #[true, true, true, true, true, true, true, true, true, true, true, true, true, true, true, true, true, true, true, true, true, true, true, true, true, true, true, true, true, true, true, true, true, true, true, true, true, true, true, true, true, true, true, true, true, true, true, true, true, true, true, true, false, false, false, false, true, false, false, false, false, false, false, false, false] rfl rfl (take_ofW HT_.out HW_.out (by kernel_rfl)) (fun _ _ _ h => h) (Or.inl ⟨by rfl, ?_⟩) hHeld ?_ ?_
 rotate_left
 {
 rintro w' ⟨s0, s1, s2, s3, s4, s5, s6, s7, s8, s9, ce, cx, cy, cz, cA, cB, cC, cD, cE, cF, cG, cH⟩
 go_simp
 with_reducible rfl
 }
 rotate_left
 {
 simp only [Act.put, List.setIfInBounds_toArray, List.set_cons_zero, List.set_cons_succ, i64_w, i32_w]
 rfl
 }
 refine pure_ (i := 52) (N := some 190) (v := ?_) (a' := ?_) #[true, true, true, true, true, true, true, true, true, true, true, true, true, true, true, true, true, true, true, true, true, true, true, true, true, true, true, true, true, true, true, true, true, true, true, true, true, true, true, true, true, true, true, true, true, true, true, true, true, true, true, true, true, false, false, false, true, false, false, false, false, false, false, false, false] rfl rfl (any_of HT_.out (by kernel_rfl)) (fun _ _ _ h => h) (Or.inl ⟨by rfl, ?_⟩) ?_ ?_
 rotate_left
 {
 intro w'
 go_simp
 with_reducible rfl
 }
 rotate_left
 {
 simp only [Act.put, List.setIfInBounds_toArray, List.set_cons_zero, List.set_cons_succ, i64_w, i32_w]
 rfl
 }
 refine take_ (i := 53) (N := some 191) (v := ?_) (a' := ?_) #[true, true, true, true, true, true, true, true, true, true, true, true, true, true, true, true, true, true, true, true, true, true, true, true, true, true, true, true, true, true, true, true, true, true, true, true, true, true, true, true, true, true, true, true, true, true, true, true, true, true, true, true, true, true, false, false, true, false, false, false, false, false, false, false, false] rfl rfl (take_ofW HT_.out HW_.out (by kernel_rfl)) (fun _ _ _ h => h) (Or.inl ⟨by rfl, ?_⟩) hHeld ?_ ?_
 rotate_left
 {
 rintro w' ⟨s0, s1, s2, s3, s4, s5, s6, s7, s8, s9, ce, cx, cy, cz, cA, cB, cC, cD, cE, cF, cG, cH⟩
 go_simp
 with_reducible rfl
 }
 rotate_left
 {
 simp only [Act.put, List.setIfInBounds_toArray, List.set_cons_zero, List.set_cons_succ, i64_w, i32_w]
 rfl
 }
 refine pure_ (i := 54) (N := some 192) (v := ?_) (a' := ?_) #[true, true, true, true, true, true, true, true, true, true, true, true, true, true, true, true, true, true, true, true, true, true, true, true, true, true, true, true, true, true, true, true, true, true, true, true, true, true, true, true, true, true, true, true, true, true, true, true, true, true, true, true, true, true, true, false, true, false, false, false, false, false, false, false, false] rfl rfl (any_of HT_.out (by kernel_rfl)) (fun _ _ _ h => h) (Or.inl ⟨by rfl, ?_⟩) ?_ ?_
 rotate_left
 {
 intro w'
 go_simp
 with_reducible rfl
 }
 rotate_left
 {
 simp only [Act.put, List.setIfInBounds_toArray, List.set_cons_zero, List.set_cons_succ, i64_w, i32_w]
 rfl
 }
 refine pure_ (i := 55) (N := some 193) (v := ?_) (a' := ?_) #[true, true, true, true, true, true, true, true, true, true, true, true, true, true, true, true, true, true, true, true, true, true, true, true, true, true, true, true, true, true, true, true, true, true, true, true, true, true, true, true, true, true, true, true, true, true, true, true, true, true, true, true, true, true, true, true, true, false, false, false, false, false, false, false, false] rfl rfl (any_of HT_.out (by kernel_rfl)) (fun _ _ _ h => h) (Or.inl ⟨by rfl, ?_⟩) ?_ ?_
 rotate_left
 {
 intro w'
 go_simp
 with_reducible rfl
 }
 rotate_left
 {
 simp only [Act.put, List.setIfInBounds_toArray, List.set_cons_zero, List.set_cons_succ, i64_w, i32_w]
 rfl
 }
 refine take_ (i := 57) (N := some 195) (v := ?_) (a' := ?_) #[true, true, true, true, true, true, true, true, true, true, true, true, true, true, true, true, true, true, true, true, true, true, true, true, true, true, true, true, true, true, true, true, true, true, true, true, true, true, true, true, true, true, true, true, true, true, true, true, true, true, true, true, true, true, true, true, true, true, false, false, false, false, false, false, false] rfl rfl (take_ofW HT_.out HW_.out (by kernel_rfl)) (fun _ _ _ h => h) (Or.inl ⟨by rfl, ?_⟩) hHeld ?_ ?_
 rotate_left
 {
 rintro w' ⟨s0, s1, s2, s3, s4, s5, s6, s7, s8, s9, ce, cx, cy, cz, cA, cB, cC, cD, cE, cF, cG, cH⟩
 go_simp
 with_reducible rfl
 }
 rotate_left
 {
 simp only [Act.put, List.setIfInBounds_toArray, List.set_cons_zero, List.set_cons_succ, i64_w, i32_w]
 rfl
 }
 refine pure_ (i := 58) (N := some 196) (v := ?_) (a' := ?_) #[true, true, true, true, true, true, true, true, true, true, true, true, true, true, true, true, true, true, true, true, true, true, true, true, true, true, true, true, true, true, true, true, true, true, true, true, true, true, true, true, true, true, true, true, true, true, true, true, true, true, true, true, true, true, true, true, true, true, true, false, false, false, false, false, false] rfl rfl (any_of HT_.out (by kernel_rfl)) (fun _ _ _ h => h) (Or.inl ⟨by rfl, ?_⟩) ?_ ?_
 rotate_left
 {
 intro w'
 go_simp
 with_reducible rfl
 }
 rotate_left
 {
 simp only [Act.put, List.setIfInBounds_toArray, List.set_cons_zero, List.set_cons_succ, i64_w, i32_w]
 rfl
 }
 refine take_ (i := 59) (N := some 197) (v := ?_) (a' := ?_) #[true, true, true, true, true, true, true, true, true, true, true, true, true, true, true, true, true, true, true, true, true, true, true, true, true, true, true, true, true, true, true, true, true, true, true, true, true, true, true, true, true, true, true, true, true, true, true, true, true, true, true, true, true, true, true, true, true, true, true, true, false, false, false, false, false] rfl rfl (take_ofW HT_.out HW_.out (by kernel_rfl)) (fun _ _ _ h => h) (Or.inl ⟨by rfl, ?_⟩) hHeld ?_ ?_
 rotate_left
 {
 rintro w' ⟨s0, s1, s2, s3, s4, s5, s6, s7, s8, s9, ce, cx, cy, cz, cA, cB, cC, cD, cE, cF, cG, cH⟩
 go_simp
 with_reducible rfl
 }
 rotate_left
 {
 simp only [Act.put, List.setIfInBounds_toArray, List.set_cons_zero, List.set_cons_succ, i64_w, i32_w]
 rfl
 }
 refine pure_ (i := 60) (N := some 198) (v := ?_) (a' := ?_) #[true, true, true, true, true, true, true, true, true, true, true, true, true, true, true, true, true, true, true, true, true, true, true, true, true, true, true, true, true, true, true, true, true, true, true, true, true, true, true, true, true, true, true, true, true, true, true, true, true, true, true, true, true, true, true, true, true, true, true, true, true, false, false, false, false] rfl rfl (any_of HT_.out (by kernel_rfl)) (fun _ _ _ h => h) (Or.inl ⟨by rfl, ?_⟩) ?_ ?_
 rotate_left
 {
 intro w'
 go_simp
 with_reducible rfl
 }
 rotate_left
 {
 simp only [Act.put, List.setIfInBounds_toArray, List.set_cons_zero, List.set_cons_succ, i64_w, i32_w]
 rfl
 }
 refine pure_ (i := 61) (N := some 199) (v := ?_) (a' := ?_) #[true, true, true, true, true, true, true, true, true, true, true, true, true, true, true, true, true, true, true, true, true, true, true, true, true, true, true, true, true, true, true, true, true, true, true, true, true, true, true, true, true, true, true, true, true, true, true, true, true, true, true, true, true, true, true, true, true, true, true, true, true, true, false, false, false] rfl rfl (any_of HT_.out (by kernel_rfl)) (fun _ _ _ h => h) (Or.inl ⟨by rfl, ?_⟩) ?_ ?_
 rotate_left
 {
 intro w'
 go_simp
 with_reducible rfl
 }
 rotate_left
 {
 simp only [Act.put, List.setIfInBounds_toArray, List.set_cons_zero, List.set_cons_succ, i64_w, i32_w]
 rfl
 }
 refine pure_ (i := 62) (N := some 200) (v := ?_) (a' := ?_) #[true, true, true, true, true, true, true, true, true, true, true, true, true, true, true, true, true, true, true, true, true, true, true, true, true, true, true, true, true, true, true, true, true, true, true, true, true, true, true, true, true, true, true, true, true, true, true, true, true, true, true, true, true, true, true, true, true, true, true, true, true, true, true, false, false] rfl rfl (any_of HT_.out (by kernel_rfl)) (fun _ _ _ h => h) (Or.inl ⟨by rfl, ?_⟩) ?_ ?_
 rotate_left
 {
 intro w'
 go_simp
 with_reducible rfl
 }
 rotate_left
 {
 simp only [Act.put, List.setIfInBounds_toArray, List.set_cons_zero, List.set_cons_succ, i64_w, i32_w]
 rfl
 }
 refine pure_ (i := 63) (N := some 201) (v := ?_) (a' := ?_) #[true, true, true, true, true, true, true, true, true, true, true, true, true, true, true, true, true, true, true, true, true, true, true, true, true, true, true, true, true, true, true, true, true, true, true, true, true, true, true, true, true, true, true, true, true, true, true, true, true, true, true, true, true, true, true, true, true, true, true, true, true, true, true, true, false] rfl rfl (any_of HT_.out (by kernel_rfl)) (fun _ _ _ h => h) (Or.inl ⟨by rfl, ?_⟩) ?_ ?_
 rotate_left
 {
 intro w'
 go_simp
 with_reducible rfl
 }
 rotate_left
 {
 simp only [Act.put, List.setIfInBounds_toArray, List.set_cons_zero, List.set_cons_succ, i64_w, i32_w]
 rfl
 }
 refine pure_ (i := 64) (N := some 2) (v := ?_) (a' := ?_) #[true, true, true, true, true, true, true, true, true, true, true, true, true, true, true, true, true, true, true, true, true, true, true, true, true, true, true, true, true, true, true, true, true, true, true, true, true, true, true, true, true, true, true, true, true, true, true, true, true, true, true, true, true, true, true, true, true, true, true, true, true, true, true, true, true] rfl rfl (any_of HT_.out (by kernel_rfl)) (fun _ _ _ h => h) (Or.inl ⟨by rfl, ?_⟩) ?_ ?_
 rotate_left
 {
 intro w'
 go_simp
 with_reducible rfl
 }
 rotate_left
 {
 simp only [Act.put, List.setIfInBounds_toArray, List.set_cons_zero, List.set_cons_succ, i64_w, i32_w]
 rfl
 }
 refine done_ (done_of HT_.out (by kernel_rfl)) ?_
 try go_wp2
 go_ret
 exact ⟨eR, wB⟩
 }
 }
 )
 }
 {
 try go_wp2_with (first | (go_at_call 24; (with_reducible refine (impl_Complain.calls k a4 aX a5 a6 a7 a8 aY aU aZ _ _ ar _ _ ac dI dJ dK dL dj dk dl dm dn dp dq dr dt aD aE dM _ ?side1 ?side2 ?side3 ?side4 A8.out).mono ?_); (case side1 => exact Ch ad); (case side2 => exact (Kd.R_reads' ad.out).2.1); (case side3 => exact Ch ae); (case side4 => exact (Kd.R_reads' ae.out).2.1); rintro e kz ⟨lv, lw, rfl, aV, bc, hb⟩; have az := Aside0.mk (Kd.R_lower (Kd.R_new' (Kd.R_new' (Kd.R_new' (Kd.R_new' aV (Kd.R_lt (Rh ad))) (Kd.R_lt (Rh ae))) (Kd.R_lt (Rh ag))) (Kd.R_lt (Rh ah))) (below_size wB)); have aA := Aside0.mk (Kd.R_lower (Kd.R_new' (Kd.R_new' (Kd.R_new' (Kd.R_new' bc (Kd.R_lt (Rh ad))) (Kd.R_lt (Rh ae))) (Kd.R_lt (Rh ag))) (Kd.R_lt (Rh ah))) (below_size wB)); replace ad := Aside0.mk (Kd.R_mono (Kd.R_told (Kd.R_told (Kd.R_old (Rh ad) hb) (Kd.R_base aV)) (Kd.R_base bc)) (fun _ h_ => h_.1)); replace ae := Aside0.mk (Kd.R_mono (Kd.R_told (Kd.R_told (Kd.R_old (Rh ae) hb) (Kd.R_base aV)) (Kd.R_base bc)) (fun _ h_ => h_.1)); replace ag := Aside0.mk (Kd.R_mono (Kd.R_told (Kd.R_told (Kd.R_old (Rh ag) hb) (Kd.R_base aV)) (Kd.R_base bc)) (fun _ h_ => h_.1)); replace ah := Aside0.mk (Kd.R_mono (Kd.R_told (Kd.R_told (Kd.R_old (Rh ah) hb) (Kd.R_base aV)) (Kd.R_base bc)) (fun _ h_ => h_.1)); replace ab := Aside0.mk (blk_below (Bh ab) hb); replace af := Aside0.mk (blk_below (Bh af) hb); replace HB := Aside0.mk (below_step wB hb); clear hb; (try clear aV); (try clear bc)) | ((with_reducible refine gate_dst (N := 10) rfl ?_); refine boxE 10 #[.int .i64 0, .int .i64 0, .bool false, .bool false, .int .i64 0, .int .i64 0, .int .i64 0, .int .i64 0, .int .i64 0, .slice none 0 0, .slice none 0 0] 25 ?_; intro bd hg cP hbox hb; replace ad := Aside0.mk (Kd.R_below (Rh ad) hb); replace ae := Aside0.mk (Kd.R_below (Rh ae) hb); replace ag := Aside0.mk (Kd.R_below (Rh ag) hb); replace ah := Aside0.mk (Kd.R_below (Rh ah) hb); replace az := Aside0.mk (Kd.R_below (Rh az) hb); replace aA := Aside0.mk (Kd.R_below (Rh aA) hb); have ai := Aside0.mk (hbox); have gn := Aside0.mk ((by rw [hg]; exact (below_size wB) : w.heap.size ≤ bd)); replace HB := Aside0.mk (below_step wB hb); have kA := gn; have ba := Aside0.mk ((by rw [hg]; exact Nat.ne_of_lt (blk_lt (Bh ab)) : aR ≠ bd)); replace ab := Aside0.mk (blk_below (Bh ab) hb); have bS := Aside0.mk ba.out.symm; have bg := Aside0.mk ((by rw [hg]; exact Nat.ne_of_lt (blk_lt (Bh af)) : bk ≠ bd)); replace af := Aside0.mk (blk_below (Bh af) hb); have dv := Aside0.mk bg.out.symm; clear hb hbox hg; have j5 := bS.out; have j6 := ba.out; have j7 := dv.out; have j8 := bg.out; obtain ⟨⟨e9, fa, fb, fc, fd, fe, ff, fg, fh, fi, eB⟩, fj, fk, fl, fm, fn, fo, fp, fq, fr, fs, eC⟩ := cells11 ai.out; obtain ⟨au, av, f8⟩ := Kd.R_slice az.out; subst f8; obtain ⟨aw, ax, f9⟩ := Kd.R_slice aA.out; subst f9) | ((with_reducible refine gate_store (t := 25) (p := 10) rfl ?_); (try (rw [drewN_self cP]; generalize hq_ : World.drewN cP _ = cP; replace ad := Aside0.mk (Kd.R_at hq_ ad.out); replace ae := Aside0.mk (Kd.R_at hq_ ae.out); replace ag := Aside0.mk (Kd.R_at hq_ ag.out); replace ah := Aside0.mk (Kd.R_at hq_ ah.out); replace az := Aside0.mk (Kd.R_at hq_ az.out); replace aA := Aside0.mk (Kd.R_at hq_ aA.out); replace ab := Aside0.mk (blk_at hq_ ab.out); replace af := Aside0.mk (blk_at hq_ af.out); replace ai := Aside0.mk (blk_at hq_ ai.out); replace HB := Aside0.mk (below_at hq_ HB.out); clear hq_; (try (obtain ⟨⟨bs, bu, bv, bw, bz, bA, bB, bC, bD, bE, bm⟩, bF, bG, bH, bI, bJ, bK, bL, bM, bN, bO, bn⟩ := cells11 ab.out)); (try (obtain ⟨⟨bU, bV, bW, bX, bY, bZ, b0, b1, b2, b3, bP⟩, b4, b5, b6, b7, b8, b9, ca, cb, cc, cd, bQ⟩ := cells11 af.out)); (try (obtain ⟨⟨cQ, cR, cS, cT, cU, cV, cW, cX, cY, cZ, cp⟩, c1, da, db, dc, dd, de, df, dg, dh, di, cq⟩ := cells11 ai.out)))); refine storeE (put11 cP bd (.int .i64 dj) (.int .i64 dk) (.bool dl) (.bool dm) (.int .i64 dn) (.int .i64 dp) (.int .i64 dq) (.int .i64 dr) (.int .i64 dt) (.slice au aD.length av) (.slice aw aE.length ax)) ?_; intro a9 hw; have n0_ : Aside0 (Kd.R (Kd.int .u8) 5 a9 w.heap.size (fun k_ => some k_ ≠ (.slice am ac.length al : Value).ownBlock ∧ some k_ ≠ (.slice an aB.length ao : Value).ownBlock ∧ some k_ ≠ (.slice ap aC.length aq : Value).ownBlock ∧ some k_ ≠ (.slice au aD.length av : Value).ownBlock ∧ some k_ ≠ (.slice aw aE.length ax : Value).ownBlock) (.slice aj ar.length ak) ar) := ⟨(by rw [hw]; exact (by exact Kd.R_mono (Kd.R_step (Kd.R_types ad.out ai.out (by decide)) (fun _ hk _ => far11 hk.2)) (fun _ hk => ⟨hk.1.1.1.1, ⟨hk.1.1.1.2.1, ⟨hk.1.1.1.2.2, ⟨hk.1.1.2, hk.1.2⟩⟩⟩⟩)))⟩; have n1_ : Aside0 (Kd.R (Kd.int .u8) 5 a9 w.heap.size (fun k_ => some k_ ≠ (.slice aj ar.length ak : Value).ownBlock ∧ some k_ ≠ (.slice an aB.length ao : Value).ownBlock ∧ some k_ ≠ (.slice ap aC.length aq : Value).ownBlock ∧ some k_ ≠ (.slice au aD.length av : Value).ownBlock ∧ some k_ ≠ (.slice aw aE.length ax : Value).ownBlock) (.slice am ac.length al) ac) := ⟨(by rw [hw]; exact (by exact Kd.R_mono (Kd.R_step (Kd.R_types ae.out ai.out (by decide)) (fun _ hk _ => far11 hk.2)) (fun _ hk => ⟨hk.1.1.1.1, ⟨hk.1.1.1.2.1, ⟨hk.1.1.1.2.2, ⟨hk.1.1.2, hk.1.2⟩⟩⟩⟩)))⟩; have n2_ : Aside0 (Kd.R (Kd.int .u8) 5 a9 w.heap.size (fun k_ => some k_ ≠ (.slice aj ar.length ak : Value).ownBlock ∧ some k_ ≠ (.slice am ac.length al : Value).ownBlock ∧ some k_ ≠ (.slice ap aC.length aq : Value).ownBlock ∧ some k_ ≠ (.slice au aD.length av : Value).ownBlock ∧ some k_ ≠ (.slice aw aE.length ax : Value).ownBlock) (.slice an aB.length ao) aB) := ⟨(by rw [hw]; exact (by exact Kd.R_mono (Kd.R_step (Kd.R_types ag.out ai.out (by decide)) (fun _ hk _ => far11 hk.2)) (fun _ hk => ⟨hk.1.1.1.1, ⟨hk.1.1.1.2.1, ⟨hk.1.1.1.2.2, ⟨hk.1.1.2, hk.1.2⟩⟩⟩⟩)))⟩; have n3_ : Aside0 (Kd.R (Kd.int .u8) 5 a9 w.heap.size (fun k_ => some k_ ≠ (.slice aj ar.length ak : Value).ownBlock ∧ some k_ ≠ (.slice am ac.length al : Value).ownBlock ∧ some k_ ≠ (.slice an aB.length ao : Value).ownBlock ∧ some k_ ≠ (.slice au aD.length av : Value).ownBlock ∧ some k_ ≠ (.slice aw aE.length ax : Value).ownBlock) (.slice ap aC.length aq) aC) := ⟨(by rw [hw]; exact (by exact Kd.R_mono (Kd.R_step (Kd.R_types ah.out ai.out (by decide)) (fun _ hk _ => far11 hk.2)) (fun _ hk => ⟨hk.1.1.1.1, ⟨hk.1.1.1.2.1, ⟨hk.1.1.1.2.2, ⟨hk.1.1.2, hk.1.2⟩⟩⟩⟩)))⟩; have n4_ : Aside0 (Kd.R (Kd.int .u8) 5 a9 w.heap.size (fun k_ => some k_ ≠ (.slice aj ar.length ak : Value).ownBlock ∧ some k_ ≠ (.slice am ac.length al : Value).ownBlock ∧ some k_ ≠ (.slice an aB.length ao : Value).ownBlock ∧ some k_ ≠ (.slice ap aC.length aq : Value).ownBlock ∧ some k_ ≠ (.slice aw aE.length ax : Value).ownBlock) (.slice au aD.length av) aD) := ⟨(by rw [hw]; exact (by exact Kd.R_mono (Kd.R_step (Kd.R_types az.out ai.out (by decide)) (fun _ hk _ => far11 hk.2)) (fun _ hk => ⟨hk.1.1.1.1.2, ⟨hk.1.1.1.2, ⟨hk.1.1.2, ⟨hk.1.2, hk.1.1.1.1.1⟩⟩⟩⟩)))⟩; have n5_ : Aside0 (Kd.R (Kd.int .u8) 5 a9 w.heap.size (fun k_ => some k_ ≠ (.slice aj ar.length ak : Value).ownBlock ∧ some k_ ≠ (.slice am ac.length al : Value).ownBlock ∧ some k_ ≠ (.slice an aB.length ao : Value).ownBlock ∧ some k_ ≠ (.slice ap aC.length aq : Value).ownBlock ∧ some k_ ≠ (.slice au aD.length av : Value).ownBlock) (.slice aw aE.length ax) aE) := ⟨(by rw [hw]; exact (by exact Kd.R_mono (Kd.R_step (Kd.R_types aA.out ai.out (by decide)) (fun _ hk _ => far11 hk.2)) (fun _ hk => ⟨hk.1.1.1.1.2, ⟨hk.1.1.1.2, ⟨hk.1.1.2, ⟨hk.1.2, hk.1.1.1.1.1⟩⟩⟩⟩)))⟩; have n6_ : Aside0 (a9.heap[aR]? = some (.cells #[.int .i64 a4, .int .i64 aX, .bool a5, .bool a6, .int .i64 a7, .int .i64 a8, .int .i64 aY, .int .i64 aU, .int .i64 aZ, .slice aj ar.length ak, .slice am ac.length al] 25 (0, 0))) := ⟨(by rw [hw]; exact (by refine (far11 ba.out).trans ?_; exact ab.out))⟩; have n7_ : Aside0 (a9.heap[bk]? = some (.cells #[.int .i64 cg, .int .i64 ch, .bool ci, .bool cj, .int .i64 ck, .int .i64 cl, .int .i64 cm, .int .i64 cn, .int .i64 co, .slice an aB.length ao, .slice ap aC.length aq] 25 (0, 0))) := ⟨(by rw [hw]; exact (by refine (far11 bg.out).trans ?_; exact af.out))⟩; have n8_ : Aside0 (a9.heap[bd]? = some (.cells #[.int .i64 dj, .int .i64 dk, .bool dl, .bool dm, .int .i64 dn, .int .i64 dp, .int .i64 dq, .int .i64 dr, .int .i64 dt, .slice au aD.length av, .slice aw aE.length ax] 25 (0, 0))) := ⟨(by rw [hw]; exact (by apply set11; exact ai.out))⟩; have n9_ : Aside0 (Below w.heap.size w a9) := ⟨(by rw [hw]; exact wB)⟩; clear hw; clear ad; clear ae; clear ag; clear ah; clear az; clear aA; clear ab; clear af; clear ai; clear HB; have ad := n0_; have ae := n1_; have ag := n2_; have ah := n3_; have az := n4_; have aA := n5_; have ab := n6_; have af := n7_; have ai := n8_; have HB := n9_; clear n0_ n1_ n2_ n3_ n4_ n5_ n6_ n7_ n8_ n9_))
 go_ret
 exact ⟨eR, wB⟩
 }

/-- THE ONE PURE STATEMENT of laws_FnComplain: yours. -/
def laws_FnComplain.Pure : Prop := ∀ (l0 : List Int), l0.length ≤ maxLen → l0.length * 1 ≤ 140737488351232 → (∀ x ∈ l0, (Lit.int .u8 x).wf = true) → ∃ k, laws_FnComplain.f k l0 = some true
theorem laws_FnComplain.walk (P : laws_FnComplain.Pure) (a0 : Option Addr) (len0 cap0 : Nat) (z0 : List Int) (w : World) (w0 : (a0 = none ∧ len0 = 0 ∧ cap0 = 0 ∧ z0 = []) ∨ ∃ x, a0 = some x ∧ len0 ≤ cap0 ∧ cap0 ≤ maxLen ∧ z0.length = cap0 ∧ (∀ i, i < z0.length → w.cell? (x.add i) = some (.int .u8 (z0.getD i 0))) ∧ ∀ n ∈ z0, (Lit.int .u8 n).wf = true) (y0 : len0 * 1 ≤ 140737488351232) :
 Calls Try.prog 4 #[.slice a0 len0 cap0] w fun e w' => e = .returned (.bool true) ∧ Below w.heap.size w w' := by
 obtain ⟨l0, rfl, hr0, hm0, hw0, hc0⟩ := ReadsInt.ofRowC w0
 obtain ⟨k, h⟩ := P l0 hm0 y0 hw0
 refine (laws_FnComplain.calls k _ _ l0 true w (Kd.C_of_reads (d := (0 : Int)) (h1 := fun _ => rfl) hr0) hc0 h).mono ?_
 rintro e w' ⟨rfl, hd⟩
 exact ⟨rfl, hd⟩

end Go.Proofs.Ytckhadlmhbhngaa.PFnComplain
