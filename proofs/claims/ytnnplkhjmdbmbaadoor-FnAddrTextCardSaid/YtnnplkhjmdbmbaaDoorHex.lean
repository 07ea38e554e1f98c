/- strconv.FormatInt at base 16 and a number from 0 to 255: two walks of the library's own text at this program; what it reads of the library's table of bits is asked. -/
import Derived.Test.YtnnplkhjmdbmbaaDoorShelf
import Derived.Test.YtnnplkhjmdbmbaaDoorWWords
import Derived.Handy
namespace Go.Proofs.YtnnplkhjmdbmbaaDoor.Hex
open Go.RowKit Go.Proofs.YtnnplkhjmdbmbaaDoorW.PrintWords
set_option maxHeartbeats 8000000
set_option maxRecDepth 100000
theorem p2 (w : World) : Calls Tryd.prog 85 #[.int .i64 16] w fun e w' => e = .returned (.bool true) ∧ w' = w := by
  have e0 : (bits BinOp.and IntKind.i64 16 15 == 0) = true := by decide +kernel
  go_enter Tryd.func85, Tryd.ntmps85
  go_wp2
  go_ret
  exact ⟨rfl, rfl⟩
theorem tz16 (w : World) (h : w.cell? ⟨3, 15, none⟩ = some (.int .u8 4)) : Calls Tryd.prog 86 #[.int .u64 16] w fun e w' => e = .returned (.int .i64 4) ∧ w' = w := by
  have e0 : IntKind.u64.wrap (bits BinOp.and IntKind.u64 16 (IntKind.u64.wrap (-16)) * 285870213051353865) / 288230376151711744 = 15 := by decide +kernel
  go_enter Tryd.func86, Tryd.ntmps86
  go_wp2
  all_goals (try (simp only [e0] at *))
  go_ret
  exact ⟨rfl, rfl⟩
theorem cell_new (w : World) (cs : Array Value) (t : Nat) (j : Nat) : (w.alloc (.cells cs t)).cell? ⟨w.heap.size, j, none⟩ = cs[j]? := by
  have : (w.alloc (.cells cs t)).heap[w.heap.size]? = some (.cells cs t (0, 0)) := by simp [World.alloc, -World.alloc_eq]
  unfold World.cell?
  rw [this]
  rfl
theorem z108 : Tryd.zeroCells108.size = 65 := by kernel_rfl
theorem conv1 (w : World) (b : Int) : (convert 22 9 (.slice (some ⟨w.heap.size, 64, none⟩) 1 1)).run Tryd.prog (w.alloc (.cells (Tryd.zeroCells108.setIfInBounds 64 (.int .u8 b)) 108)) = .ok (.string (strOfNums [b])) (w.alloc (.cells (Tryd.zeroCells108.setIfInBounds 64 (.int .u8 b)) 108)) := by
  refine Kd.C_string (P := Tryd.prog) (A := some ⟨w.heap.size, 64, none⟩) (n := 1) (c := 1) (xs := [b]) Tryd.underlying22 Tryd.underlying5 Tryd.underlying9 ⟨rfl, by decide, fun _ => ⟨_, rfl, fun j p hj => ⟨[.int .u8 p], rfl, rfl, fun i u hu => ?_⟩⟩⟩
  match j, i, hj, hu with
  | 0, 0, hj, hu =>
    obtain rfl := Option.some.inj hj
    obtain rfl := Option.some.inj hu
    refine (cell_new w _ 108 64).trans ?_
    rw [Array.getElem?_setIfInBounds_self_of_lt (by rw [z108]; decide)]
theorem conv2 (w : World) (b c : Int) : (convert 22 9 (.slice (some ⟨w.heap.size, 63, none⟩) 2 2)).run Tryd.prog (w.alloc (.cells ((Tryd.zeroCells108.setIfInBounds 64 (.int .u8 c)).setIfInBounds 63 (.int .u8 b)) 108)) = .ok (.string (strOfNums [b, c])) (w.alloc (.cells ((Tryd.zeroCells108.setIfInBounds 64 (.int .u8 c)).setIfInBounds 63 (.int .u8 b)) 108)) := by
  refine Kd.C_string (P := Tryd.prog) (A := some ⟨w.heap.size, 63, none⟩) (n := 2) (c := 2) (xs := [b, c]) Tryd.underlying22 Tryd.underlying5 Tryd.underlying9 ⟨rfl, by decide, fun _ => ⟨_, rfl, fun j p hj => ⟨[.int .u8 p], rfl, rfl, fun i u hu => ?_⟩⟩⟩
  match j, i, hj, hu with
  | 0, 0, hj, hu =>
    obtain rfl := Option.some.inj hj
    obtain rfl := Option.some.inj hu
    refine (cell_new w _ 108 63).trans ?_
    rw [Array.getElem?_setIfInBounds_self_of_lt (by rw [Array.size_setIfInBounds, z108]; decide)]
  | 1, 0, hj, hu =>
    obtain rfl := Option.some.inj hj
    obtain rfl := Option.some.inj hu
    refine (cell_new w _ 108 64).trans ?_
    rw [Array.getElem?_setIfInBounds_ne (by decide), Array.getElem?_setIfInBounds_self_of_lt (by rw [z108]; decide)]
/-- A hexadecimal digit. -/
def dg (i : Nat) : UInt8 := if i < 10 then UInt8.ofNat (48 + i) else UInt8.ofNat (87 + i)
def hexL (n : Nat) : List UInt8 := if n < 16 then [dg n] else [dg (n / 16), dg (n % 16)]
theorem dgt (i : Nat) (h : i < 16) (h2 : i < (⟨#[48, 49, 50, 51, 52, 53, 54, 55, 56, 57, 97, 98, 99, 100, 101, 102, 103, 104, 105, 106, 107, 108, 109, 110, 111, 112, 113, 114, 115, 116, 117, 118, 119, 120, 121, 122]⟩ : ByteArray).size) : ((⟨#[48, 49, 50, 51, 52, 53, 54, 55, 56, 57, 97, 98, 99, 100, 101, 102, 103, 104, 105, 106, 107, 108, 109, 110, 111, 112, 113, 114, 115, 116, 117, 118, 119, 120, 121, 122]⟩ : ByteArray)[i]'h2) = dg i := by
  rcases (show i = 0 ∨ i = 1 ∨ i = 2 ∨ i = 3 ∨ i = 4 ∨ i = 5 ∨ i = 6 ∨ i = 7 ∨ i = 8 ∨ i = 9 ∨ i = 10 ∨ i = 11 ∨ i = 12 ∨ i = 13 ∨ i = 14 ∨ i = 15 by omega) with rfl | rfl | rfl | rfl | rfl | rfl | rfl | rfl | rfl | rfl | rfl | rfl | rfl | rfl | rfl | rfl <;> rfl
theorem son_u8 (l : List UInt8) : strOfNums (l.map fun b => (b.toNat : Int)) = ⟨l.toArray⟩ := by
  simp only [strOfNums, List.map_map]
  congr 2
  conv => rhs; rw [← List.map_id l]
  exact List.map_congr_left fun b _ => UInt8.ofNat_toNat
theorem and15 (n : Nat) (h : n < 256) : bits BinOp.and IntKind.u64 (n : Int) 15 = ((n % 16 : Nat) : Int) := by
  have := (bits_nat .u64 8 (by decide) (fun x h0 h1 => by rw [IntKind.wrap_u64]; omega) n 15 (by omega) (by decide)).1
  rw [show ((15 : Nat) : Int) = 15 from rfl] at this
  rw [this, show 15 = 2 ^ 4 - 1 from rfl, Nat.and_two_pow_sub_one_eq_mod]
theorem fb1 (n : Nat) (hn : n < 16) (w : World) (h : ∀ o, (w.alloc o).cell? ⟨3, 15, none⟩ = some (.int .u8 4)) : Calls Tryd.prog 74 #[.slice none 0 0, .int .u64 (n : Int), .int .i64 16, .bool false, .bool false] w fun e w' => e = .returned (.tuple #[.slice none 0 0, .string ⟨(hexL n).toArray⟩]) ∧ Below w.heap.size w w' := by
  have e1 : decide ((n : Int) ≥ 16) = false := decide_eq_false (by omega)
  have e2 := conv1 w
  go_enter Tryd.func74, Tryd.ntmps74
  go_wp2_with (first | (go_at_call 85; refine (p2 _).mono ?_; rintro e w' ⟨rfl, rfl⟩) | (go_at_call 86; refine (tz16 _ (h _)).mono ?_; rintro e w' ⟨rfl, rfl⟩))
  go_rounds 1
  go_ret2
  refine ⟨?_, Below.alloc (Below.refl _ _) (Nat.le_refl _) _⟩
  simp only [dgt n hn]
  rw [show hexL n = [dg n] from if_pos hn, ← son_u8]
  rfl
theorem fb2 (n : Nat) (hn : 16 ≤ n ∧ n < 256) (w : World) (h : ∀ o, (w.alloc o).cell? ⟨3, 15, none⟩ = some (.int .u8 4)) : Calls Tryd.prog 74 #[.slice none 0 0, .int .u64 (n : Int), .int .i64 16, .bool false, .bool false] w fun e w' => e = .returned (.tuple #[.slice none 0 0, .string ⟨(hexL n).toArray⟩]) ∧ Below w.heap.size w w' := by
  have e1 : decide ((n : Int) ≥ 16) = true := decide_eq_true (by omega)
  have e2 := conv2 w
  go_enter Tryd.func74, Tryd.ntmps74
  go_wp2_with (first | (go_at_call 85; refine (p2 _).mono ?_; rintro e w' ⟨rfl, rfl⟩) | (go_at_call 86; refine (tz16 _ (h _)).mono ?_; rintro e w' ⟨rfl, rfl⟩))
  go_rounds 2
  · go_ret2
    refine ⟨?_, Below.alloc (Below.refl _ _) (Nat.le_refl _) _⟩
    simp only [and15 n hn.2, Int.toNat_natCast, dgt (n / 16) (by omega), dgt (n % 16) (by omega)]
    rw [show hexL n = [dg (n / 16), dg (n % 16)] from if_neg (by omega), ← son_u8]
    rfl
  · rename_i hx
    rw [and15 n hn.2] at hx
    omega
theorem fb (n : Nat) (hn : n < 256) (w : World) (h : ∀ o, (w.alloc o).cell? ⟨3, 15, none⟩ = some (.int .u8 4)) : Calls Tryd.prog 74 #[.slice none 0 0, .int .u64 (n : Int), .int .i64 16, .bool false, .bool false] w fun e w' => e = .returned (.tuple #[.slice none 0 0, .string ⟨(hexL n).toArray⟩]) ∧ Below w.heap.size w w' := by
  by_cases h1 : n < 16
  · exact fb1 n h1 w h
  · exact fb2 n ⟨by omega, hn⟩ w h
theorem fi16 (n : Nat) (hn : n < 256) (w : World) (h : ∀ o, (w.alloc o).cell? ⟨3, 15, none⟩ = some (.int .u8 4)) : Calls Tryd.prog 57 #[.int .i64 (n : Int), .int .i64 16] w fun e w' => e = .returned (.string ⟨(hexL n).toArray⟩) ∧ Below w.heap.size w w' := by
  have e1 : decide ((n : Int) < 0) = false := decide_eq_false (by omega)
  have e2 : IntKind.u64.wrap (n : Int) = n := by rw [IntKind.wrap_u64]; omega
  go_enter Tryd.func57, Tryd.ntmps57
  go_wp2_with (first | (go_at_call 74; refine (fb n hn _ h).mono ?_; rintro e w' ⟨rfl, hb⟩))
  go_ret
  exact ⟨rfl, hb⟩
theorem format16 (n : Nat) (hn : n < 256) (w : World) (h : ∀ o, (w.alloc o).cell? ⟨3, 15, none⟩ = some (.int .u8 4)) : Calls Tryd.prog 34 #[.int .i64 (n : Int), .int .i64 16] w fun e w' => e = .returned (.string ⟨(hexL n).toArray⟩) ∧ Below w.heap.size w w' := by
  go_enter Tryd.func34, Tryd.ntmps34
  go_wp2_with (first | (go_at_call 57; refine (fi16 n hn _ h).mono ?_; rintro e w' ⟨rfl, hb⟩))
  go_ret
  exact ⟨rfl, hb⟩
end Go.Proofs.YtnnplkhjmdbmbaaDoor.Hex
