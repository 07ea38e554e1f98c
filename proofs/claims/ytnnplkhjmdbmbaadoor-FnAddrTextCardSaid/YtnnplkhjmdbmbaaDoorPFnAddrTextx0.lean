-- Written for this claim by a program of this session (wip/mkprint.py: the print, turned at a few places). Not trusted: Lean checks it.
import Derived.Test.YtnnplkhjmdbmbaaDoorProg
import Derived.Below
import Derived.Deep.Draws
import Derived.Deep.AppendLies
import Derived.Maps.AppendAt
import Derived.OwnWalk
import Derived.Laws.BytesArg
import Derived.Laws.MakeOwn
import Derived.Laws.OwnMore
import Derived.Deep.OwnRows
import Derived.Tactics
import Derived.Lib.ConvBytes
import Derived.Laws.Slices
import Derived.WalkKit
import Derived.KernelRfl
import Derived.RowKit3
import Derived.Deep.LoopGhost
import Derived.Deep.QuietTactic
import Derived.BigQuiet
import Derived.WideLaws
import Derived.Deep.DeepCutAuto
import Derived.Deep.CutBlock
import Derived.Deep.RegionHeld3
import Derived.Laws.Rows
import Derived.Lib.AppendStr
import Derived.ArgAppend
import Derived.Laws.IdiomCopy
import Derived.OrdersHeld
import Derived.Laws.BitsLemmas
import Derived.RowKit
import Derived.Test.YtnnplkhjmdbmbaaDoorShelf
import Derived.Test.YtnnplkhjmdbmbaaDoorHex
import Derived.Test.YtnnplkhjmdbmbaaDoorWWords
import Derived.Test.YtnnplkhjmdbmbaaDoorWLast
import Derived.Test.YtnnplkhjmdbmbaaDoorWTab
import Derived.Test.YtnnplkhjmdbmbaaDoorWFour
import Derived.Test.YtnnplkhjmdbmbaaDoorWQPut
import Derived.Test.YtnnplkhjmdbmbaaDoorWApart
import Derived.Test.YtnnplkhjmdbmbaaDoorWArr
import Derived.Test.YtnnplkhjmdbmbaaDoorWZeros
import Derived.Test.YtnnplkhjmdbmbaaDoorWFoot
import Derived.Test.YtnnplkhjmdbmbaaDoorWKept
import Derived.Test.YtnnplkhjmdbmbaaDoorWShare
import Derived.Test.YtnnplkhjmdbmbaaDoorWN
import Derived.Test.YtnnplkhjmdbmbaaDoorWFootNe
import Derived.Test.YtnnplkhjmdbmbaaDoorWAt
import Derived.Test.YtnnplkhjmdbmbaaDoorWEqStruct
import Derived.Test.YtnnplkhjmdbmbaaDoorWRepsOne
import Derived.Test.YtnnplkhjmdbmbaaDoorWInv
import Derived.Test.YtnnplkhjmdbmbaaDoorWInvWords
import Derived.Test.YtnnplkhjmdbmbaaDoorWGuard
import Derived.Test.YtnnplkhjmdbmbaaDoorWNEv
import Derived.Test.YtnnplkhjmdbmbaaDoorWMore
namespace Go.Proofs.YtnnplkhjmdbmbaaDoor.PFnAddrText
open Go.RowKit Go.Proofs.YtnnplkhjmdbmbaaDoorW.PrintWords Go.Proofs.YtnnplkhjmdbmbaaDoorW.PrintLast Go.Proofs.YtnnplkhjmdbmbaaDoorW.PrintMore
attribute [local go_sem] max2_int min2_int max_two min_two max_three min_three max_four min_four   -- for this text's walks alone
set_option linter.unusedVariables false
set_option linter.unusedSimpArgs false



def errW : Option Int → Value
  | none => .nilIface
  | some c => .iface 0 (.int .i64 c)
theorem errW_none : errW none = .nilIface := rfl
theorem errW_some (c : Int) : errW (some c) = .iface 0 (.int .i64 c) := rfl

-- what is asked of the library's variables
def bits64Tab : List Int := [0, 1, 56, 2, 57, 49, 28, 3, 61, 58, 42, 50, 38, 29, 17, 4, 62, 47, 59, 36, 45, 43, 51, 22, 53, 39, 33, 30, 24, 18, 12, 5, 63, 55, 48, 27, 60, 41, 37, 16, 46, 35, 44, 21, 52, 32, 23, 11, 54, 26, 40, 15, 34, 20, 31, 10, 25, 14, 19, 9, 13, 8, 7, 6]
def Door (w : World) : Prop := (∃ m : Int, w.cell? ⟨1, 0, none⟩ = some (.int .i64 m)) ∧ Lib.TabIs Tryd.prog w "internal/strconv.uint64pow10" .u64 Lib.pow10Tab ∧ Lib.TabIs Tryd.prog w "math/bits.deBruijn64tab" .u8 bits64Tab
theorem Door.c_below {w w1 : World} (h : Door w) (hb : Below w.heap.size w w1) : Door w1 := by
  refine ⟨?_, ?_, ?_⟩
  · exact h.1.imp fun _ hm => (hb.cell (World.block_lt_of_cell? w _ hm)).trans hm
  · exact by
      have h2 := h.2.1
      unfold Lib.TabIs World.var? at h2 ⊢
      rw [show Tryd.prog.globalNamed "internal/strconv.uint64pow10" = some 0 from by kernel_rfl, Option.bind_some] at h2 ⊢
      have hlt : 0 < w.heap.size := by
        rcases Nat.lt_or_ge 0 w.heap.size with hz | hz
        · exact hz
        · rw [Array.getElem?_eq_none (by omega)] at h2
          cases h2
      rw [hb.block 0 hlt]
      exact h2
  · exact by
      have h2 := h.2.2
      unfold Lib.TabIs World.var? at h2 ⊢
      rw [show Tryd.prog.globalNamed "math/bits.deBruijn64tab" = some 3 from by kernel_rfl, Option.bind_some] at h2 ⊢
      have hlt : 3 < w.heap.size := by
        rcases Nat.lt_or_ge 3 w.heap.size with hz | hz
        · exact hz
        · rw [Array.getElem?_eq_none (by omega)] at h2
          cases h2
      rw [hb.block 3 hlt]
      exact h2
theorem Door.c_alloc {w : World} (h : Door w) (o : Obj) : Door (w.alloc o) := h.c_below (Below.alloc (Below.refl _ _) (Nat.le_refl _) _)
theorem Door.c_drew {w : World} (h : Door w) : Door w.drew := h.c_below (Below.drew (Below.refl _ _))
theorem Door.c_drewN {w : World} (h : Door w) (n : Nat) : Door (w.drewN n) := h.c_below (by induction n with
  | zero => exact Below.refl _ _
  | succ n ih => exact Below.drew ih)
theorem below_grow_drewN (w : World) (k : Nat) (os : Array Obj) : Below w.heap.size w (Go.Sort.grow (w.drewN k) os) := by
  have h : Below w.heap.size w (w.drewN k) := by
    induction k with
    | zero => exact Below.refl _ _
    | succ n ih => exact Below.drew ih
  refine h.trans ⟨rfl, rfl, rfl, ?_, fun b hb => ?_⟩
  · simp [Go.Sort.grow]
  · have hs := h.size
    show ((w.drewN k).heap ++ os)[b]? = (w.drewN k).heap[b]?
    rw [Array.getElem?_append_left (by omega)]

theorem C_conv {P : Program} {ops : Array Oper} {rest : List Oper} {o : Oper} {a : Act} {Q : Exit → Act → World → Prop} {W : World} (e : Nat) (hgd : o.guard = none) (src dst : TypeId) (x : Operand) (ho : o.op = .convert src dst x) (s : ByteArray) (hx : a.eval x = .string s) (hs : P.underlying src = some .string) (hd : P.underlying dst = some (.slice e)) (he : P.underlying e = some (.int .u8)) (xs : List Int) (hxs : xs = bytesOf s) (hm : s.size ≤ 9223372036854775807)
    (h : ∀ A c w1, Kd.C (Kd.int .u8) w1 (some A) xs.length xs → xs.length ≤ c → Below W.heap.size W w1 → wpList P ops Q rest (a.put o.dst (.slice (some A) xs.length c)) w1) : wpList P ops Q (o :: rest) a W := by
  subst hxs
  have hr := print_bytes (P := P) src dst e hs hd he s W
  refine Kd.event_run (w1 := Lib.bytesWorld W e s) (v := .slice (some ⟨W.heap.size, 0, none⟩) s.size (grownCap W s.size 0 e)) hgd (by simp [execOp, ho, hx, hr]) ?_
  have hC := Kd.C_of_reads (d := (0 : Int)) (h1 := fun _ => rfl) (bytes_reads W e s hm)
  have hc := grownCap_ge W s.size 0 e
  rw [← bytesOf_length s] at hC hc
  have hz := h _ _ _ hC hc (bytes_below (Below.refl _ _) (Nat.le_refl _) e s)
  rw [bytesOf_length s] at hz
  exact hz

theorem info5 : (Tryd.prog.info? 5).map (fun i => (i.zero, i.size, i.bytes)) = some (some (.int .u8 0), 1, 1) := by kernel_rfl
theorem info9 : (Tryd.prog.info? 9).map (fun i => (i.zero, i.size, i.bytes)) = some (some (.string ⟨#[]⟩), 1, 16) := by kernel_rfl
-- short words
theorem cells2 {W : World} {g t : Nat} {a0 a1 : Value} (h : W.heap[g]? = some (.cells #[a0, a1] t (0, 0))) : (W.cell? ⟨g, 0, none⟩ = some a0 ∧ W.cell? ⟨g, 1, none⟩ = some a1) ∧ W.frozen? ⟨g, 0, none⟩ = false ∧ W.frozen? ⟨g, 1, none⟩ = false := ⟨⟨(blk_cell h 0).trans rfl, (blk_cell h 1).trans rfl⟩, blk_frozen h 0, blk_frozen h 1⟩
theorem cells3 {W : World} {g t : Nat} {a0 a1 a2 : Value} (h : W.heap[g]? = some (.cells #[a0, a1, a2] t (0, 0))) : (W.cell? ⟨g, 0, none⟩ = some a0 ∧ W.cell? ⟨g, 1, none⟩ = some a1 ∧ W.cell? ⟨g, 2, none⟩ = some a2) ∧ W.frozen? ⟨g, 0, none⟩ = false ∧ W.frozen? ⟨g, 1, none⟩ = false ∧ W.frozen? ⟨g, 2, none⟩ = false := ⟨⟨(blk_cell h 0).trans rfl, (blk_cell h 1).trans rfl, (blk_cell h 2).trans rfl⟩, blk_frozen h 0, blk_frozen h 1, blk_frozen h 2⟩
section
variable {α : Type} {d : Kd α} {e base : Nat} {ok : Nat → Prop} {v : Value} {xs : List α} {w w1 : World}
theorem Rh (h : Aside0 (Kd.R d e w base ok v xs)) (hb : Below w.heap.size w w1 := by repeat (first | (with_reducible exact Below.refl _ _) | apply below_alloc | apply pw_below_drewN | apply below_drew1)) : Kd.R d e w1 base ok v xs := Kd.R_below h.out hb
theorem Sh (h : Aside0 (Kd.S d e w base ok v xs)) (hb : Below w.heap.size w w1 := by repeat (first | (with_reducible exact Below.refl _ _) | apply below_alloc | apply pw_below_drewN | apply below_drew1)) : Kd.S d e w1 base ok v xs := Kd.S_below h.out hb
theorem Bh {g : Nat} {o : Obj} (h : Aside0 (w.heap[g]? = some o)) (hb : Below w.heap.size w w1 := by repeat (first | (with_reducible exact Below.refl _ _) | apply below_alloc | apply pw_below_drewN | apply below_drew1)) : w1.heap[g]? = some o := blk_below h.out hb
theorem Ch {A : Option Addr} {n c : Nat} (h : Aside0 (Kd.R d e w base ok (.slice A n c) xs)) (hb : Below w.heap.size w w1 := by repeat (first | (with_reducible exact Below.refl _ _) | apply below_alloc | apply pw_below_drewN | apply below_drew1)) : Kd.C d w1 A xs.length xs := Kd.C_below (Kd.R_reads' h.out).2.2 hb
theorem wB {P : Prop} (h : P := by repeat (first | (with_reducible first | exact Aside0.out (by assumption) | apply below_alloc | apply pw_below_drewN | apply below_drew1 | refine below_set ?_ (Aside0.out (by assumption))) | exact Aside0.out (by assumption))) : P := h
theorem wT {P : Prop} (h : P := by ((try simp only [List.map_toArray, List.map_cons, List.map_nil]); first | done | rfl | (simp only [List.length_drop, List.length_take]; rfl))) : P := h
end
-- the values' own types

end Go.Proofs.YtnnplkhjmdbmbaaDoor.PFnAddrText
