/-
  equal.Scan: whether two texts are the same, all being looked at. No conditions beside what a row's reading gives.
-/
import Derived.Test.YtokkhnjedmlbhaaZEqAt
namespace Go.Proofs.Ytokkhnjedmlbhaa.Pr
open Go.RowKit Go.Proofs.YtokkhnjedmlbhaaW.PrintWords Go.Proofs.YtokkhnjedmlbhaaW.PrintLast Go.Proofs.YtokkhnjedmlbhaaW.PrintMore
attribute [local go_sem] max2_int min2_int max_two min_two max_three min_three max_four min_four
def scanTo (a b : ByteArray) : Nat → Int
  | 0 => 0
  | k + 1 => Go.bits .or .u8 (scanTo a b k) (Go.bits .or .u8 (Go.bits .xor .u8 (at0 a k) (at0 b k)) (Go.bits .xor .u8 (at1 a k) (at1 b k)))
def equal_Scan.f (a b : ByteArray) : Option (Bool × Int) := if a.size ≤ 9223372036854775807 then if b.size ≤ 9223372036854775807 then some (scanTo a b (max a.size b.size) == 0, mx (a.size : Int) (b.size : Int)) else none else none
set_option maxHeartbeats 1000000 in
theorem equal_Scan.calls (a b : ByteArray) (r1 : Bool) (r2 : Int) (w : World) (h : equal_Scan.f a b = some (r1, r2)) :
    Calls Try.prog 200 #[.string a, .string b] w fun e w' => e = .returned (.tuple #[.bool r1, .int .i64 r2]) ∧ Below w.heap.size w w' := by
  unfold equal_Scan.f at h
  split at h
  case isFalse => cases h
  case isTrue ha =>
  split at h
  case isFalse => cases h
  case isTrue hb =>
  obtain ⟨rfl, rfl⟩ := Prod.mk.inj (Option.some.inj h)
  clear h
  by_cases hc : a.size < b.size
  · have hmx : mx (a.size : Int) (b.size : Int) = (b.size : Int) := by unfold mx; omega
    have hmn : max a.size b.size = b.size := by omega
    rw [hmx, hmn]
    clear hmx hmn
    go_enter Try.func200, Try.ntmps200
    go_wp2
    go_loopw [6, 17] (fun s i wr => ∃ k : Nat, k ≤ b.size ∧ i = .int .i64 k ∧ s = .int .u8 (scanTo a b k) ∧ Aside0 (Below w.heap.size w wr)) (fun _ i _ => b.size - (intOf i).toNat)
    case atStart => exact ⟨0, Nat.zero_le _, rfl, rfl, ⟨Below.refl _ _⟩⟩
    case round =>
      obtain ⟨k, hk, rfl, rfl, HB⟩ := hrel
      by_cases hlt : k < b.size
      · go_wp2_with (go_at_call 222; refine (equal_at.calls _ _ _ (by omega)).mono ?_; rintro e w1 ⟨rfl, hb1⟩)
        rename_i w0 hb0
        have hz0 := HB.out.size
        have hz1 := hb0.size
        have hz2 := hb1.size
        exact ⟨⟨k + 1, hlt, by go_num, rfl, ⟨(((HB.out.trans (hb0.mono hz0)).trans (hb1.mono (by omega))).alloc (by omega) _).alloc (by simp; omega) _⟩⟩, by simp [intOf]; omega⟩
      · obtain rfl : k = b.size := by omega
        go_wp2
        go_ret2
        exact ⟨rfl, HB.out⟩
  · have hmx : mx (a.size : Int) (b.size : Int) = (a.size : Int) := by unfold mx; omega
    have hmn : max a.size b.size = a.size := by omega
    rw [hmx, hmn]
    clear hmx hmn
    go_enter Try.func200, Try.ntmps200
    go_wp2
    go_loopw [6, 17] (fun s i wr => ∃ k : Nat, k ≤ a.size ∧ i = .int .i64 k ∧ s = .int .u8 (scanTo a b k) ∧ Aside0 (Below w.heap.size w wr)) (fun _ i _ => a.size - (intOf i).toNat)
    case atStart => exact ⟨0, Nat.zero_le _, rfl, rfl, ⟨Below.refl _ _⟩⟩
    case round =>
      obtain ⟨k, hk, rfl, rfl, HB⟩ := hrel
      by_cases hlt : k < a.size
      · go_wp2_with (go_at_call 222; refine (equal_at.calls _ _ _ (by omega)).mono ?_; rintro e w1 ⟨rfl, hb1⟩)
        rename_i w0 hb0
        have hz0 := HB.out.size
        have hz1 := hb0.size
        have hz2 := hb1.size
        exact ⟨⟨k + 1, hlt, by go_num, rfl, ⟨(((HB.out.trans (hb0.mono hz0)).trans (hb1.mono (by omega))).alloc (by omega) _).alloc (by simp; omega) _⟩⟩, by simp [intOf]; omega⟩
      · obtain rfl : k = a.size := by omega
        go_wp2
        go_ret2
        exact ⟨rfl, HB.out⟩
end Go.Proofs.Ytokkhnjedmlbhaa.Pr
