/-
  A number's bytes: the program's and the reference's. Plain.
-/
import Derived.Test.YtokkhnjedmlbhaaZXorP
import Derived.Test.YtokkhnjedmlbhaaZPrg01
import Derived.Test.YtokkhnjedmlbhaaZPrg01x
namespace Go.Proofs.Ytokkhnjedmlbhaa.M
open Go.RowKit Go.Proofs.Ytokkhnjedmlbhaa.Pr Go.Proofs.YtokkhnjedmlbhaaW.PrintWords Go.Proofs.YtokkhnjedmlbhaaW.PrintLast Go.Proofs.YtokkhnjedmlbhaaW.PrintMore Go.Proofs.YtokkhnjedmlbhaaGf
set_option linter.unusedSimpArgs false
/-- The lowest bytes of a number, the greatest first. -/
def lowL (u : Nat) : Nat → List Nat
  | 0 => []
  | i + 1 => u / 256 ^ i % 256 :: lowL u i
theorem lowL_length (u : Nat) : ∀ i, (lowL u i).length = i
  | 0 => rfl
  | i + 1 => by simp [lowL, lowL_length u i]
theorem put_1 (u : Nat) : octets_Put.f (u : Int) 1 = some (mkB (lowL u 1)) := by
  unfold octets_Put.f
  rw [if_neg (by decide), if_neg (by decide)]
  show some (strOfNums [(u : Int) % 256]) = some (mkB [u / 1 % 256])
  rw [Nat.div_one, ← strOfNums_cast]
  rfl
theorem put_4 (u : Nat) : octets_Put.f (u : Int) 4 = some (mkB (lowL u 4)) := by
  unfold octets_Put.f
  rw [if_neg (by decide), if_neg (by decide)]
  show some (strOfNums [(u : Int) / 16777216 % 256, (u : Int) / 65536 % 256, (u : Int) / 256 % 256, (u : Int) % 256]) = some (mkB [u / 16777216 % 256, u / 65536 % 256, u / 256 % 256, u / 1 % 256])
  rw [Nat.div_one, ← strOfNums_cast]
  rfl
theorem rputL (u wd : Nat) (hu : u < 18446744073709551616) (hw : wd ≤ 8) (d : Nat) : ∀ i, wd - i = d → i ≤ wd → Ev (fun k => clavigerref01_Put.l0 k ((u / 256 ^ i : Nat) : Int) (wd : Int) (mkB (lowL u i)) (i : Int)) (mkB (lowL u wd)) := by
  induction d with
  | zero =>
    intro i hd hi
    obtain rfl : i = wd := by omega
    refine Ev.step (f := fun _ => some (mkB (lowL u i))) (fun k => ?_) (Ev.now _)
    simp only [clavigerref01_Put.l0]
    rw [if_neg (by omega)]
  | succ d ih =>
    intro i hd hi
    have hh := ih (i + 1) (by omega) (by omega)
    have hq : u / 256 ^ i ≤ u := Nat.div_le_self _ _
    have e1 : u / 256 ^ (i + 1) = u / 256 ^ i / 256 := by rw [Nat.pow_succ, Nat.div_div_eq_div_mul]
    have e2 : lowL u (i + 1) = u / 256 ^ i % 256 :: lowL u i := rfl
    rw [e1, e2] at hh
    generalize u / 256 ^ i = q at *
    have e3 : (Int.tmod (q : Int) 256) % 256 = ((q % 256 : Nat) : Int) := by rw [Int.tmod_eq_emod_of_nonneg (by omega)]; omega
    have e4 : IntKind.u64.wrap (Int.tdiv (q : Int) 256) = ((q / 256 : Nat) : Int) := by rw [Int.tdiv_eq_ediv_of_nonneg (by omega), IntKind.wrap_u64]; omega
    refine Ev.step (fun k => ?_) hh
    simp only [clavigerref01_Put.l0, e3, e4, Option.bind_some]
    rw [if_pos (by omega), sNs1, mkB_append, if_pos (by rw [mkB_size, mkB_size, lowL_length]; show 1 + i ≤ _; omega), wrap_id (by omega) (by omega)]
    rfl
theorem rput_c (u wd : Nat) (hu : u < 18446744073709551616) (hw : 1 ≤ wd) (hw2 : wd ≤ 8) : Ev (fun k => clavigerref01_Put.f k (u : Int) (wd : Int)) (mkB (lowL u wd)) := by
  unfold clavigerref01_Put.f
  refine evn (by omega) ?_
  have hh := rputL u wd hu hw2 _ 0 rfl (by omega)
  rw [Nat.pow_zero, Nat.div_one] at hh
  refine Ev.step (fun k => ?_) hh
  simp only [clavigerref01_Put.j0]
  rw [if_neg (by simp; omega)]
  rfl
end Go.Proofs.Ytokkhnjedmlbhaa.M
