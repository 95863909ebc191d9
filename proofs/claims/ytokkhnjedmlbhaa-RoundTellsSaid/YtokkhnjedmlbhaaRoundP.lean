/-
  What the program's steps of a round come to, on natural numbers. Plain.
-/
import Derived.Test.YtokkhnjedmlbhaaRoundM
import Derived.Test.YtokkhnjedmlbhaaRound
import Derived.Test.YtokkhnjedmlbhaaPrk
namespace Go.Proofs.Ytokkhnjedmlbhaa.M
open Go.RowKit Go.Proofs.Ytokkhnjedmlbhaa.Pr Go.Proofs.YtokkhnjedmlbhaaW.PrintWords Go.Proofs.YtokkhnjedmlbhaaW.PrintLast Go.Proofs.YtokkhnjedmlbhaaW.PrintMore Go.Proofs.YtokkhnjedmlbhaaGf
set_option linter.unusedSimpArgs false
def mxG (g : Nat → Nat) (i : Nat) : Nat := (g i ^^^ (((g (4 * (i / 4)) ^^^ g (4 * (i / 4) + 1)) ^^^ g (4 * (i / 4) + 2)) ^^^ g (4 * (i / 4) + 3))) ^^^ xt (g i ^^^ g (4 * (i / 4) + (i % 4 + 1) % 4))
def prG (g : Nat → Nat) (i : Nat) : Nat := g i ^^^ xt (xt (g (4 * (i / 4) + i % 2) ^^^ g (4 * (i / 4) + i % 2 + 2)))
theorem tw_n {a : Nat} (ha : a < 256) : tw (a : Int) = ((xt a : Nat) : Int) := Option.some.inj ((tw_some _).symm.trans (twice_c ha))
theorem bx8_n {a b : Nat} (ha : a < 256) (hb : b < 256) : bx8 (a : Int) (b : Int) = ((a ^^^ b : Nat) : Int) := bx ha hb
theorem mixI_n {f : Nat → Int} {g : Nat → Nat} (hg : ∀ i, g i < 256) (h : ∀ i, f i = ((g i : Nat) : Int)) (i : Nat) : mixI f i = ((mxG g i : Nat) : Int) := by
  unfold mixI mxG
  rw [h, h, h, h, h, h, bx8_n (hg _) (hg _), bx8_n (xor_lt (hg _) (hg _)) (hg _), bx8_n (xor_lt (xor_lt (hg _) (hg _)) (hg _)) (hg _), bx8_n (hg _) (xor_lt (xor_lt (xor_lt (hg _) (hg _)) (hg _)) (hg _)), bx8_n (hg _) (hg _), tw_n (xor_lt (hg _) (hg _)), bx8_n (xor_lt (hg _) (xor_lt (xor_lt (xor_lt (hg _) (hg _)) (hg _)) (hg _))) (xt_lt (xor_lt (hg _) (hg _)))]
theorem preI_n {f : Nat → Int} {g : Nat → Nat} (hg : ∀ i, g i < 256) (h : ∀ i, f i = ((g i : Nat) : Int)) (i : Nat) : preI f i = ((prG g i : Nat) : Int) := by
  unfold preI prG
  rw [h, h, h, bx8_n (hg _) (hg _), tw_n (xor_lt (hg _) (hg _)), tw_n (xt_lt (xor_lt (hg _) (hg _))), bx8_n (hg _) (xt_lt (xt_lt (xor_lt (hg _) (hg _))))]
theorem mxG_lt {g : Nat → Nat} (hg : ∀ i, g i < 256) (i : Nat) : mxG g i < 256 := xor_lt (xor_lt (hg _) (xor_lt (xor_lt (xor_lt (hg _) (hg _)) (hg _)) (hg _))) (xt_lt (xor_lt (hg _) (hg _)))
theorem prG_lt {g : Nat → Nat} (hg : ∀ i, g i < 256) (i : Nat) : prG g i < 256 := xor_lt (hg _) (xt_lt (xt_lt (xor_lt (hg _) (hg _))))
theorem txt_n {f : Nat → Int} {g : Nat → Nat} (h : ∀ i, f i = ((g i : Nat) : Int)) : txt16 f = T g := by
  unfold txt16 T
  rw [← strOfNums_cast, List.map_map]
  congr 1
  exact List.map_congr_left (fun i _ => h i)
theorem shift_c {s : ByteArray} (hs : s.size = 16) : round_Shift.f s = some (T (SH (bb s))) := by
  unfold round_Shift.f
  rw [if_pos hs]
  exact congrArg some (txt_n (g := SH (bb s)) (fun i => bt_bb s _))
theorem unshift_c {s : ByteArray} (hs : s.size = 16) : round_Unshift.f s = some (T (UH (bb s))) := by
  unfold round_Unshift.f
  rw [if_pos hs]
  exact congrArg some (txt_n (g := UH (bb s)) (fun i => bt_bb s _))
theorem mix_c {s : ByteArray} (hs : s.size = 16) : round_Mix.f s = some (T (mxG (bb s))) := by
  unfold round_Mix.f
  rw [if_pos hs, txt_n (g := mxG (bb s)) (fun i => mixI_n (bb_lt s) (fun j => bt_bb s j) i)]
theorem unmix_c {s : ByteArray} (hs : s.size = 16) : round_Unmix.f s = some (T (mxG (prG (bb s)))) := by
  unfold round_Unmix.f
  rw [if_pos hs]
  unfold unI
  rw [txt_n (g := mxG (prG (bb s))) (fun i => mixI_n (prG_lt (bb_lt s)) (fun j => preI_n (bb_lt s) (fun m => bt_bb s m) j) i)]

end Go.Proofs.Ytokkhnjedmlbhaa.M
