/-
  round.of and its kin: a text of 16 bytes as a state. Conditions: none.
-/
import Derived.Test.YtokkhnjedmlbhaaStateD
namespace Go.Proofs.Ytokkhnjedmlbhaa.Pr
open Go.RowKit Go.Proofs.YtokkhnjedmlbhaaW.PrintWords Go.Proofs.YtokkhnjedmlbhaaW.PrintLast Go.Proofs.YtokkhnjedmlbhaaW.PrintMore
set_option maxHeartbeats 4000000 in
set_option maxRecDepth 100000 in
theorem of_16 (s : ByteArray) (w : World) (hs : s.size = 16) :
    Calls Try.prog 212 #[.string s] w fun e w' => e = .returned (.tuple #[.agg (st16 fun i => bt s i), .bool true]) ∧ Below w.heap.size w w' := by
  have hsI : ((s.size : Nat) : Int) = 16 := by omega
  go_enter Try.func212, Try.ntmps212
  go_wp2
  refine wp_loop_rounds 17 ?_
  iterate 16 (rw [rounds_succ]; go_wp2; go_region; go_wp2)
  rw [rounds_succ]
  go_wp2
  have e : (#[.int .u8 (s[0].toNat : Int), .int .u8 (s[1].toNat : Int), .int .u8 (s[2].toNat : Int), .int .u8 (s[3].toNat : Int), .int .u8 (s[4].toNat : Int), .int .u8 (s[5].toNat : Int), .int .u8 (s[6].toNat : Int), .int .u8 (s[7].toNat : Int), .int .u8 (s[8].toNat : Int), .int .u8 (s[9].toNat : Int), .int .u8 (s[10].toNat : Int), .int .u8 (s[11].toNat : Int), .int .u8 (s[12].toNat : Int), .int .u8 (s[13].toNat : Int), .int .u8 (s[14].toNat : Int), .int .u8 (s[15].toNat : Int)] : Array Value) = st16 (fun i => bt s i) := by
    simp [st16, bt, hs]
  refine bodyPost_ret (v := .tuple #[.agg (st16 fun i => bt s i), .bool true]) ?_ rfl ⟨rfl, by repeat (first | exact (Below.refl _ _).alloc (Nat.le_refl _) _ | apply below_drew1)⟩
  rw [← e]
  simp [results, Try.results212, go_sem]
end Go.Proofs.Ytokkhnjedmlbhaa.Pr
