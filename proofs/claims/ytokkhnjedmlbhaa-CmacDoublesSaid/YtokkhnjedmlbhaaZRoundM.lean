-- several texts in one (by the session's program shake.py)
import Derived.Test.YtokkhnjedmlbhaaZAesD
import Derived.Test.YtokkhnjedmlbhaaZShelf
import Derived.Test.YtokkhnjedmlbhaaZPrg08
import Derived.Test.YtokkhnjedmlbhaaZPrg01x
import Derived.Test.YtokkhnjedmlbhaaZJoin
section
namespace Go.Proofs.Ytokkhnjedmlbhaa.Pr
open Go.RowKit Go.Proofs.YtokkhnjedmlbhaaW.PrintWords Go.Proofs.YtokkhnjedmlbhaaW.PrintLast Go.Proofs.YtokkhnjedmlbhaaW.PrintMore Go.Proofs.YtokkhnjedmlbhaaHw
/-- The eight bytes of a number, the greatest first. -/
def putAll (n : Int) : List Int := [n / 72057594037927936 % 256, n / 281474976710656 % 256, n / 1099511627776 % 256, n / 4294967296 % 256, n / 16777216 % 256, n / 65536 % 256, n / 256 % 256, n % 256]
def octets_Put.f (n wd : Int) : Option ByteArray := if wd < 1 then some ⟨#[]⟩ else if wd > 8 then some ⟨#[]⟩ else some (strOfNums ((putAll n).drop (8 - wd).toNat))
set_option maxHeartbeats 2000000 in
set_option maxRecDepth 100000 in
theorem octets_Put.walk (n wd : Int) (w : World) (h1 : 1 ≤ wd) (h8 : wd ≤ 8) :
    Calls Try.prog 189 #[.int .u64 n, .int .i64 wd] w fun e w' => e = .returned (.string (strOfNums ((putAll n).drop (8 - wd).toNat))) ∧ Below w.heap.size w w' := by
  have c1 : decide (wd < 1) = false := decide_eq_false (by omega)
  have c2 : decide (8 < wd) = false := decide_eq_false (by omega)
  go_enter Try.func189, Try.ntmps189
  go_wp2
  refine wp_loop_rounds 9 ?_
  iterate 8 (rw [rounds_succ]; go_wp2)
  rw [rounds_succ]
  clear c1 c2
  have hw : wd = 1 ∨ wd = 2 ∨ wd = 3 ∨ wd = 4 ∨ wd = 5 ∨ wd = 6 ∨ wd = 7 ∨ wd = 8 := by omega
  rcases hw with rfl | rfl | rfl | rfl | rfl | rfl | rfl | rfl
  · have hcv : (convert 66 9 (.slice (some ⟨w.heap.size, 7, none⟩) 1 1)).run Try.prog (w.alloc (.cells #[.int .u8 (n / 72057594037927936 % 256), .int .u8 (n / 281474976710656 % 256), .int .u8 (n / 1099511627776 % 256), .int .u8 (n / 4294967296 % 256), .int .u8 (n / 16777216 % 256), .int .u8 (n / 65536 % 256), .int .u8 (n / 256 % 256), .int .u8 (n % 256)] 144)) = .ok (.string (strOfNums ((putAll n).drop 7))) (w.alloc (.cells #[.int .u8 (n / 72057594037927936 % 256), .int .u8 (n / 281474976710656 % 256), .int .u8 (n / 1099511627776 % 256), .int .u8 (n / 4294967296 % 256), .int .u8 (n / 16777216 % 256), .int .u8 (n / 65536 % 256), .int .u8 (n / 256 % 256), .int .u8 (n % 256)] 144)) :=
      conv_cells (P := Try.prog) w 144 66 5 9 Try.underlying66 Try.underlying5 Try.underlying9 _ (putAll n) ((putAll n).drop 7) rfl 7 1 1 rfl rfl
    go_wp2
    go_ret
    exact ⟨rfl, (Below.refl _ _).alloc (Nat.le_refl _) _⟩
  · have hcv : (convert 66 9 (.slice (some ⟨w.heap.size, 6, none⟩) 2 2)).run Try.prog (w.alloc (.cells #[.int .u8 (n / 72057594037927936 % 256), .int .u8 (n / 281474976710656 % 256), .int .u8 (n / 1099511627776 % 256), .int .u8 (n / 4294967296 % 256), .int .u8 (n / 16777216 % 256), .int .u8 (n / 65536 % 256), .int .u8 (n / 256 % 256), .int .u8 (n % 256)] 144)) = .ok (.string (strOfNums ((putAll n).drop 6))) (w.alloc (.cells #[.int .u8 (n / 72057594037927936 % 256), .int .u8 (n / 281474976710656 % 256), .int .u8 (n / 1099511627776 % 256), .int .u8 (n / 4294967296 % 256), .int .u8 (n / 16777216 % 256), .int .u8 (n / 65536 % 256), .int .u8 (n / 256 % 256), .int .u8 (n % 256)] 144)) :=
      conv_cells (P := Try.prog) w 144 66 5 9 Try.underlying66 Try.underlying5 Try.underlying9 _ (putAll n) ((putAll n).drop 6) rfl 6 2 2 rfl rfl
    go_wp2
    go_ret
    exact ⟨rfl, (Below.refl _ _).alloc (Nat.le_refl _) _⟩
  · have hcv : (convert 66 9 (.slice (some ⟨w.heap.size, 5, none⟩) 3 3)).run Try.prog (w.alloc (.cells #[.int .u8 (n / 72057594037927936 % 256), .int .u8 (n / 281474976710656 % 256), .int .u8 (n / 1099511627776 % 256), .int .u8 (n / 4294967296 % 256), .int .u8 (n / 16777216 % 256), .int .u8 (n / 65536 % 256), .int .u8 (n / 256 % 256), .int .u8 (n % 256)] 144)) = .ok (.string (strOfNums ((putAll n).drop 5))) (w.alloc (.cells #[.int .u8 (n / 72057594037927936 % 256), .int .u8 (n / 281474976710656 % 256), .int .u8 (n / 1099511627776 % 256), .int .u8 (n / 4294967296 % 256), .int .u8 (n / 16777216 % 256), .int .u8 (n / 65536 % 256), .int .u8 (n / 256 % 256), .int .u8 (n % 256)] 144)) :=
      conv_cells (P := Try.prog) w 144 66 5 9 Try.underlying66 Try.underlying5 Try.underlying9 _ (putAll n) ((putAll n).drop 5) rfl 5 3 3 rfl rfl
    go_wp2
    go_ret
    exact ⟨rfl, (Below.refl _ _).alloc (Nat.le_refl _) _⟩
  · have hcv : (convert 66 9 (.slice (some ⟨w.heap.size, 4, none⟩) 4 4)).run Try.prog (w.alloc (.cells #[.int .u8 (n / 72057594037927936 % 256), .int .u8 (n / 281474976710656 % 256), .int .u8 (n / 1099511627776 % 256), .int .u8 (n / 4294967296 % 256), .int .u8 (n / 16777216 % 256), .int .u8 (n / 65536 % 256), .int .u8 (n / 256 % 256), .int .u8 (n % 256)] 144)) = .ok (.string (strOfNums ((putAll n).drop 4))) (w.alloc (.cells #[.int .u8 (n / 72057594037927936 % 256), .int .u8 (n / 281474976710656 % 256), .int .u8 (n / 1099511627776 % 256), .int .u8 (n / 4294967296 % 256), .int .u8 (n / 16777216 % 256), .int .u8 (n / 65536 % 256), .int .u8 (n / 256 % 256), .int .u8 (n % 256)] 144)) :=
      conv_cells (P := Try.prog) w 144 66 5 9 Try.underlying66 Try.underlying5 Try.underlying9 _ (putAll n) ((putAll n).drop 4) rfl 4 4 4 rfl rfl
    go_wp2
    go_ret
    exact ⟨rfl, (Below.refl _ _).alloc (Nat.le_refl _) _⟩
  · have hcv : (convert 66 9 (.slice (some ⟨w.heap.size, 3, none⟩) 5 5)).run Try.prog (w.alloc (.cells #[.int .u8 (n / 72057594037927936 % 256), .int .u8 (n / 281474976710656 % 256), .int .u8 (n / 1099511627776 % 256), .int .u8 (n / 4294967296 % 256), .int .u8 (n / 16777216 % 256), .int .u8 (n / 65536 % 256), .int .u8 (n / 256 % 256), .int .u8 (n % 256)] 144)) = .ok (.string (strOfNums ((putAll n).drop 3))) (w.alloc (.cells #[.int .u8 (n / 72057594037927936 % 256), .int .u8 (n / 281474976710656 % 256), .int .u8 (n / 1099511627776 % 256), .int .u8 (n / 4294967296 % 256), .int .u8 (n / 16777216 % 256), .int .u8 (n / 65536 % 256), .int .u8 (n / 256 % 256), .int .u8 (n % 256)] 144)) :=
      conv_cells (P := Try.prog) w 144 66 5 9 Try.underlying66 Try.underlying5 Try.underlying9 _ (putAll n) ((putAll n).drop 3) rfl 3 5 5 rfl rfl
    go_wp2
    go_ret
    exact ⟨rfl, (Below.refl _ _).alloc (Nat.le_refl _) _⟩
  · have hcv : (convert 66 9 (.slice (some ⟨w.heap.size, 2, none⟩) 6 6)).run Try.prog (w.alloc (.cells #[.int .u8 (n / 72057594037927936 % 256), .int .u8 (n / 281474976710656 % 256), .int .u8 (n / 1099511627776 % 256), .int .u8 (n / 4294967296 % 256), .int .u8 (n / 16777216 % 256), .int .u8 (n / 65536 % 256), .int .u8 (n / 256 % 256), .int .u8 (n % 256)] 144)) = .ok (.string (strOfNums ((putAll n).drop 2))) (w.alloc (.cells #[.int .u8 (n / 72057594037927936 % 256), .int .u8 (n / 281474976710656 % 256), .int .u8 (n / 1099511627776 % 256), .int .u8 (n / 4294967296 % 256), .int .u8 (n / 16777216 % 256), .int .u8 (n / 65536 % 256), .int .u8 (n / 256 % 256), .int .u8 (n % 256)] 144)) :=
      conv_cells (P := Try.prog) w 144 66 5 9 Try.underlying66 Try.underlying5 Try.underlying9 _ (putAll n) ((putAll n).drop 2) rfl 2 6 6 rfl rfl
    go_wp2
    go_ret
    exact ⟨rfl, (Below.refl _ _).alloc (Nat.le_refl _) _⟩
  · have hcv : (convert 66 9 (.slice (some ⟨w.heap.size, 1, none⟩) 7 7)).run Try.prog (w.alloc (.cells #[.int .u8 (n / 72057594037927936 % 256), .int .u8 (n / 281474976710656 % 256), .int .u8 (n / 1099511627776 % 256), .int .u8 (n / 4294967296 % 256), .int .u8 (n / 16777216 % 256), .int .u8 (n / 65536 % 256), .int .u8 (n / 256 % 256), .int .u8 (n % 256)] 144)) = .ok (.string (strOfNums ((putAll n).drop 1))) (w.alloc (.cells #[.int .u8 (n / 72057594037927936 % 256), .int .u8 (n / 281474976710656 % 256), .int .u8 (n / 1099511627776 % 256), .int .u8 (n / 4294967296 % 256), .int .u8 (n / 16777216 % 256), .int .u8 (n / 65536 % 256), .int .u8 (n / 256 % 256), .int .u8 (n % 256)] 144)) :=
      conv_cells (P := Try.prog) w 144 66 5 9 Try.underlying66 Try.underlying5 Try.underlying9 _ (putAll n) ((putAll n).drop 1) rfl 1 7 7 rfl rfl
    go_wp2
    go_ret
    exact ⟨rfl, (Below.refl _ _).alloc (Nat.le_refl _) _⟩
  · have hcv : (convert 66 9 (.slice (some ⟨w.heap.size, 0, none⟩) 8 8)).run Try.prog (w.alloc (.cells #[.int .u8 (n / 72057594037927936 % 256), .int .u8 (n / 281474976710656 % 256), .int .u8 (n / 1099511627776 % 256), .int .u8 (n / 4294967296 % 256), .int .u8 (n / 16777216 % 256), .int .u8 (n / 65536 % 256), .int .u8 (n / 256 % 256), .int .u8 (n % 256)] 144)) = .ok (.string (strOfNums ((putAll n).drop 0))) (w.alloc (.cells #[.int .u8 (n / 72057594037927936 % 256), .int .u8 (n / 281474976710656 % 256), .int .u8 (n / 1099511627776 % 256), .int .u8 (n / 4294967296 % 256), .int .u8 (n / 16777216 % 256), .int .u8 (n / 65536 % 256), .int .u8 (n / 256 % 256), .int .u8 (n % 256)] 144)) :=
      conv_cells (P := Try.prog) w 144 66 5 9 Try.underlying66 Try.underlying5 Try.underlying9 _ (putAll n) ((putAll n).drop 0) rfl 0 8 8 rfl rfl
    go_wp2
    go_ret
    exact ⟨rfl, (Below.refl _ _).alloc (Nat.le_refl _) _⟩
set_option maxHeartbeats 1000000 in
theorem octets_Put.calls (n wd : Int) (r : ByteArray) (w : World) (h : octets_Put.f n wd = some r) :
    Calls Try.prog 189 #[.int .u64 n, .int .i64 wd] w fun e w' => e = .returned (.string r) ∧ Below w.heap.size w w' := by
  unfold octets_Put.f at h
  by_cases h1 : wd < 1
  · rw [if_pos h1] at h
    obtain rfl := Option.some.inj h
    have c1 : decide (wd < 1) = true := decide_eq_true h1
    clear h1 h
    go_enter Try.func189, Try.ntmps189
    go_wp2
    go_ret
    exact ⟨rfl, Below.refl _ _⟩
  · rw [if_neg h1] at h
    by_cases h8 : wd > 8
    · rw [if_pos h8] at h
      obtain rfl := Option.some.inj h
      have c1 : decide (wd < 1) = false := decide_eq_false h1
      have c2 : decide (8 < wd) = true := decide_eq_true h8
      clear h1 h
      go_enter Try.func189, Try.ntmps189
      go_wp2
      go_ret
      exact ⟨rfl, Below.refl _ _⟩
    · rw [if_neg h8] at h
      obtain rfl := Option.some.inj h
      exact octets_Put.walk n wd w (by omega) (by omega)
end Go.Proofs.Ytokkhnjedmlbhaa.Pr
end
section
namespace Go.Proofs.Ytokkhnjedmlbhaa.Pr
open Go.RowKit Go.Proofs.YtokkhnjedmlbhaaW.PrintWords Go.Proofs.YtokkhnjedmlbhaaW.PrintLast Go.Proofs.YtokkhnjedmlbhaaW.PrintMore
attribute [local go_sem] max2_int min2_int max_two min_two max_three min_three max_four min_four   -- for this text's walks alone
set_option linter.unusedVariables false
set_option linter.unusedSimpArgs false

def sched_Words.l0 : Nat → List ByteArray → List Int → Int → Int → Option (List ByteArray)
 | 0, _, _, _, _ => none
 | k + 1, x3, x7, x8, x9 => if x9 < x8 then (if 0 ≤ x9 then (if x9 < (x7.length : Int) then ((octets_Put.f (IntKind.u64.wrap (rd x7 x9)) 4).bind fun t1 => (if x3.length < 8796093022208 then (sched_Words.l0 k (x3 ++ [t1]) x7 x8 (wrap64 (x9 + 1))) else (none))) else (none)) else (none)) else (some x3)
def sched_Words.f (k : Nat) (a0 : ByteArray) : Option (List ByteArray) := (sched_expand.f k a0).bind fun t2 => (sched_Words.l0 k ([] : List ByteArray) t2 (t2.length : Int) 0)
theorem sched_Words.mono_l : ∀ k, (∀ y3 y4 y5 y6, LeO (sched_Words.l0 k y3 y4 y5 y6) (sched_Words.l0 (k + 1) y3 y4 y5 y6))
 | 0 => fun _ _ _ _ r h => by simp [sched_Words.l0] at h
 | k + 1 => by
  have ih0 := sched_Words.mono_l k
  ·intro y3 y4 y5 y6
   unfold sched_Words.l0
   repeat' first
   | (with_reducible exact ih0 _ _ _ _)
   | (with_reducible exact sched_expand.mono _ _)
   | (with_reducible exact LeO.refl _)
   | (with_reducible exact LeO.none _)
   | (with_reducible refine LeO.ite ?_ ?_)
   | (with_reducible refine LeO.bind ?_ (fun _ => ?_))
theorem sched_Words.mono : ∀ a0 k, LeO (sched_Words.f k a0) (sched_Words.f (k + 1) a0) := by
 intro a0 k
 have ih0 := sched_Words.mono_l k
 unfold sched_Words.f
 repeat' first
   | (with_reducible exact ih0 _ _ _ _)
   | (with_reducible exact sched_expand.mono _ _)
   | (with_reducible exact LeO.refl _)
   | (with_reducible exact LeO.none _)
   | (with_reducible refine LeO.ite ?_ ?_)
   | (with_reducible refine LeO.bind ?_ (fun _ => ?_))
set_option maxHeartbeats 8000000 in
set_option maxRecDepth 100000 in
theorem sched_Words.calls (k : Nat) (a0 : ByteArray) (r : List ByteArray) (w : World) (h : sched_Words.f k a0 = some r) :
  Calls Try.prog 95 #[.string a0] w fun e w' => ∃ v0_ : Value, e = .returned (v0_) ∧ Kd.R Kd.string 9 w' w.heap.size (fun _ => True) v0_ r ∧ Below w.heap.size w w' := by
 have HB := Aside0.mk (Below.refl w.heap.size w)
 have H : ((sched_expand.f k a0).bind fun t2 => (sched_Words.l0 k ([] : List ByteArray) t2 (t2.length : Int) 0)) = some r := h
 clear h
 replace H := Option.bind_eq_some_iff.mp H
 obtain ⟨t2, A20, H⟩ := H
 try dsimp only at H
 have A2 := Aside0.mk A20
 clear A20
 have H' := Aside0.mk H
 clear H
 go_enter Try.func95, Try.ntmps95
 go_wp2_with (first | ((with_reducible refine gate_callee (f := 188) rfl ?_); refine goesL_ (some 7) rfl rfl Try.func188 (by kernel_rfl) rfl #[.string a0] rfl (by (try simp only [lT, lC, lN]); first | done | rfl) ?_; (with_reducible refine (sched_expand.calls k a0 t2 _ A2.out).mono ?_); rintro e w3 ⟨v348, rfl, ho0, hb⟩; refine ⟨_, rfl, ?_⟩; have n0_ := Aside0.mk (Kd.R_lower ho0 (below_size (by repeat first | with_reducible (first | exact HB.out | apply bA | apply bN | apply bD) | exact HB.out))); have n1_ := Aside0.mk (below_step (by repeat first | with_reducible (first | exact HB.out | apply bA | apply bN | apply bD) | exact HB.out) hb); clear HB; have HO349 := n0_; have HB := n1_; clear n0_ n1_; (try clear hb); (try clear hb2); (try clear hk); (try clear hi); (try clear ho0); obtain ⟨Ao4, co4, eo4⟩ := Kd.R_slice HO349.out; subst eo4))
 go_loopg [3, 9] k (fun kq v3 v9 w' => ∃ (x3_1 : List ByteArray) (x9_1 : Int), v9 = .int .i64 x9_1 ∧ Aside0 (sched_Words.l0 kq x3_1 t2 (t2.length : Int) x9_1 = some r) ∧ Aside0 (kq ≤ k) ∧ Aside0 (Kd.R Kd.string 9 w' w.heap.size (fun _ => True) v3 x3_1) ∧ Aside0 (Kd.R (Kd.int .u32) 102 w' w.heap.size (fun _ => True) (.slice Ao4 t2.length co4) t2) ∧ Aside0 (Below w.heap.size w w'))
 case atStart => exact ⟨(([] : List ByteArray)), (0), (by first | rfl | (simp; done) | (simp [*]; done)), H', ⟨Nat.le_refl _⟩, ⟨by first | exact Kd.R_nil _ _ _ _ _ | exact Kd.N_nil _ _ _ _ _ | exact Kd.V_nil _ _ _ _ _ | exact Kd.Q_nil _ _ _ _ _ | exact Kd.S_nil _ _ _ _ _⟩, ⟨by (with_reducible repeat (first | apply Kd.R_alloc | apply Kd.R_drewN | apply Kd.R_drew)); exact HO349.out⟩, ⟨by repeat first | with_reducible (first | exact HB.out | apply bA | apply bN | apply bD) | exact HB.out⟩⟩
 case round =>
  clear H'
  try clear c1
  try clear p2
  obtain ⟨x3_1, x9_1, rfl, HA, HK1, HO_3, HO_7, HB⟩ := hrel
  cases gk with
  | zero => exact absurd HA.out (by simp [sched_Words.l0])
  | succ k1 =>
   have H := HA.out
   clear HA
   simp only [sched_Words.l0] at H
   by_cases c5 : x9_1 < (t2.length : Int)
   ·rw [if_pos c5] at H
    have c5b0 : decide (x9_1 < (t2.length : Int)) = true := decide_eq_true c5
    clear c5
    by_cases c6 : 0 ≤ x9_1
    ·rw [if_pos c6] at H
     have c6b0 : decide (0 ≤ x9_1) = true := decide_eq_true c6
     clear c6
     by_cases c7 : x9_1 < (t2.length : Int)
     ·rw [if_pos c7] at H
      have c7b0 : decide (x9_1 < (t2.length : Int)) = true := decide_eq_true c7
      clear c7
      replace H := Option.bind_eq_some_iff.mp H
      obtain ⟨t1, A80, H⟩ := H
      try dsimp only at H
      have A8 := Aside0.mk A80
      clear A80
      by_cases c9 : x3_1.length < 8796093022208
      ·rw [if_pos c9] at H
       have LMc9 := Aside0.mk c9
       clear c9
       obtain ⟨y7, hy7⟩ : ∃ y_ : List ByteArray, y_ = (x3_1 ++ [t1]) := ⟨_, rfl⟩
       replace H : (sched_Words.l0 k1 y7 t2 (t2.length : Int) (wrap64 (x9_1 + 1))) = some r := by first | (rw [hy7]; with_reducible exact H) | (have H2_ := (Option.bind_some _ _).symm.trans H; rw [hy7]; with_reducible exact H2_) | (have H2_ := (Option.bind_some _ _).symm.trans H; with_reducible exact H2_) | with_reducible exact H | (rw [hy7]; exact H) | exact H
       have Ny5001 := Aside0.mk hy7
       clear hy7
       have H' := Aside0.mk H
       clear H
       have p5002 : 0 ≤ (x9_1 : Int) := of_decide_eq_true (by assumption)
       have q5002 : x9_1 < (t2.length : Int) := of_decide_eq_true (by assumption)
       obtain ⟨ad5002, e5002, hx5002_0⟩ := Kd.at_int (Kd.R_reads' HO_7.out).2.2 x9_1 p5002 q5002
       cases e5002
       replace p5002 := eq_true p5002
       replace q5002 := eq_true q5002
       go_wp2_with (first | ((with_reducible refine gate_callee (f := 189) rfl ?_); refine goesL_ (some 16) rfl rfl Try.func189 (by kernel_rfl) rfl #[.int .u64 (IntKind.u64.wrap (rd t2 x9_1)), .int .i64 4] rfl (by (try simp only [lT, lC, lN]); first | done | rfl) ?_; (with_reducible refine (octets_Put.calls (IntKind.u64.wrap (rd t2 x9_1)) 4 t1 _ A8.out).mono ?_); rintro e w10 ⟨rfl, hb⟩; refine ⟨_, rfl, ?_⟩; have n0_ := Aside0.mk (Kd.R_below (by (with_reducible repeat (first | apply Kd.R_alloc | apply Kd.R_drewN | apply Kd.R_drew)); exact HO_3.out) hb); have n1_ := Aside0.mk (Kd.R_below (by (with_reducible repeat (first | apply Kd.R_alloc | apply Kd.R_drewN | apply Kd.R_drew)); exact HO_7.out) hb); have n2_ := Aside0.mk (below_step (by repeat first | with_reducible (first | exact HB.out | apply bA | apply bN | apply bD) | exact HB.out) hb); clear HO_3; clear HO_7; clear HB; have HO_3 := n0_; have HO_7 := n1_; have HB := n2_; clear n0_ n1_ n2_; (try clear hb); (try clear hb2); (try clear hk); (try clear hi)) | ((with_reducible refine gate_builtin (b := .append) (xs := #[.tmp 13, .tmp 17]) rfl ?_); at_builtin; refine Kd.R_append Kd.string (w0 := w) w.heap.size rfl (.tmp 13) (.tmp 17) 49 9 (.string ⟨#[]⟩) 16 rfl Try.underlying49 info9 rfl (by decide) (by omega) u3 x3_1 t1 [.string t1] (fun _ => True) (fun _ => False) rfl rfl ?aP (fun _ hk => hk.elim) ?aF ?aO ?aB ?aS ?aL ?_; (case aP => exact rfl); (case aB => exact (by repeat first | with_reducible (first | exact HB.out | apply bA | apply bN | apply bD) | exact HB.out)); (case aF => exact (fun _ _ => trivial)); (case aO => exact (by (with_reducible repeat (first | apply Kd.R_alloc | apply Kd.R_drewN | apply Kd.R_drew)); exact HO_3.out)); (case aS => exact (below_size (by repeat first | with_reducible (first | exact HB.out | apply bA | apply bN | apply bD) | exact HB.out))); (case aL => have := LMc9.out; omega); intro v353 w11 ho hb hg hat; rw [← Ny5001.out] at ho; have n0_ := Aside0.mk (Kd.R_over' (by (with_reducible repeat (first | apply Kd.R_alloc | apply Kd.R_drewN | apply Kd.R_drew)); exact HO_7.out) (Kd.R_typed (by (with_reducible repeat (first | apply Kd.R_alloc | apply Kd.R_drewN | apply Kd.R_drew)); exact HO_3.out)) (by decide) hg); have n1_ := Aside0.mk (hb); have n2_ := Aside0.mk (ho); clear HO_7; clear HB; clear HO_3; have HO_7 := n0_; have HB := n1_; have HO354 := n2_; clear n0_ n1_ n2_; clear ho hb hg hat))
       go_roundg k1
       case measure => have := HK1.out; omega
       case rel => exact ⟨(y7), (wrap64 (x9_1 + 1)), (by first | rfl | (simp; done) | (simp [*]; done)), H', ⟨by have := HK1.out; omega⟩, ⟨by (with_reducible repeat (first | apply Kd.R_alloc | apply Kd.R_drewN | apply Kd.R_drew)); exact HO354.out⟩, ⟨by (with_reducible repeat (first | apply Kd.R_alloc | apply Kd.R_drewN | apply Kd.R_drew)); exact HO_7.out⟩, ⟨by repeat first | with_reducible (first | exact HB.out | apply bA | apply bN | apply bD) | exact HB.out⟩⟩
      ·rw [if_neg c9] at H
       exact absurd H (by simp)
     ·rw [if_neg c7] at H
      exact absurd H (by simp)
    ·rw [if_neg c6] at H
     exact absurd H (by simp)
   ·rw [if_neg c5] at H
    have c5b0 : decide (x9_1 < (t2.length : Int)) = false := decide_eq_false c5
    clear c5
    obtain rfl := Option.some.inj H
    go_wp2
    go_ret
    exact ⟨_, by first | rfl | (simp [*, errW_none, errW_some] <;> rfl), by (with_reducible repeat (first | apply Kd.R_alloc | apply Kd.R_drewN | apply Kd.R_drew)); exact HO_3.out, by repeat first | with_reducible (first | exact HB.out | apply bA | apply bN | apply bD) | exact HB.out⟩

def sched_Keys.f (k : Nat) (a0 : ByteArray) : Option (List ByteArray × Int) := (sched_Rounds.f (a0.size : Int)).bind fun t1 => (if t1 = 0 then (some (([] : List ByteArray), 2)) else ((sched_Words.f k a0).bind fun t2 => ((octets_Join.f t2).bind fun t3 => ((octets_Pieces.f k t3 16).bind fun t4 => (some (t4, 0))))))
theorem sched_Keys.mono : ∀ a0 k, LeO (sched_Keys.f k a0) (sched_Keys.f (k + 1) a0) := by
 intro a0 k
 unfold sched_Keys.f
 repeat' first
   | (with_reducible exact octets_Pieces.mono _ _ _)
   | (with_reducible exact sched_Words.mono _ _)
   | (with_reducible exact LeO.refl _)
   | (with_reducible exact LeO.none _)
   | (with_reducible refine LeO.ite ?_ ?_)
   | (with_reducible refine LeO.bind ?_ (fun _ => ?_))
set_option maxHeartbeats 8000000 in
set_option maxRecDepth 100000 in
theorem sched_Keys.calls (k : Nat) (a0 : ByteArray) (r1 : List ByteArray) (r2 : Int) (w : World) (h : sched_Keys.f k a0 = some (r1, r2)) :
  Calls Try.prog 87 #[.string a0] w fun e w' => ∃ v0_ : Value, e = .returned (.tuple #[v0_, .int .i64 r2]) ∧ Kd.R Kd.string 9 w' w.heap.size (fun _ => True) v0_ r1 ∧ Below w.heap.size w w' := by
 have HB := Aside0.mk (Below.refl w.heap.size w)
 have H : ((sched_Rounds.f (a0.size : Int)).bind fun t1 => (if t1 = 0 then (some (([] : List ByteArray), 2)) else ((sched_Words.f k a0).bind fun t2 => ((octets_Join.f t2).bind fun t3 => ((octets_Pieces.f k t3 16).bind fun t4 => (some (t4, 0))))))) = some (r1, r2) := h
 clear h
 replace H := Option.bind_eq_some_iff.mp H
 obtain ⟨t1, A20, H⟩ := H
 try dsimp only at H
 have A2 := Aside0.mk A20
 clear A20
 by_cases c3 : t1 = 0
 ·rw [if_pos c3] at H
  have c3b0 : (t1 == 0) = true := beq_iff_eq.mpr c3
  have c3b1 : (t1 != 0) = false := bne_eq_false_iff_eq.mpr c3
  clear c3
  simp only [Option.some.injEq, Prod.mk.injEq] at H
  obtain ⟨rfl, rfl⟩ := H
  go_enter Try.func87, Try.ntmps87
  go_wp2_with (first | ((with_reducible refine gate_callee (f := 88) rfl ?_); refine goesL_ (some 6) rfl rfl Try.func88 (by kernel_rfl) rfl #[.int .i64 (a0.size : Int)] rfl (by (try simp only [lT, lC, lN]); first | done | rfl | (simp only [List.length_drop, List.length_take]; rfl) | (simp only [ByteArray.size_extract, Nat.min_self, Nat.sub_zero, ByteArray.size_append]; first | done | rfl)) ?_; (with_reducible refine (sched_Rounds.calls (a0.size : Int) t1 _ A2.out).mono ?_); rintro e w' ⟨rfl, ⟨nd, rfl⟩⟩; refine ⟨_, rfl, ?_⟩))
  go_ret2
  exact ⟨_, by first | rfl | (simp [*, errW_none, errW_some] <;> rfl), by first | exact Kd.R_nil _ _ _ _ _ | exact Kd.N_nil _ _ _ _ _ | exact Kd.V_nil _ _ _ _ _ | exact Kd.Q_nil _ _ _ _ _ | exact Kd.S_nil _ _ _ _ _, by repeat first | with_reducible (first | exact HB.out | apply bA | apply bN | apply bD) | exact HB.out⟩
 ·rw [if_neg c3] at H
  have c3b0 : (t1 == 0) = false := beq_eq_false_iff_ne.mpr c3
  have c3b1 : (t1 != 0) = true := bne_iff_ne.mpr c3
  replace H := Option.bind_eq_some_iff.mp H
  obtain ⟨t2, A40, H⟩ := H
  try dsimp only at H
  have A4 := Aside0.mk A40
  clear A40
  replace H := Option.bind_eq_some_iff.mp H
  obtain ⟨t3, A50, H⟩ := H
  try dsimp only at H
  have A5 := Aside0.mk A50
  clear A50
  replace H := Option.bind_eq_some_iff.mp H
  obtain ⟨t4, A60, H⟩ := H
  replace H : (some (t4, 0)) = some (r1, r2) := H
  have A6 := Aside0.mk A60
  clear A60
  simp only [Option.some.injEq, Prod.mk.injEq] at H
  obtain ⟨rfl, rfl⟩ := H
  go_enter Try.func87, Try.ntmps87
  go_wp2_with (first | ((with_reducible refine gate_callee (f := 88) rfl ?_); refine goesL_ (some 6) rfl rfl Try.func88 (by kernel_rfl) rfl #[.int .i64 (a0.size : Int)] rfl (by (try simp only [lT, lC, lN]); first | done | rfl | (simp only [List.length_drop, List.length_take]; rfl) | (simp only [ByteArray.size_extract, Nat.min_self, Nat.sub_zero, ByteArray.size_append]; first | done | rfl)) ?_; (with_reducible refine (sched_Rounds.calls (a0.size : Int) t1 _ A2.out).mono ?_); rintro e w' ⟨rfl, ⟨nd, rfl⟩⟩; refine ⟨_, rfl, ?_⟩) | ((with_reducible refine gate_callee (f := 95) rfl ?_); refine goesL_ (some 9) rfl rfl Try.func95 (by kernel_rfl) rfl #[.string a0] rfl (by (try simp only [lT, lC, lN]); first | done | rfl) ?_; (with_reducible refine (sched_Words.calls k a0 t2 _ A4.out).mono ?_); rintro e w7 ⟨v357, rfl, ho0, hb⟩; refine ⟨_, rfl, ?_⟩; have n0_ := Aside0.mk (Kd.R_lower ho0 (below_size (by repeat first | with_reducible (first | exact HB.out | apply bA | apply bN | apply bD) | exact HB.out))); have n1_ := Aside0.mk (below_step (by repeat first | with_reducible (first | exact HB.out | apply bA | apply bN | apply bD) | exact HB.out) hb); clear HB; have HO358 := n0_; have HB := n1_; clear n0_ n1_; (try clear hb); (try clear hb2); (try clear hk); (try clear hi); (try clear ho0); obtain ⟨Ao8, co8, eo8⟩ := Kd.R_slice HO358.out; subst eo8) | ((with_reducible refine gate_callee (f := 89) rfl ?_); refine goesL_ (some 10) rfl rfl Try.func89 (by kernel_rfl) rfl #[.slice Ao8 t2.length co8] rfl (by (try simp only [lT, lC, lN]); first | done | rfl | (simp only [List.length_drop, List.length_take]; rfl) | (simp only [ByteArray.size_extract, Nat.min_self, Nat.sub_zero, ByteArray.size_append]; first | done | rfl)) ?_; (with_reducible refine (octets_Join.calls _ _ t2 t3 _ ?side1 ?side2 A5.out).mono ?_); (case side1 => repeat (first | exact (Kd.R_reads' HO358.out).2.2 | (with_reducible refine Kd.C_alloc ?_ _) | (with_reducible refine Kd.C_drewN ?_ _) | (with_reducible refine Kd.C_drew ?_))); (case side2 => exact (Kd.R_reads' HO358.out).2.1); rintro e w9 ⟨rfl, hb⟩; refine ⟨_, rfl, ?_⟩; have n0_ := Aside0.mk (Kd.R_below (by (with_reducible repeat (first | apply Kd.R_alloc | apply Kd.R_drewN | apply Kd.R_drew)); exact HO358.out) hb); have n1_ := Aside0.mk (below_step (by repeat first | with_reducible (first | exact HB.out | apply bA | apply bN | apply bD) | exact HB.out) hb); clear HO358; clear HB; have HO358 := n0_; have HB := n1_; clear n0_ n1_; (try clear hb); (try clear hb2); (try clear hk); (try clear hi)) | ((with_reducible refine gate_callee (f := 186) rfl ?_); refine goesL_ (some 11) rfl rfl Try.func186 (by kernel_rfl) rfl #[.string t3, .int .i64 16] rfl (by (try simp only [lT, lC, lN]); first | done | rfl) ?_; (with_reducible refine (octets_Pieces.calls k t3 16 t4 _ A6.out).mono ?_); rintro e w10 ⟨v361, rfl, ho0, hb⟩; refine ⟨_, rfl, ?_⟩; have n0_ := Aside0.mk (Kd.R_elder' (by (with_reducible repeat (first | apply Kd.R_alloc | apply Kd.R_drewN | apply Kd.R_drew)); exact HO358.out) (Kd.R_base ho0) hb); have n1_ := Aside0.mk (Kd.R_lower (Kd.R_new' ho0 (Kd.R_lt (by (with_reducible repeat (first | apply Kd.R_alloc | apply Kd.R_drewN | apply Kd.R_drew)); exact HO358.out))) (below_size (by repeat first | with_reducible (first | exact HB.out | apply bA | apply bN | apply bD) | exact HB.out))); have n2_ := Aside0.mk (below_step (by repeat first | with_reducible (first | exact HB.out | apply bA | apply bN | apply bD) | exact HB.out) hb); clear HO358; clear HB; have HO358 := n0_; have HO362 := n1_; have HB := n2_; clear n0_ n1_ n2_; (try clear hb); (try clear hb2); (try clear hk); (try clear hi); (try clear ho0)))
  go_ret2
  exact ⟨_, by first | rfl | (simp [*, errW_none, errW_some] <;> rfl), by (with_reducible repeat (first | apply Kd.R_alloc | apply Kd.R_drewN | apply Kd.R_drew)); exact Kd.R_mono HO362.out (fun _ hk => trivial), by repeat first | with_reducible (first | exact HB.out | apply bA | apply bN | apply bD) | exact HB.out⟩

def sched_Constant.f (k : Nat) (a0 : Int) : Option (Int) := if a0 < 1 then (some 0) else (if a0 > 255 then (some 0) else ((field_Pow.f k 2 (wrap64 (a0 - 1))).bind fun t1 => (some t1)))
theorem sched_Constant.mono : ∀ a0 k, LeO (sched_Constant.f k a0) (sched_Constant.f (k + 1) a0) := by
 intro a0 k
 unfold sched_Constant.f
 repeat' first
   | (with_reducible exact field_Pow.mono _ _ _)
   | (with_reducible exact LeO.refl _)
   | (with_reducible exact LeO.none _)
   | (with_reducible refine LeO.ite ?_ ?_)
   | (with_reducible refine LeO.bind ?_ (fun _ => ?_))
end Go.Proofs.Ytokkhnjedmlbhaa.Pr
end
section
namespace Go.Proofs.Ytokkhnjedmlbhaa.Pr
open Go.RowKit Go.Proofs.YtokkhnjedmlbhaaW.PrintWords Go.Proofs.YtokkhnjedmlbhaaW.PrintLast Go.Proofs.YtokkhnjedmlbhaaW.PrintMore Go.Proofs.YtokkhnjedmlbhaaHw Go.Proofs.YtokkhnjedmlbhaaGf
/-- A cipher in memory: its key's size, the keys of its rounds, the tables. -/
def IsC (w : World) (g n : Nat) (ks : List ByteArray) : Prop := ∃ gk cap gt : Nat, w.heap[g]? = some (.cells #[.int .i64 n, .slice (some ⟨gk, 0, none⟩) ks.length cap, .pointer (some ⟨gt, 0, none⟩)] 108 (0, 0)) ∧ StrRow w gk ks ∧ BY w gt 113 (tabR 256)
theorem IsC.below {w w1 : World} {g n : Nat} {ks : List ByteArray} (h : IsC w g n ks) (hb : Below w.heap.size w w1) : IsC w1 g n ks := by
  obtain ⟨gk, cap, gt, h1, h2, h3⟩ := h
  exact ⟨gk, cap, gt, (hb.block g (blk_lt h1)).trans h1, h2.below hb, h3.below hb⟩
theorem IsC.lt {w : World} {g n : Nat} {ks : List ByteArray} (h : IsC w g n ks) : g < w.heap.size := by
  obtain ⟨gk, cap, gt, h1, h2, h3⟩ := h
  exact blk_lt h1
theorem new_err (k : Nat) (key : ByteArray) (ks : List ByteArray) (e0 : Int) (w : World) (h : sched_Keys.f k key = some (ks, e0)) (he : e0 ≠ 0) :
    Calls Try.prog 104 #[.string key] w fun e w' => e = .returned (.tuple #[.pointer none, .int .i64 e0]) ∧ Below w.heap.size w w' := by
  have HS := Aside0.mk h
  have hb1 : (e0 == 0) = false := beq_eq_false_iff_ne.mpr he
  have hb2 : (e0 != 0) = true := bne_iff_ne.mpr he
  clear h he
  go_enter Try.func104, Try.ntmps104
  go_wp2_with (go_at_call 87; (with_reducible refine (sched_Keys.calls k _ _ _ _ HS.out).mono ?_); rintro e w1 ⟨v0, rfl, hR, hb⟩)
  go_ret2
  exact ⟨rfl, hb⟩
theorem new_calls (k : Nat) (key : ByteArray) (ks : List ByteArray) (w : World) (h : sched_Keys.f k key = some (ks, 0)) (hk : 0 < ks.length) :
    Calls Try.prog 104 #[.string key] w fun e w' => ∃ g : Nat, e = .returned (.tuple #[.pointer (some ⟨g, 0, none⟩), .int .i64 0]) ∧ IsC w' g key.size ks ∧ Below w.heap.size w w' := by
  have HS := Aside0.mk h
  have HP := Aside0.mk hk
  clear h hk
  go_enter Try.func104, Try.ntmps104
  go_wp2_with (first | (go_at_call 87; (with_reducible refine (sched_Keys.calls k _ _ _ _ HS.out).mono ?_); rintro e w1 ⟨v0, rfl, hR, hb⟩; obtain ⟨gk, cap, rfl, hgk, hS⟩ := StrRow.of_R hR HP.out; have HB1 := Aside0.mk hb; have HS1 := Aside0.mk hS; clear hR hb hgk hS) | (go_at_call 192; (with_reducible refine (ready_calls _).mono ?_); rintro e w2 ⟨gt, rfl, hgt, hT, hb2⟩; have HB2 := Aside0.mk (below_then HB1.out HB1.out.size hb2); have HS2 := Aside0.mk (HS1.out.below hb2); have HT2 := Aside0.mk hT; clear hb2 hT))
  go_ret2
  exact ⟨w2.heap.size, rfl, ⟨gk, cap, gt, heap_alloc_new w2 _, HS2.out.alloc _, HT2.out.same (heap_alloc_old _ _ HT2.out.lt)⟩, below_alloc HB2.out _⟩
end Go.Proofs.Ytokkhnjedmlbhaa.Pr
end
section
namespace Go.Proofs.Ytokkhnjedmlbhaa.Pr
open Go.RowKit Go.Proofs.YtokkhnjedmlbhaaW.PrintWords Go.Proofs.YtokkhnjedmlbhaaW.PrintLast Go.Proofs.YtokkhnjedmlbhaaW.PrintMore Go.Proofs.YtokkhnjedmlbhaaHw Go.Proofs.YtokkhnjedmlbhaaGf
theorem IsC.cells {w : World} {g n : Nat} {ks : List ByteArray} (h : IsC w g n ks) : ∃ gk cap gt : Nat, w.cell? ⟨g, 1, none⟩ = some (.slice (some ⟨gk, 0, none⟩) ks.length cap) ∧ w.cell? ⟨g, 2, none⟩ = some (.pointer (some ⟨gt, 0, none⟩)) ∧ StrRow w gk ks ∧ BY w gt 113 (tabR 256) := by
  obtain ⟨gk, cap, gt, h1, h2, h3⟩ := h
  have c1 := blk_cell h1 1
  have c2 := blk_cell h1 2
  simp only [List.getElem?_toArray, List.getElem?_cons_zero, List.getElem?_cons_succ] at c1 c2
  exact ⟨gk, cap, gt, c1, c2, h2, h3⟩
theorem may_ok (g n : Nat) (ks : List ByteArray) (s : ByteArray) (w : World) (h : IsC w g n ks) (hs : s.size = 16) :
    Calls Try.prog 193 #[.pointer (some ⟨g, 0, none⟩), .string s] w fun e w' => e = .returned (.int .i64 0) ∧ w' = w := by
  obtain ⟨gk, cap, gt, c1, c2, _, _⟩ := h.cells
  have hsI : ((s.size : Nat) : Int) = 16 := by omega
  clear h
  go_enter Try.func193, Try.ntmps193
  go_wp2
  go_ret
  exact ⟨rfl, rfl⟩
theorem may_size (g n : Nat) (ks : List ByteArray) (s : ByteArray) (w : World) (h : IsC w g n ks) (hs : s.size ≠ 16) :
    Calls Try.prog 193 #[.pointer (some ⟨g, 0, none⟩), .string s] w fun e w' => e = .returned (.int .i64 4) ∧ w' = w := by
  obtain ⟨gk, cap, gt, c1, c2, _, _⟩ := h.cells
  have hb : (((s.size : Nat) : Int) != 16) = true := bne_iff_ne.mpr (by omega)
  have hb2 : (((s.size : Nat) : Int) == 16) = false := beq_eq_false_iff_ne.mpr (by omega)
  clear h
  go_enter Try.func193, Try.ntmps193
  go_wp2
  go_ret
  exact ⟨rfl, rfl⟩
/-- The first n of sixteen are new, the others old. -/
def mixL (n : Nat) (f o : Nat → Int) : List Int := (List.range 16).map fun q => if q < n then f q else o q
theorem mixL_length (n : Nat) (f o : Nat → Int) : (mixL n f o).length = 16 := by simp [mixL]
theorem mixL_get (n : Nat) (f o : Nat → Int) (i : Nat) (hi : i < 16) : (mixL n f o).getD i 0 = if i < n then f i else o i := by simp [mixL, hi]
theorem mixL_set (n : Nat) (f o : Nat → Int) : (mixL n f o).set n (f n) = mixL (n + 1) f o := by
  apply List.ext_getElem
  · simp [mixL]
  · intro i h1 h2
    have hi : i < 16 := by rw [mixL_length] at h2; exact h2
    rw [List.getElem_set]
    simp only [mixL, List.getElem_map, List.getElem_range]
    by_cases e : n = i
    · subst e; simp
    · rw [if_neg e]
      have : (i < n) = (i < n + 1) := by apply propext; omega
      simp only [this]
theorem mixL_zero (f o : Nat → Int) : mixL 0 f o = (List.range 16).map o := by simp [mixL]
theorem mixL_all (f o : Nat → Int) : mixL 16 f o = (List.range 16).map f := by
  unfold mixL
  exact List.map_congr_left (fun q hq => if_pos (List.mem_range.1 hq))
theorem grownBy_set (W : World) (g j : Nat) (v : Value) : W.grownBy (W.setCell ⟨g, j, none⟩ v) (some g) :=
  ⟨rfl, rfl, rfl, by simp, fun k _ hk => Below.heap_setCell _ _ _ k (fun e => hk (by rw [e]))⟩
theorem grownBy_drew {w W : World} {r : Option Nat} (h : w.grownBy W r) : w.grownBy W.drew r := ⟨h.os, h.tape, h.output, h.size, h.block⟩
set_option maxHeartbeats 1000000 in
theorem add_calls (g : Nat) (f : Nat → Int) (key : ByteArray) (w : World) (hg : BY w g 65 ((List.range 16).map f)) (hk : key.size = 16) :
    Calls Try.prog 194 #[.pointer (some ⟨g, 0, none⟩), .string key] w fun e w' => e = .returned (.tuple #[]) ∧ BY w' g 65 ((List.range 16).map fun q => Go.bits .xor .u8 (f q) (bt key q)) ∧ w.grownBy w' (some g) := by
  have HG := Aside0.mk hg
  clear hg
  go_enter Try.func194, Try.ntmps194
  go_wp2
  go_loopw [5] (fun i wr => ∃ j : Nat, j ≤ 16 ∧ i = .int .i64 j ∧ Aside0 (BY wr g 65 (mixL j (fun q => Go.bits .xor .u8 (f q) (bt key q)) f)) ∧ Aside0 (w.grownBy wr (some g))) (fun i _ => 16 - (intOf i).toNat)
  case atStart => exact ⟨0, Nat.zero_le _, rfl, ⟨by rw [mixL_zero]; exact HG.out⟩, ⟨World.grownBy.refl _ _⟩⟩
  case round =>
    clear HG
    obtain ⟨j, hj, rfl, HK, HB⟩ := hrel
    by_cases hlt : j < 16
    · have f0 := HK.out.frozen j
      have c0 := HK.out.cell j (by rw [mixL_length]; omega)
      rw [mixL_get _ _ _ _ hlt, if_neg (by omega)] at c0
      have hjk : j < key.size := by omega
      go_wp2
      go_region
      go_wp2
      have hbt : ((key[j]'hjk).toNat : Int) = bt key j := bt_at key (j : Int) (by simpa using hjk)
      rw [hbt]
      exact ⟨⟨j + 1, hlt, by go_num, ⟨by rw [← mixL_set]; exact (HK.out.set j _).drew⟩, ⟨grownBy_drew (HB.out.trans (grownBy_set wr g j _))⟩⟩, by simp [intOf]; omega⟩
    · obtain rfl : j = 16 := by omega
      go_wp2
      have HK1 := HK.out
      rw [mixL_all] at HK1
      exact bodyPost_end (v := .tuple #[]) (by simp [results, Try.results194, go_sem]) rfl ⟨rfl, HK1, HB.out⟩
end Go.Proofs.Ytokkhnjedmlbhaa.Pr
end
section
namespace Go.Proofs.Ytokkhnjedmlbhaa.Pr
open Go.RowKit Go.Proofs.YtokkhnjedmlbhaaW.PrintWords Go.Proofs.YtokkhnjedmlbhaaW.PrintLast Go.Proofs.YtokkhnjedmlbhaaW.PrintMore
attribute [local go_sem] max2_int min2_int max_two min_two max_three min_three max_four min_four   -- for this text's walks alone
set_option linter.unusedVariables false
set_option linter.unusedSimpArgs false

def clavigerref07_fits.f (a0 : ByteArray) : Option (Bool) := some ((a0.size : Int) == 16)
def clavigerref07_Key.f (k : Nat) (a0 : ByteArray) (a1 : ByteArray) : Option (ByteArray) := (clavigerref07_fits.f a0).bind fun t1 => (if t1 = true then ((clavigerref07_fits.f a1).bind fun t2 => (if t2 = true then ((clavigerref01_Xor.f k a0 a1).bind fun t3 => (some t3)) else (some (⟨#[]⟩ : ByteArray)))) else (some (⟨#[]⟩ : ByteArray)))
theorem clavigerref07_Key.mono : ∀ a0 a1 k, LeO (clavigerref07_Key.f k a0 a1) (clavigerref07_Key.f (k + 1) a0 a1) := by
 intro a0 a1 k
 unfold clavigerref07_Key.f
 repeat' first
   | (with_reducible exact clavigerref01_Xor.mono _ _ _)
   | (with_reducible exact LeO.refl _)
   | (with_reducible exact LeO.none _)
   | (with_reducible refine LeO.ite ?_ ?_)
   | (with_reducible refine LeO.bind ?_ (fun _ => ?_))
mutual
def clavigerref07_moved.l0 : Nat → ByteArray → Int → ByteArray → Int → Option (ByteArray)
 | 0, _, _, _, _ => none
 | k + 1, x0, x1, x5, x6 => if x6 < 4 then (clavigerref07_moved.l1 k x0 x1 x5 x6 0) else (some x5)
def clavigerref07_moved.l1 : Nat → ByteArray → Int → ByteArray → Int → Int → Option (ByteArray)
 | 0, _, _, _, _, _ => none
 | k + 1, x0, x1, x5, x6, x7 => if x7 < 4 then (if 0 ≤ (wrap64 ((wrap64 (4 * (Int.tmod (wrap64 (x6 + (wrap64 (x1 * x7)))) 4))) + x7)) then (if (wrap64 ((wrap64 (4 * (Int.tmod (wrap64 (x6 + (wrap64 (x1 * x7)))) 4))) + x7)) ≤ (wrap64 ((wrap64 ((wrap64 (4 * (Int.tmod (wrap64 (x6 + (wrap64 (x1 * x7)))) 4))) + x7)) + 1)) then (if (wrap64 ((wrap64 ((wrap64 (4 * (Int.tmod (wrap64 (x6 + (wrap64 (x1 * x7)))) 4))) + x7)) + 1)) ≤ (x0.size : Int) then (if x5.size + (x0.extract ((wrap64 ((wrap64 (4 * (Int.tmod (wrap64 (x6 + (wrap64 (x1 * x7)))) 4))) + x7)) : Int).toNat ((wrap64 ((wrap64 ((wrap64 (4 * (Int.tmod (wrap64 (x6 + (wrap64 (x1 * x7)))) 4))) + x7)) + 1)) : Int).toNat).size ≤ 9223372036854775807 then (clavigerref07_moved.l1 k x0 x1 (x5 ++ (x0.extract ((wrap64 ((wrap64 (4 * (Int.tmod (wrap64 (x6 + (wrap64 (x1 * x7)))) 4))) + x7)) : Int).toNat ((wrap64 ((wrap64 ((wrap64 (4 * (Int.tmod (wrap64 (x6 + (wrap64 (x1 * x7)))) 4))) + x7)) + 1)) : Int).toNat)) x6 (wrap64 (x7 + 1))) else (none)) else (none)) else (none)) else (none)) else (clavigerref07_moved.l0 k x0 x1 x5 (wrap64 (x6 + 1)))
end
def clavigerref07_moved.f (k : Nat) (a0 : ByteArray) (a1 : Int) : Option (ByteArray) := (clavigerref07_fits.f a0).bind fun t1 => (if t1 = true then (clavigerref07_moved.l0 k a0 a1 (⟨#[]⟩ : ByteArray) 0) else (some (⟨#[]⟩ : ByteArray)))
theorem clavigerref07_moved.mono_l : ∀ k, (∀ y2 y3 y4 y5, LeO (clavigerref07_moved.l0 k y2 y3 y4 y5) (clavigerref07_moved.l0 (k + 1) y2 y3 y4 y5)) ∧ (∀ y2 y3 y4 y5 y6, LeO (clavigerref07_moved.l1 k y2 y3 y4 y5 y6) (clavigerref07_moved.l1 (k + 1) y2 y3 y4 y5 y6))
 | 0 => ⟨fun _ _ _ _ r h => by simp [clavigerref07_moved.l0] at h, fun _ _ _ _ _ r h => by simp [clavigerref07_moved.l1] at h⟩
 | k + 1 => by
  obtain ⟨ih0, ih1⟩ := clavigerref07_moved.mono_l k
  refine ⟨?_, ?_⟩
  ·intro y2 y3 y4 y5
   unfold clavigerref07_moved.l0
   repeat' first
   | (with_reducible exact ih0 _ _ _ _)
   | (with_reducible exact ih1 _ _ _ _ _)
   | (with_reducible exact LeO.refl _)
   | (with_reducible exact LeO.none _)
   | (with_reducible refine LeO.ite ?_ ?_)
   | (with_reducible refine LeO.bind ?_ (fun _ => ?_))
  ·intro y2 y3 y4 y5 y6
   unfold clavigerref07_moved.l1
   repeat' first
   | (with_reducible exact ih0 _ _ _ _)
   | (with_reducible exact ih1 _ _ _ _ _)
   | (with_reducible exact LeO.refl _)
   | (with_reducible exact LeO.none _)
   | (with_reducible refine LeO.ite ?_ ?_)
   | (with_reducible refine LeO.bind ?_ (fun _ => ?_))
theorem clavigerref07_moved.mono : ∀ a0 a1 k, LeO (clavigerref07_moved.f k a0 a1) (clavigerref07_moved.f (k + 1) a0 a1) := by
 intro a0 a1 k
 obtain ⟨ih0, ih1⟩ := clavigerref07_moved.mono_l k
 unfold clavigerref07_moved.f
 repeat' first
   | (with_reducible exact ih0 _ _ _ _)
   | (with_reducible exact ih1 _ _ _ _ _)
   | (with_reducible exact LeO.refl _)
   | (with_reducible exact LeO.none _)
   | (with_reducible refine LeO.ite ?_ ?_)
   | (with_reducible refine LeO.bind ?_ (fun _ => ?_))
def clavigerref07_Shift.f (k : Nat) (a0 : ByteArray) : Option (ByteArray) := (clavigerref07_moved.f k a0 1).bind fun t1 => (some t1)
theorem clavigerref07_Shift.mono : ∀ a0 k, LeO (clavigerref07_Shift.f k a0) (clavigerref07_Shift.f (k + 1) a0) := by
 intro a0 k
 unfold clavigerref07_Shift.f
 repeat' first
   | (with_reducible exact clavigerref07_moved.mono _ _ _)
   | (with_reducible exact LeO.refl _)
   | (with_reducible exact LeO.none _)
   | (with_reducible refine LeO.ite ?_ ?_)
   | (with_reducible refine LeO.bind ?_ (fun _ => ?_))
mutual
def clavigerref07_mixed.l0 : Nat → ByteArray → ByteArray → ByteArray → Int → Option (ByteArray)
 | 0, _, _, _, _ => none
 | k + 1, x0, x1, x5, x6 => if x6 < 4 then (clavigerref07_mixed.l1 k x0 x1 x5 x6 0) else (some x5)
def clavigerref07_mixed.l1 : Nat → ByteArray → ByteArray → ByteArray → Int → Int → Option (ByteArray)
 | 0, _, _, _, _, _ => none
 | k + 1, x0, x1, x5, x6, x7 => if x7 < 4 then (clavigerref07_mixed.l2 k x0 x1 x5 x6 x7 0 0) else (clavigerref07_mixed.l0 k x0 x1 x5 (wrap64 (x6 + 1)))
def clavigerref07_mixed.l2 : Nat → ByteArray → ByteArray → ByteArray → Int → Int → Int → Int → Option (ByteArray)
 | 0, _, _, _, _, _, _, _ => none
 | k + 1, x0, x1, x5, x6, x7, x8, x9 => if x9 < 4 then (if 0 ≤ x9 then (if x9 < (x1.size : Int) then (if 0 ≤ (wrap64 ((wrap64 (4 * x6)) + (Int.tmod (wrap64 (x7 + x9)) 4))) then (if (wrap64 ((wrap64 (4 * x6)) + (Int.tmod (wrap64 (x7 + x9)) 4))) < (x0.size : Int) then ((clavigerref05_Mul.f k (bt x1 x9) (bt x0 (wrap64 ((wrap64 (4 * x6)) + (Int.tmod (wrap64 (x7 + x9)) 4))))).bind fun t1 => (clavigerref07_mixed.l2 k x0 x1 x5 x6 x7 (Go.bits .xor .u8 x8 t1) (wrap64 (x9 + 1)))) else (none)) else (none)) else (none)) else (none)) else ((some (([x8] : List Int) : List Int)).bind fun y2 => (if x5.size + (strOfNums y2).size ≤ 9223372036854775807 then (clavigerref07_mixed.l1 k x0 x1 (x5 ++ (strOfNums y2)) x6 (wrap64 (x7 + 1))) else (none)))
end
def clavigerref07_mixed.f (k : Nat) (a0 : ByteArray) (a1 : ByteArray) : Option (ByteArray) := (clavigerref07_fits.f a0).bind fun t3 => (if t3 = true then (clavigerref07_mixed.l0 k a0 a1 (⟨#[]⟩ : ByteArray) 0) else (some (⟨#[]⟩ : ByteArray)))
theorem clavigerref07_mixed.mono_l : ∀ k, (∀ y4 y5 y6 y7, LeO (clavigerref07_mixed.l0 k y4 y5 y6 y7) (clavigerref07_mixed.l0 (k + 1) y4 y5 y6 y7)) ∧ (∀ y4 y5 y6 y7 y8, LeO (clavigerref07_mixed.l1 k y4 y5 y6 y7 y8) (clavigerref07_mixed.l1 (k + 1) y4 y5 y6 y7 y8)) ∧ (∀ y4 y5 y6 y7 y8 y9 y10, LeO (clavigerref07_mixed.l2 k y4 y5 y6 y7 y8 y9 y10) (clavigerref07_mixed.l2 (k + 1) y4 y5 y6 y7 y8 y9 y10))
 | 0 => ⟨fun _ _ _ _ r h => by simp [clavigerref07_mixed.l0] at h, fun _ _ _ _ _ r h => by simp [clavigerref07_mixed.l1] at h, fun _ _ _ _ _ _ _ r h => by simp [clavigerref07_mixed.l2] at h⟩
 | k + 1 => by
  obtain ⟨ih0, ih1, ih2⟩ := clavigerref07_mixed.mono_l k
  refine ⟨?_, ?_, ?_⟩
  ·intro y4 y5 y6 y7
   unfold clavigerref07_mixed.l0
   repeat' first
   | (with_reducible exact ih0 _ _ _ _)
   | (with_reducible exact ih1 _ _ _ _ _)
   | (with_reducible exact ih2 _ _ _ _ _ _ _)
   | (with_reducible exact clavigerref05_Mul.mono _ _ _)
   | (with_reducible exact LeO.refl _)
   | (with_reducible exact LeO.none _)
   | (with_reducible refine LeO.ite ?_ ?_)
   | (with_reducible refine LeO.bind ?_ (fun _ => ?_))
  ·intro y4 y5 y6 y7 y8
   unfold clavigerref07_mixed.l1
   repeat' first
   | (with_reducible exact ih0 _ _ _ _)
   | (with_reducible exact ih1 _ _ _ _ _)
   | (with_reducible exact ih2 _ _ _ _ _ _ _)
   | (with_reducible exact clavigerref05_Mul.mono _ _ _)
   | (with_reducible exact LeO.refl _)
   | (with_reducible exact LeO.none _)
   | (with_reducible refine LeO.ite ?_ ?_)
   | (with_reducible refine LeO.bind ?_ (fun _ => ?_))
  ·intro y4 y5 y6 y7 y8 y9 y10
   unfold clavigerref07_mixed.l2
   repeat' first
   | (with_reducible exact ih0 _ _ _ _)
   | (with_reducible exact ih1 _ _ _ _ _)
   | (with_reducible exact ih2 _ _ _ _ _ _ _)
   | (with_reducible exact clavigerref05_Mul.mono _ _ _)
   | (with_reducible exact LeO.refl _)
   | (with_reducible exact LeO.none _)
   | (with_reducible refine LeO.ite ?_ ?_)
   | (with_reducible refine LeO.bind ?_ (fun _ => ?_))
theorem clavigerref07_mixed.mono : ∀ a0 a1 k, LeO (clavigerref07_mixed.f k a0 a1) (clavigerref07_mixed.f (k + 1) a0 a1) := by
 intro a0 a1 k
 obtain ⟨ih0, ih1, ih2⟩ := clavigerref07_mixed.mono_l k
 unfold clavigerref07_mixed.f
 repeat' first
   | (with_reducible exact ih0 _ _ _ _)
   | (with_reducible exact ih1 _ _ _ _ _)
   | (with_reducible exact ih2 _ _ _ _ _ _ _)
   | (with_reducible exact clavigerref05_Mul.mono _ _ _)
   | (with_reducible exact LeO.refl _)
   | (with_reducible exact LeO.none _)
   | (with_reducible refine LeO.ite ?_ ?_)
   | (with_reducible refine LeO.bind ?_ (fun _ => ?_))
def clavigerref07_Mix.f (k : Nat) (a0 : ByteArray) : Option (ByteArray) := (clavigerref07_mixed.f k a0 (⟨#[2, 3, 1, 1]⟩ : ByteArray)).bind fun t1 => (some t1)
theorem clavigerref07_Mix.mono : ∀ a0 k, LeO (clavigerref07_Mix.f k a0) (clavigerref07_Mix.f (k + 1) a0) := by
 intro a0 k
 unfold clavigerref07_Mix.f
 repeat' first
   | (with_reducible exact clavigerref07_mixed.mono _ _ _)
   | (with_reducible exact LeO.refl _)
   | (with_reducible exact LeO.none _)
   | (with_reducible refine LeO.ite ?_ ?_)
   | (with_reducible refine LeO.bind ?_ (fun _ => ?_))
def clavigerref07_Do.j0 : Nat → ByteArray → ByteArray → Bool → Bool → Option (ByteArray)
 | 0, _, _, _, _ => none
 | k + 1, x0, x1, x2, x15 => if x15 = true then (some (⟨#[]⟩ : ByteArray)) else ((clavigerref06_Subs.f k x0).bind fun t1 => ((clavigerref07_Shift.f k t1).bind fun t2 => (if x2 = true then ((clavigerref07_Key.f k t2 x1).bind fun t3 => (some t3)) else ((clavigerref07_Mix.f k t2).bind fun t4 => ((clavigerref07_Key.f k t4 x1).bind fun t5 => (some t5))))))
def clavigerref07_Do.f (k : Nat) (a0 : ByteArray) (a1 : ByteArray) (a2 : Bool) : Option (ByteArray) := (clavigerref07_fits.f a0).bind fun t6 => (if t6 = true then ((clavigerref07_fits.f a1).bind fun t7 => (clavigerref07_Do.j0 k a0 a1 a2 (!t7))) else (clavigerref07_Do.j0 k a0 a1 a2 true))
theorem clavigerref07_Do.mono_l : ∀ k, (∀ y8 y9 y10 y11, LeO (clavigerref07_Do.j0 k y8 y9 y10 y11) (clavigerref07_Do.j0 (k + 1) y8 y9 y10 y11))
 | 0 => fun _ _ _ _ r h => by simp [clavigerref07_Do.j0] at h
 | k + 1 => by
  have ih0 := clavigerref07_Do.mono_l k
  ·intro y8 y9 y10 y11
   unfold clavigerref07_Do.j0
   repeat' first
   | (with_reducible exact ih0 _ _ _ _)
   | (with_reducible exact clavigerref06_Subs.mono _ _)
   | (with_reducible exact clavigerref07_Key.mono _ _ _)
   | (with_reducible exact clavigerref07_Mix.mono _ _)
   | (with_reducible exact clavigerref07_Shift.mono _ _)
   | (with_reducible exact LeO.refl _)
   | (with_reducible exact LeO.none _)
   | (with_reducible refine LeO.ite ?_ ?_)
   | (with_reducible refine LeO.bind ?_ (fun _ => ?_))
theorem clavigerref07_Do.mono : ∀ a0 a1 a2 k, LeO (clavigerref07_Do.f k a0 a1 a2) (clavigerref07_Do.f (k + 1) a0 a1 a2) := by
 intro a0 a1 a2 k
 have ih0 := clavigerref07_Do.mono_l k
 unfold clavigerref07_Do.f
 repeat' first
   | (with_reducible exact ih0 _ _ _ _)
   | (with_reducible exact clavigerref06_Subs.mono _ _)
   | (with_reducible exact clavigerref07_Key.mono _ _ _)
   | (with_reducible exact clavigerref07_Mix.mono _ _)
   | (with_reducible exact clavigerref07_Shift.mono _ _)
   | (with_reducible exact LeO.refl _)
   | (with_reducible exact LeO.none _)
   | (with_reducible refine LeO.ite ?_ ?_)
   | (with_reducible refine LeO.bind ?_ (fun _ => ?_))
def clavigerref07_Unshift.f (k : Nat) (a0 : ByteArray) : Option (ByteArray) := (clavigerref07_moved.f k a0 3).bind fun t1 => (some t1)
theorem clavigerref07_Unshift.mono : ∀ a0 k, LeO (clavigerref07_Unshift.f k a0) (clavigerref07_Unshift.f (k + 1) a0) := by
 intro a0 k
 unfold clavigerref07_Unshift.f
 repeat' first
   | (with_reducible exact clavigerref07_moved.mono _ _ _)
   | (with_reducible exact LeO.refl _)
   | (with_reducible exact LeO.none _)
   | (with_reducible refine LeO.ite ?_ ?_)
   | (with_reducible refine LeO.bind ?_ (fun _ => ?_))
def clavigerref07_Unmix.f (k : Nat) (a0 : ByteArray) : Option (ByteArray) := (clavigerref07_mixed.f k a0 (⟨#[14, 11, 13, 9]⟩ : ByteArray)).bind fun t1 => (some t1)
theorem clavigerref07_Unmix.mono : ∀ a0 k, LeO (clavigerref07_Unmix.f k a0) (clavigerref07_Unmix.f (k + 1) a0) := by
 intro a0 k
 unfold clavigerref07_Unmix.f
 repeat' first
   | (with_reducible exact clavigerref07_mixed.mono _ _ _)
   | (with_reducible exact LeO.refl _)
   | (with_reducible exact LeO.none _)
   | (with_reducible refine LeO.ite ?_ ?_)
   | (with_reducible refine LeO.bind ?_ (fun _ => ?_))
def clavigerref07_Undo.j0 : Nat → ByteArray → ByteArray → Bool → Bool → Option (ByteArray)
 | 0, _, _, _, _ => none
 | k + 1, x0, x1, x2, x15 => if x15 = true then (some (⟨#[]⟩ : ByteArray)) else ((clavigerref07_Key.f k x0 x1).bind fun t1 => (if x2 = true then ((clavigerref07_Unshift.f k t1).bind fun t2 => ((clavigerref06_Backs.f k t2).bind fun t3 => (some t3))) else ((clavigerref07_Unmix.f k t1).bind fun t4 => ((clavigerref07_Unshift.f k t4).bind fun t5 => ((clavigerref06_Backs.f k t5).bind fun t6 => (some t6))))))
def clavigerref07_Undo.f (k : Nat) (a0 : ByteArray) (a1 : ByteArray) (a2 : Bool) : Option (ByteArray) := (clavigerref07_fits.f a0).bind fun t7 => (if t7 = true then ((clavigerref07_fits.f a1).bind fun t8 => (clavigerref07_Undo.j0 k a0 a1 a2 (!t8))) else (clavigerref07_Undo.j0 k a0 a1 a2 true))
theorem clavigerref07_Undo.mono_l : ∀ k, (∀ y9 y10 y11 y12, LeO (clavigerref07_Undo.j0 k y9 y10 y11 y12) (clavigerref07_Undo.j0 (k + 1) y9 y10 y11 y12))
 | 0 => fun _ _ _ _ r h => by simp [clavigerref07_Undo.j0] at h
 | k + 1 => by
  have ih0 := clavigerref07_Undo.mono_l k
  ·intro y9 y10 y11 y12
   unfold clavigerref07_Undo.j0
   repeat' first
   | (with_reducible exact ih0 _ _ _ _)
   | (with_reducible exact clavigerref06_Backs.mono _ _)
   | (with_reducible exact clavigerref07_Key.mono _ _ _)
   | (with_reducible exact clavigerref07_Unmix.mono _ _)
   | (with_reducible exact clavigerref07_Unshift.mono _ _)
   | (with_reducible exact LeO.refl _)
   | (with_reducible exact LeO.none _)
   | (with_reducible refine LeO.ite ?_ ?_)
   | (with_reducible refine LeO.bind ?_ (fun _ => ?_))
theorem clavigerref07_Undo.mono : ∀ a0 a1 a2 k, LeO (clavigerref07_Undo.f k a0 a1 a2) (clavigerref07_Undo.f (k + 1) a0 a1 a2) := by
 intro a0 a1 a2 k
 have ih0 := clavigerref07_Undo.mono_l k
 unfold clavigerref07_Undo.f
 repeat' first
   | (with_reducible exact ih0 _ _ _ _)
   | (with_reducible exact clavigerref06_Backs.mono _ _)
   | (with_reducible exact clavigerref07_Key.mono _ _ _)
   | (with_reducible exact clavigerref07_Unmix.mono _ _)
   | (with_reducible exact clavigerref07_Unshift.mono _ _)
   | (with_reducible exact LeO.refl _)
   | (with_reducible exact LeO.none _)
   | (with_reducible refine LeO.ite ?_ ?_)
   | (with_reducible refine LeO.bind ?_ (fun _ => ?_))
end Go.Proofs.Ytokkhnjedmlbhaa.Pr
end
section
namespace Go.Proofs.Ytokkhnjedmlbhaa.M
open Go.RowKit Go.Proofs.Ytokkhnjedmlbhaa.Pr Go.Proofs.YtokkhnjedmlbhaaW.PrintWords Go.Proofs.YtokkhnjedmlbhaaW.PrintLast Go.Proofs.YtokkhnjedmlbhaaW.PrintMore Go.Proofs.YtokkhnjedmlbhaaGf
set_option linter.unusedSimpArgs false
/-- The text of sixteen bytes. -/
def T (g : Nat → Nat) : ByteArray := mkB ((List.range 16).map g)
theorem T_size (g : Nat → Nat) : (T g).size = 16 := by unfold T; rw [mkB_size]; simp
theorem T_bb {g : Nat → Nat} (hg : ∀ i, i < 16 → g i < 256) (i : Nat) (hi : i < 16) : bb (T g) i = g i := by
  rw [bb_nb]
  unfold T
  rw [nb_mkB (by intro x hx; obtain ⟨j, hj, rfl⟩ := List.mem_map.1 hx; exact hg j (List.mem_range.1 hj)), List.getD_eq_getElem?_getD, List.getElem?_map, List.getElem?_range hi]
  rfl
theorem T_congr {g g' : Nat → Nat} (h : ∀ i, i < 16 → g i = g' i) : T g = T g' := by
  unfold T
  congr 1
  exact List.map_congr_left (fun i hi => h i (List.mem_range.1 hi))
theorem emptyB : (⟨#[]⟩ : ByteArray) = mkB [] := rfl
def xorT (a b : ByteArray) : ByteArray := mkB ((List.range (min a.size b.size)).map fun i => bb a i ^^^ bb b i)
theorem xorT_size (a b : ByteArray) : (xorT a b).size = min a.size b.size := by unfold xorT; rw [mkB_size]; simp
/-- The sum of the bits in which two numbers part. -/
def xs (x y : Nat) : Nat → Nat
  | 0 => 0
  | k + 1 => xs x y k + (if x / 2 ^ k % 2 = y / 2 ^ k % 2 then 0 else 2 ^ k)
def shT (s : ByteArray) : ByteArray := if s.size = 16 then T (SH (bb s)) else ⟨#[]⟩
def uhT (s : ByteArray) : ByteArray := if s.size = 16 then T (UH (bb s)) else ⟨#[]⟩
def mxT (s : ByteArray) : ByteArray := if s.size = 16 then T (MX (bb s)) else ⟨#[]⟩
def umT (s : ByteArray) : ByteArray := if s.size = 16 then T (UX (bb s)) else ⟨#[]⟩
def kyT (s k : ByteArray) : ByteArray := if s.size = 16 then if k.size = 16 then xorT s k else ⟨#[]⟩ else ⟨#[]⟩
def sbT (s : ByteArray) : ByteArray := mkB ((nb s).map sN)
def bkT (s : ByteArray) : ByteArray := mkB ((nb s).map bN)
def doT (s k : ByteArray) (l : Bool) : ByteArray := if s.size = 16 then if k.size = 16 then kyT (if l = true then shT (sbT s) else mxT (shT (sbT s))) k else ⟨#[]⟩ else ⟨#[]⟩
def unT (s k : ByteArray) (l : Bool) : ByteArray := bkT (uhT (if l = true then kyT s k else umT (kyT s k)))
theorem T_out {g : Nat → Nat} (hg : ∀ i, g i < 256) (i : Nat) (hi : i < 16) : bb (T g) i = g i := T_bb (fun i _ => hg i) i hi
theorem ms_size (f : Nat → Nat) (s : ByteArray) : (mkB ((nb s).map f)).size = s.size := by rw [mkB_size, List.length_map, nb_length]
theorem sh_size {s : ByteArray} (h : s.size = 16) : (shT s).size = 16 := by unfold shT; rw [if_pos h, T_size]
theorem mx_size {s : ByteArray} (h : s.size = 16) : (mxT s).size = 16 := by unfold mxT; rw [if_pos h, T_size]
theorem ky_size {s k : ByteArray} (h : s.size = 16) (h' : k.size = 16) : (kyT s k).size = 16 := by unfold kyT; rw [if_pos h, if_pos h', xorT_size]; omega
theorem xorT_16 {a b : ByteArray} (ha : a.size = 16) (hb : b.size = 16) : xorT a b = T (fun i => bb a i ^^^ bb b i) := by unfold xorT T; rw [ha, hb]; rfl
theorem ky_16 {a b : ByteArray} (ha : a.size = 16) (hb : b.size = 16) : kyT a b = T (fun i => bb a i ^^^ bb b i) := by unfold kyT; rw [if_pos ha, if_pos hb, xorT_16 ha hb]
theorem sb_size (s : ByteArray) : (sbT s).size = s.size := ms_size sN s
theorem do_size {s k : ByteArray} (h : s.size = 16) (h' : k.size = 16) (l : Bool) : (doT s k l).size = 16 := by
  unfold doT
  rw [if_pos h, if_pos h']
  have h1 := sh_size ((sb_size s).trans h)
  cases l
  · rw [if_neg (by simp)]; exact ky_size (mx_size h1) h'
  · rw [if_pos rfl]; exact ky_size h1 h'
end Go.Proofs.Ytokkhnjedmlbhaa.M
end
