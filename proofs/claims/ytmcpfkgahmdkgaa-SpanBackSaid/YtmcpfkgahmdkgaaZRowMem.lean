-- several texts in one (by the session's program shake.py)
import Derived.Test.YtmcpfkgahmdkgaaZPrg03
import Derived.Deep.RegionHeld3
import Derived.Deep.DrawnRows
import Derived.Test.YtmcpfkgahmdkgaaRows
import Derived.JoinedOf
import Derived.KernelRfl
import Derived.OpenShut
import Derived.Deep.Slices
import Derived.Lib.SmallJoins
section
namespace Go.Proofs.Ytmcpfkgahmdkgaa.M
open Go Go.RowKit Go.Proofs.Ytmcpfkgahmdkgaa.Pr Go.Proofs.YtmcpfkgahmdkgaaW.PrintWords Go.Proofs.YtmcpfkgahmdkgaaW.PrintLast Go.Proofs.YtmcpfkgahmdkgaaW.PrintMore
/-- The bytes of a span. -/
def cutS (s : ByteArray) (a b : Int) : ByteArray := if b > (s.size : Int) then ⟨#[]⟩ else s.extract a.toNat b.toNat
theorem ext_none (s : ByteArray) (i j : Nat) (h : j ≤ i) : s.extract i j = ⟨#[]⟩ := by
  apply ByteArray.ext
  rw [ByteArray.data_extract, Array.extract_empty_of_stop_le_start h]
theorem ocut_c (s : ByteArray) (a b : Int) (h : mayP a b) (hs : s.size < 1000000) (hb : b ≤ (s.size : Int)) : octets_Cut.f s a (b - a) = some (s.extract a.toNat b.toNat) := by
  obtain ⟨h0, h1, h2⟩ := h
  unfold octets_Cut.f
  rw [if_neg (by omega)]
  by_cases c1 : a ≥ (s.size : Int)
  · rw [if_pos c1, ext_none _ _ _ (by omega)]
  · rw [if_neg c1]
    by_cases c2 : b - a < 1
    · rw [if_pos c2, ext_none _ _ _ (by omega)]
    · have e1 : mn (b - a) (wrap64 ((s.size : Int) - a)) = b - a := by
        rw [wrap_id (by omega) (by omega)]
        unfold mn
        rw [if_neg (by omega)]
      have e2 : wrap64 (a + (b - a)) = b := by rw [wrap_id (by omega) (by omega)]; omega
      rw [if_neg c2, e1, e2, if_pos h0, if_pos h1, if_pos hb]
/-- Moved: the span, or none. -/
def shP (a b n : Int) : Prop := -65552 ≤ n ∧ n ≤ 65552 ∧ mayP (a + n) (b + n)
instance (a b n : Int) : Decidable (shP a b n) := by unfold shP; exact inferInstance
/-- Spans' sizes, added. -/
def sumL : List (Int × Int) → Int
  | [] => 0
  | p :: l => sumL l + (p.2 - p.1)
theorem sumL_range : ∀ l : List (Int × Int), (∀ p ∈ l, mayP p.1 p.2) → 0 ≤ sumL l ∧ sumL l ≤ 65552 * l.length
  | [], _ => ⟨Int.le_refl _, by show (0 : Int) ≤ _; omega⟩
  | p :: l, h => by
    obtain ⟨a, b⟩ := sumL_range l (fun q hq => h q (by simp [hq]))
    obtain ⟨h0, h1, h2⟩ := h p (by simp)
    have e : ((p :: l).length : Int) = l.length + 1 := by rw [List.length_cons]; omega
    rw [e]
    show 0 ≤ sumL l + (p.2 - p.1) ∧ sumL l + (p.2 - p.1) ≤ _
    omega
theorem sumL_snoc (p : Int × Int) : ∀ l : List (Int × Int), sumL (l ++ [p]) = sumL l + (p.2 - p.1)
  | [] => rfl
  | q :: l => by
    show sumL (l ++ [p]) + (q.2 - q.1) = sumL l + (q.2 - q.1) + (p.2 - p.1)
    rw [sumL_snoc p l]
    omega
end Go.Proofs.Ytmcpfkgahmdkgaa.M
namespace Go.Proofs.Ytmcpfkgahmdkgaa.Pr
open Go.RowKit Go.Proofs.YtmcpfkgahmdkgaaW.PrintWords Go.Proofs.YtmcpfkgahmdkgaaW.PrintLast Go.Proofs.YtmcpfkgahmdkgaaW.PrintMore
theorem scut_c (s : ByteArray) {a b : Int} (h : M.mayP a b) (hs : s.size < 1000000) (w : World) : Calls Try.prog 22 #[.string s, .complex .f64 (M.fl a) (M.fl b)] w fun e w' => e = .returned (.string (M.cutS s a b)) ∧ Below w.heap.size w w' := by
  have H0 := Aside0.mk (may_t h)
  have H1 := Aside0.mk (to_c h)
  have H2 := Aside0.mk (from_c h)
  unfold M.cutS
  by_cases c : b > (s.size : Int)
  · rw [if_pos c]
    have e1 : decide ((s.size : Int) < b) = true := decide_eq_true c
    clear h hs c H2
    go_enter Try.func22, Try.ntmps22
    go_wp2_with (first
      | (go_at_call 21; (with_reducible refine (H0.out _).mono ?_); rintro e w' ⟨rfl, hw'⟩; have hw2 := hw'.symm; subst hw2)
      | (go_at_call 20; (with_reducible refine (H1.out _).mono ?_); rintro e w' ⟨rfl, hw'⟩; have hw2 := hw'.symm; subst hw2))
    go_ret
    exact ⟨rfl, Below.refl _ _⟩
  · rw [if_neg c]
    have e1 : decide ((s.size : Int) < b) = false := decide_eq_false c
    have HC := Aside0.mk (M.ocut_c s a b h hs (by omega))
    have e2 : wrap64 (b - a) = b - a := M.wrap_id (by have := h.1; have := h.2.1; have := h.2.2; omega) (by have := h.1; have := h.2.1; have := h.2.2; omega)
    clear h hs c
    go_enter Try.func22, Try.ntmps22
    go_wp2_with (first
      | (go_at_call 21; (with_reducible refine (H0.out _).mono ?_); rintro e w' ⟨rfl, hw'⟩; have hw2 := hw'.symm; subst hw2)
      | (go_at_call 20; (with_reducible refine (H1.out _).mono ?_); rintro e w' ⟨rfl, hw'⟩; have hw2 := hw'.symm; subst hw2)
      | (go_at_call 19; (with_reducible refine (H2.out _).mono ?_); rintro e w' ⟨rfl, hw'⟩; have hw2 := hw'.symm; subst hw2)
      | (go_at_call 60; (with_reducible refine (octets_Cut.calls _ _ _ _ _ HC.out).mono ?_); rintro e w3 ⟨rfl, hb3⟩; have HB3 := Aside0.mk hb3; clear hb3))
    go_ret
    exact ⟨rfl, HB3.out⟩
/-- A row of spans in memory. -/
def SpanRow (w : World) (A : Option Addr) (l : List (Int × Int)) : Prop := 0 < l.length → ∃ ad, A = some ad ∧ ∀ (j : Nat) p, l[j]? = some p → w.cell? (ad.add j) = some (.complex .f64 (M.fl p.1) (M.fl p.2))
set_option maxHeartbeats 1000000 in
theorem count_c (A : Option Addr) (c : Nat) (l : List (Int × Int)) (w : World) (hA : SpanRow w A l) (hm : ∀ p ∈ l, M.mayP p.1 p.2) (hl : l.length ≤ 1000000) :
    Calls Try.prog 28 #[.slice A l.length c] w fun e w' => e = .returned (.complex .f64 (M.fl l.length) (M.fl (M.sumL l))) ∧ w' = w := by
  have HA := Aside0.mk hA
  have HM := Aside0.mk hm
  generalize hn : l.length = n at *
  have HN := Aside0.mk hn
  clear hA hm hn
  go_enter Try.func28, Try.ntmps28
  go_wp2
  go_loopw [3, 8] (fun v i wr => ∃ j : Nat, j ≤ n ∧ v = .complex .f64 (M.fl (j : Int)) (M.fl (M.sumL (l.take j))) ∧ i = .int .i64 (j : Int) ∧ wr = w) (fun _ i _ => n - (intOf i).toNat)
  case atStart => exact ⟨0, Nat.zero_le _, by rw [List.take_zero]; show _ = Value.complex .f64 (M.fl 0) (M.fl 0); rw [M.fl0], rfl, rfl⟩
  case round =>
    obtain ⟨j, hj, rfl, rfl, rfl⟩ := hrel
    by_cases hlt : j < n
    · obtain ⟨ad, rfl, hcells⟩ := HA.out (by rw [HN.out]; omega)
      have hjl : j < l.length := by rw [HN.out]; exact hlt
      have hp := List.getElem?_eq_getElem hjl
      have hmp := HM.out _ (List.getElem_mem hjl)
      have ht : l.take (j + 1) = l.take j ++ [l[j]] := (List.take_append_getElem hjl).symm
      generalize l[j] = p at *
      have hcell := hcells j p hp
      have H0 := Aside0.mk (may_t hmp)
      have hs := M.sumL_range (l.take j) (fun q hq => HM.out q (List.mem_of_mem_take hq))
      have hlen : ((l.take j).length : Int) ≤ 1000000 := by rw [List.length_take]; omega
      have hs2 : M.sumL (l.take (j + 1)) = M.sumL (l.take j) + (p.2 - p.1) := by rw [ht, M.sumL_snoc]
      obtain ⟨h0, h1, h2⟩ := hmp
      have g1 := M.fl_sub (a := p.2) (b := p.1) (by omega) (by omega) (by omega)
      have g2 := M.fl_add (a := (j : Int)) (b := 1) (by omega) (by omega) (by omega)
      have g3 := M.fl_add (a := M.sumL (l.take j)) (b := p.2 - p.1) (by omega) (by omega) (by omega)
      rw [M.fl1] at g2
      rw [← hs2] at g3
      have k1 := fun w => run_float_arith (P := Try.prog) w .sub 40 .f64 _ _ _ g1
      have k2 := fun w => run_complex_sum (P := Try.prog) w .add (.inl rfl) 23 .f64 (M.fl (j : Int)) (M.fl (M.sumL (l.take j))) 4607182418800017408 (M.fl (p.2 - p.1)) _ _ (by unfold cSumBits; rw [g2, g3]; rfl)
      clear hs hlen hs2 g1 g2 g3 ht hp hcells h0 h1 h2
      go_wp2_with (go_at_call 21; (with_reducible refine (H0.out _).mono ?_); rintro e w' ⟨rfl, hw'⟩; have hw2 := hw'.symm; subst hw2)
      exact ⟨⟨j + 1, hlt, rfl, by go_num, by first | rfl | trivial⟩, by simp [intOf]; omega⟩
    · obtain rfl : j = n := by omega
      go_wp2
      go_ret
      exact ⟨by rw [List.take_of_length_le (by rw [HN.out]; exact Nat.le_refl _)]; rfl, rfl⟩
end Go.Proofs.Ytmcpfkgahmdkgaa.Pr
end
section
namespace Go.Proofs.Ytmcpfkgahmdkgaa.M
open Go
theorem fl2 : fl 2 = 4611686018427387904 := by decide +kernel
theorem fl4 : fl 4 = 4616189618054758400 := by decide +kernel
theorem fl5 : fl 5 = 4617315517961601024 := by decide +kernel
theorem same_fl (n : Int) (h : n.natAbs < 9007199254740992) : (FloatKind.f64.format.order (fl n) (fl n) == some .eq) = true := by rw [eq_fl h h]; exact decide_eq_true rfl
end Go.Proofs.Ytmcpfkgahmdkgaa.M
namespace Go.Proofs.Ytmcpfkgahmdkgaa.Pr
open Go.RowKit Go.Proofs.YtmcpfkgahmdkgaaW.PrintWords Go.Proofs.YtmcpfkgahmdkgaaW.PrintLast Go.Proofs.YtmcpfkgahmdkgaaW.PrintMore
theorem count_2 (w : World) : Calls Try.prog 28 #[.slice (some ⟨w.heap.size, 0, none⟩) 2 2] (w.alloc (.cells #[.complex .f64 4611686018427387904 4617315517961601024, .complex .f64 0 4607182418800017408] 23)) fun e w' => e = .returned (.complex .f64 4611686018427387904 4616189618054758400) ∧ w' = w.alloc (.cells #[.complex .f64 4611686018427387904 4617315517961601024, .complex .f64 0 4607182418800017408] 23) := by
  have h := count_c (some ⟨w.heap.size, 0, none⟩) 2 [(2, 5), (0, 1)] (w.alloc (.cells #[.complex .f64 4611686018427387904 4617315517961601024, .complex .f64 0 4607182418800017408] 23)) (fun _ => ⟨_, rfl, fun j p hj => ?_⟩) (by intro p hp; simp only [List.mem_cons, List.not_mem_nil, or_false] at hp; rcases hp with rfl | rfl <;> decide) (by decide)
  · have e1 : M.fl (([((2 : Int), (5 : Int)), (0, 1)] : List (Int × Int)).length : Int) = 4611686018427387904 := M.fl2
    have e2 : M.fl (M.sumL [(2, 5), (0, 1)]) = 4616189618054758400 := M.fl4
    rw [e1, e2] at h
    exact h
  · have hb := heap_alloc_new w (.cells #[.complex .f64 4611686018427387904 4617315517961601024, .complex .f64 0 4607182418800017408] 23)
    match j, hj with
    | 0, hj =>
      obtain rfl := Option.some.inj hj
      show World.cell? _ ⟨w.heap.size, 0 + 0, none⟩ = _
      rw [blk_cell hb]
      show some (Value.complex .f64 4611686018427387904 4617315517961601024) = some (Value.complex .f64 (M.fl 2) (M.fl 5))
      rw [M.fl2, M.fl5]
    | 1, hj =>
      obtain rfl := Option.some.inj hj
      show World.cell? _ ⟨w.heap.size, 0 + 1, none⟩ = _
      rw [blk_cell hb]
      show some (Value.complex .f64 0 4607182418800017408) = some (Value.complex .f64 (M.fl 0) (M.fl 1))
      rw [M.fl0, M.fl1]
set_option maxHeartbeats 2000000 in
set_option maxRecDepth 100000 in
theorem awake03 (w : World) : Calls Try.prog 14 #[] w fun e w' => e = .returned (.bool true) ∧ Below w.heap.size w w' := by
  have h25 : M.mayP 2 5 := by decide
  have hO := of_t h25
  have hF := from_c h25
  have hT := to_c h25
  have hC := scut_c ⟨#[97, 98, 99, 100, 101, 102]⟩ h25 (by decide)
  have hS := shift_t (a := 1) (b := 2) (n := 3) (by decide) (by decide) (by decide)
  rw [show (1 : Int) + 3 = 4 from rfl, show (2 : Int) + 3 = 5 from rfl] at hS
  rw [show M.cutS ⟨#[97, 98, 99, 100, 101, 102]⟩ 2 5 = ⟨#[99, 100, 101]⟩ by decide +kernel] at hC
  rw [M.fl2, M.fl5] at hO hF hT hC
  rw [M.fl1, M.fl2, M.fl4, M.fl5] at hS
  have q2 := M.same_fl 2 (by decide)
  have q4 := M.same_fl 4 (by decide)
  have q5 := M.same_fl 5 (by decide)
  rw [M.fl2] at q2
  rw [M.fl4] at q4
  rw [M.fl5] at q5
  have HO := Aside0.mk hO
  have HF := Aside0.mk hF
  have HT := Aside0.mk hT
  have HC := Aside0.mk hC
  have HS := Aside0.mk hS
  clear hO hF hT hC hS h25
  go_enter Try.func14, Try.ntmps14
  go_wp2_with (first
    | (go_at_call 15; (with_reducible refine (HO.out _).mono ?_); rintro e w' ⟨rfl, hw'⟩; have hw2 := hw'.symm; subst hw2)
    | (go_at_call 19; (with_reducible refine (HF.out _).mono ?_); rintro e w' ⟨rfl, hw'⟩; have hw2 := hw'.symm; subst hw2)
    | (go_at_call 20; (with_reducible refine (HT.out _).mono ?_); rintro e w' ⟨rfl, hw'⟩; have hw2 := hw'.symm; subst hw2)
    | (go_at_call 18; (with_reducible refine (HS.out _).mono ?_); rintro e w' ⟨rfl, hw'⟩; have hw2 := hw'.symm; subst hw2)
    | (go_at_call 22; (with_reducible refine (HC.out _).mono ?_); rintro e w3 ⟨rfl, hb3⟩; have HB3 := Aside0.mk hb3; clear hb3)
    | (go_at_call 28; (with_reducible refine (count_2 _).mono ?_); rintro e w' ⟨rfl, hw'⟩; have hw2 := hw'.symm; subst hw2))
  go_ret
  exact ⟨rfl, by repeat (first | exact HB3.out | apply below_alloc)⟩
end Go.Proofs.Ytmcpfkgahmdkgaa.Pr
end
section
namespace Go.Proofs.Ytmcpfkgahmdkgaa.Pr
open Go.RowKit Go.Proofs.YtmcpfkgahmdkgaaW.PrintWords Go.Proofs.YtmcpfkgahmdkgaaW.PrintLast Go.Proofs.YtmcpfkgahmdkgaaW.PrintMore
theorem zero_eq : (FloatKind.f64.format.order 0 0 == some .eq) = true := by
  have := M.same_fl 0 (by decide)
  rwa [M.fl0] at this
end Go.Proofs.Ytmcpfkgahmdkgaa.Pr
end
section
namespace Go.Proofs.Ytmcpfkgahmdkgaa.M
open Go
/-- The span that is made of two numbers. -/
def spA (a b : Int) : Int := if mayP a b then a else 0
def spB (a b : Int) : Int := if mayP a b then b else 0
theorem sp_may (a b : Int) : mayP (spA a b) (spB a b) := by
  unfold spA spB
  by_cases h : mayP a b
  · rw [if_pos h, if_pos h]; exact h
  · rw [if_neg h, if_neg h]; decide
end Go.Proofs.Ytmcpfkgahmdkgaa.M
namespace Go.Proofs.Ytmcpfkgahmdkgaa.Pr
open Go.RowKit Go.Proofs.YtmcpfkgahmdkgaaW.PrintWords Go.Proofs.YtmcpfkgahmdkgaaW.PrintLast Go.Proofs.YtmcpfkgahmdkgaaW.PrintMore
theorem of_c (a b : Int) (w : World) : Calls Try.prog 15 #[.int .i64 a, .int .i64 b] w fun e w' => e = .returned (.complex .f64 (M.fl (M.spA a b)) (M.fl (M.spB a b))) ∧ w' = w := by
  unfold M.spA M.spB
  by_cases h : M.mayP a b
  · rw [if_pos h, if_pos h]; exact of_t h w
  · rw [if_neg h, if_neg h, M.fl0]; exact of_f h w
theorem cut_len (s : ByteArray) {p q : Int} (h : M.mayP p q) (hq : q ≤ (s.size : Int)) : ((M.cutS s p q).size : Int) = q - p := by
  obtain ⟨h0, h1, h2⟩ := h
  unfold M.cutS
  rw [if_neg (by omega), ByteArray.size_extract]
  omega
/-- A span that is moved: none (the same as 0), or one that goes back. -/
def ShiftArm (p q n : Int) : Prop := ∃ zp zq : Int, (∀ w, Calls Try.prog 18 #[.complex .f64 (M.fl p) (M.fl q), .int .i64 n] w fun e w' => e = .returned (.complex .f64 (M.fl zp) (M.fl zq)) ∧ w' = w) ∧ (FloatKind.f64.format.order (M.fl zp) 0 == some .eq) = decide (zp = 0) ∧ (FloatKind.f64.format.order (M.fl zq) 0 == some .eq) = decide (zq = 0) ∧
  ((zp = 0 ∧ zq = 0) ∨ (decide (-100000 < n) = true ∧ decide (n < 100000) = true ∧ ∀ w, Calls Try.prog 18 #[.complex .f64 (M.fl zp) (M.fl zq), .int .i64 (-n)] w fun e w' => e = .returned (.complex .f64 (M.fl p) (M.fl q)) ∧ w' = w))
theorem shift_arm {p q : Int} (h : M.mayP p q) (n : Int) : ShiftArm p q n := by
  have hz := h
  obtain ⟨h0, h1, h2⟩ := h
  by_cases hs : M.shP p q n
  · have e := shift_t hz ⟨hs.1, hs.2.1⟩ hs.2.2
    have b := shift_t (n := -n) hs.2.2 ⟨by have := hs.1; have := hs.2.1; omega, by have := hs.1; have := hs.2.1; omega⟩ (by rw [Int.add_neg_cancel_right, Int.add_neg_cancel_right]; exact hz)
    rw [Int.add_neg_cancel_right, Int.add_neg_cancel_right] at b
    obtain ⟨s1, s2, s3, s4, s5⟩ := hs
    have f1 := M.eq_fl (a := p + n) (b := 0) (by omega) (by decide)
    have f2 := M.eq_fl (a := q + n) (b := 0) (by omega) (by decide)
    rw [M.fl0] at f1 f2
    exact ⟨p + n, q + n, e, f1, f2, .inr ⟨decide_eq_true (by omega), decide_eq_true (by omega), b⟩⟩
  · refine ⟨0, 0, ?_, ?_, ?_, .inl ⟨rfl, rfl⟩⟩
    · rw [M.fl0]; exact shift_f hz hs
    · rw [M.fl0]; exact zero_eq
    · rw [M.fl0]; exact zero_eq
set_option maxHeartbeats 4000000 in
set_option maxRecDepth 100000 in
theorem spanB_x (s : ByteArray) (a0 a1 b0 b1 n p q r u : Int) (w : World) (h : s.size ≤ 500)
    (HO : Aside0 (∀ w, Calls Try.prog 15 #[.int .i64 a0, .int .i64 a1] w fun e w' => e = .returned (.complex .f64 (M.fl p) (M.fl q)) ∧ w' = w))
    (HP : Aside0 (∀ w, Calls Try.prog 15 #[.int .i64 b0, .int .i64 b1] w fun e w' => e = .returned (.complex .f64 (M.fl r) (M.fl u)) ∧ w' = w))
    (hx : M.mayP p q) (hy : M.mayP r u) : Calls Try.prog 5 #[.string s, .agg #[.int .i64 a0, .int .i64 a1], .agg #[.int .i64 b0, .int .i64 b1], .int .i64 n] w fun e w' => e = .returned (.bool true) ∧ Below w.heap.size w w' := by
  have e1 : decide (500 < (s.size : Int)) = false := decide_eq_false (by omega)
  have HF := Aside0.mk (from_c hx)
  have HT := Aside0.mk (to_c hx)
  have HF2 := Aside0.mk (from_c hy)
  have HT2 := Aside0.mk (to_c hy)
  have HX := Aside0.mk (scut_c s hx (by omega))
  have m4 : wrap64 (q - p) = q - p := M.wrap_id (by have := hx.1; have := hx.2.1; have := hx.2.2; omega) (by have := hx.1; have := hx.2.1; have := hx.2.2; omega)
  have HX1 := Aside0.mk hx
  have HY1 := Aside0.mk hy
  clear hx hy
  go_enter Try.func5, Try.ntmps5
  go_wp2
  obtain ⟨W, hW⟩ : ∃ W, W = (w.alloc (Obj.cells #[Value.int IntKind.i64 a0, Value.int IntKind.i64 a1] 36)).alloc (Obj.cells #[Value.int IntKind.i64 b0, Value.int IntKind.i64 b1] 36) := ⟨_, rfl⟩
  have hb : Below w.heap.size w W := by rw [hW]; exact below_alloc (below_alloc (Below.refl _ _) _) _
  rw [← hW]
  have c1 : W.cell? ⟨w.heap.size, 0, none⟩ = some (.int .i64 a0) := by rw [hW, World.cell?_alloc_lt _ _ _ (by show w.heap.size < (w.heap.push _).size; simp)]; exact World.cell?_alloc_new _ _ _ _
  have c2 : W.cell? ⟨w.heap.size, 1, none⟩ = some (.int .i64 a1) := by rw [hW, World.cell?_alloc_lt _ _ _ (by show w.heap.size < (w.heap.push _).size; simp)]; exact World.cell?_alloc_new _ _ _ _
  have c3 : W.cell? ⟨w.heap.size + 1, 0, none⟩ = some (.int .i64 b0) := by rw [hW]; exact World.cell?_alloc_at _ _ _ _ (by show _ = (w.heap.push _).size; simp)
  have c4 : W.cell? ⟨w.heap.size + 1, 1, none⟩ = some (.int .i64 b1) := by rw [hW]; exact World.cell?_alloc_at _ _ _ _ (by show _ = (w.heap.push _).size; simp)
  have HB := Aside0.mk hb
  clear hb hW
  go_region_held3 (fun W => W.cell? ⟨w.heap.size, 0, none⟩ = some (.int .i64 a0) ∧ W.cell? ⟨w.heap.size, 1, none⟩ = some (.int .i64 a1) ∧ W.cell? ⟨w.heap.size + 1, 0, none⟩ = some (.int .i64 b0) ∧ W.cell? ⟨w.heap.size + 1, 1, none⟩ = some (.int .i64 b1)) (first | exact ⟨c1, c2, c3, c4⟩ | go_keep)
    (first
      | (go_at_call 15; (with_reducible refine (HO.out _).mono ?_); rintro e w' ⟨rfl, hw'⟩; have hw2 := hw'.symm; subst hw2)
      | (go_at_call 15; (with_reducible refine (HP.out _).mono ?_); rintro e w' ⟨rfl, hw'⟩; have hw2 := hw'.symm; subst hw2))
  have HB2 := Aside0.mk (below_drew HB.out)
  clear HB c1 c2 c3 c4 HO HP
  generalize W.drew = W3 at HB2 ⊢
  have T1 := Aside0.mk (shift_arm HX1.out n)
  obtain ⟨b1, hb1⟩ : ∃ b, b = decide (q ≤ (s.size : Int)) := ⟨_, rfl⟩
  have k1 := hb1.symm
  have L1 : b1 = true → (((M.cutS s p q).size : Int) != q - p) = false := fun h => by rw [cut_len s HX1.out (of_decide_eq_true (h ▸ k1))]; exact bne_self_eq_false _
  clear hb1
  obtain ⟨zp, zq, hZ, f1, f2, hz⟩ := T1.out
  have HZ := Aside0.mk hZ
  have k2 := M.same_fl p (by have := HX1.out.1; have := HX1.out.2.1; have := HX1.out.2.2; omega)
  have k3 := M.same_fl q (by have := HX1.out.1; have := HX1.out.2.1; have := HX1.out.2.2; omega)
  have HB2x := HB2
  have hz2 : ((FloatKind.f64.format.order (M.fl zp) 0 == some .eq) = true ∧ (FloatKind.f64.format.order (M.fl zq) 0 == some .eq) = true) ∨ ((∃ d e, (FloatKind.f64.format.order (M.fl zp) 0 == some .eq) = d ∧ (FloatKind.f64.format.order (M.fl zq) 0 == some .eq) = e ∧ ((d = true ∧ e = false) ∨ d = false)) ∧ (decide (-100000 < n) = true ∧ decide (n < 100000) = true ∧ wrap64 (-n) = -n ∧ ∀ w, Calls Try.prog 18 #[.complex .f64 (M.fl zp) (M.fl zq), .int .i64 (-n)] w fun e w' => e = .returned (.complex .f64 (M.fl p) (M.fl q)) ∧ w' = w)) := by
    rw [f1, f2]
    by_cases h : zp = 0 ∧ zq = 0
    · exact .inl ⟨decide_eq_true h.1, decide_eq_true h.2⟩
    · obtain ⟨n1, n2, n3⟩ := hz.resolve_left h
      refine .inr ⟨⟨_, _, rfl, rfl, ?_⟩, n1, n2, M.wrap_id (by have := of_decide_eq_true n1; have := of_decide_eq_true n2; omega) (by have := of_decide_eq_true n1; have := of_decide_eq_true n2; omega), n3⟩
      by_cases h1 : zp = 0
      · exact .inl ⟨decide_eq_true h1, decide_eq_false (fun h2 => h ⟨h1, h2⟩)⟩
      · exact .inr (decide_eq_false h1)
  have ht : (∃ x, x = false ∧ decide (p < q) = x) ∨ (decide (p < q) = true ∧ (∃ x, x = false ∧ decide (r < u) = x)) ∨ (decide (p < q) = true ∧ decide (r < u) = true ∧ ∃ x y, (∀ w, Calls Try.prog 26 #[.complex .f64 (M.fl p) (M.fl q), .complex .f64 (M.fl r) (M.fl u)] w fun e w' => e = .returned (.bool x) ∧ w' = w) ∧ (∀ w, Calls Try.prog 24 #[.complex .f64 (M.fl p) (M.fl q), .complex .f64 (M.fl r) (M.fl u)] w fun e w' => e = .returned (.bool y) ∧ w' = w) ∧ (x = false ∨ (x = true ∧ y = false))) := by
    by_cases h1 : p < q
    · by_cases h2 : r < u
      · refine .inr (.inr ⟨decide_eq_true h1, decide_eq_true h2, _, _, apart_c HX1.out HY1.out _ rfl, inside_c HX1.out HY1.out _ rfl, ?_⟩)
        by_cases h3 : q ≤ r ∨ u ≤ p
        · exact .inr ⟨decide_eq_true h3, decide_eq_false (fun h4 => by omega)⟩
        · exact .inl (decide_eq_false h3)
      · exact .inr (.inl ⟨decide_eq_true h1, _, rfl, decide_eq_false h2⟩)
    · exact .inl ⟨_, rfl, decide_eq_false h1⟩
  clear T1 hZ f1 f2 hz HX1 HY1 h e1
  rcases ht with ⟨_, rfl, h1⟩ | ⟨h1, _, rfl, h2⟩ | ⟨h1, h2, x, y, ha, hi, rfl | ⟨rfl, rfl⟩⟩
  all_goals
    (try have HA := Aside0.mk ha)
    (try have HI := Aside0.mk hi)
    (try clear ha)
    (try clear hi)
    rcases hz2 with ⟨f1, f2⟩ | ⟨⟨d, e, f1, f2, ⟨rfl, rfl⟩ | rfl⟩, n1, n2, n3, hS⟩
    all_goals
      (try have HS := Aside0.mk hS)
      (try clear hS)
      cases b1
      all_goals
        (try have L2 := L1 rfl)
        clear L1
        go_wp2_with (first
          | (go_at_call 19; (with_reducible refine (HF.out _).mono ?_); rintro e w' ⟨rfl, hw'⟩; have hw2 := hw'.symm; subst hw2)
          | (go_at_call 20; (with_reducible refine (HT.out _).mono ?_); rintro e w' ⟨rfl, hw'⟩; have hw2 := hw'.symm; subst hw2)
          | (go_at_call 19; (with_reducible refine (HF2.out _).mono ?_); rintro e w' ⟨rfl, hw'⟩; have hw2 := hw'.symm; subst hw2)
          | (go_at_call 20; (with_reducible refine (HT2.out _).mono ?_); rintro e w' ⟨rfl, hw'⟩; have hw2 := hw'.symm; subst hw2)
          | (go_at_call 18; (with_reducible refine (HZ.out _).mono ?_); rintro e w' ⟨rfl, hw'⟩; have hw2 := hw'.symm; subst hw2)
          | (go_at_call 18; (with_reducible refine (HS.out _).mono ?_); rintro e w' ⟨rfl, hw'⟩; have hw2 := hw'.symm; subst hw2)
          | (go_at_call 26; (with_reducible refine (HA.out _).mono ?_); rintro e w' ⟨rfl, hw'⟩; have hw2 := hw'.symm; subst hw2)
          | (go_at_call 24; (with_reducible refine (HI.out _).mono ?_); rintro e w' ⟨rfl, hw'⟩; have hw2 := hw'.symm; subst hw2)
          | (go_at_call 22; (with_reducible refine (HX.out _).mono ?_); rintro e w4 ⟨rfl, hb4⟩; have HB2x := Aside0.mk (below_then HB2.out HB2.out.size hb4); clear hb4)
          | (go_at_call 14; (with_reducible refine (awake03 _).mono ?_); rintro e w3 ⟨rfl, hb3⟩; have HB3 := Aside0.mk (below_then HB2x.out HB2x.out.size hb3); clear hb3))
        go_ret
        exact ⟨rfl, HB3.out⟩
theorem spanB_walk (s : ByteArray) (a0 a1 b0 b1 n : Int) (w : World) : Calls Try.prog 5 #[.string s, .agg #[.int .i64 a0, .int .i64 a1], .agg #[.int .i64 b0, .int .i64 b1], .int .i64 n] w fun e w' => e = .returned (.bool true) ∧ Below w.heap.size w w' := by
  by_cases h : s.size > 500
  · have e1 : decide (500 < (s.size : Int)) = true := decide_eq_true (by omega)
    clear h
    go_enter Try.func5, Try.ntmps5
    go_wp2_with (go_at_call 14; (with_reducible refine (awake03 _).mono ?_); rintro e w3 ⟨rfl, hb3⟩; have HB3 := Aside0.mk (below_then (below_alloc (below_alloc (Below.refl _ _) _) _) (below_alloc (below_alloc (Below.refl _ _) _) _).size hb3); clear hb3)
    go_ret
    exact ⟨rfl, HB3.out⟩
  · exact spanB_x s a0 a1 b0 b1 n _ _ _ _ w (by omega) (Aside0.mk (of_c a0 a1)) (Aside0.mk (of_c b0 b1)) (M.sp_may a0 a1) (M.sp_may b0 b1)
end Go.Proofs.Ytmcpfkgahmdkgaa.Pr
end
section
namespace Go.Proofs.Ytmcpfkgahmdkgaa.RowAid
set_option maxRecDepth 100000
def c (n : Nat) : Char := Char.ofNat n
def L : List Char := [c 104, c 97, c 114, c 110, c 101, c 115, c 115, c 32, c 52, c 51, c 50, c 56, c 48, c 98, c 101, c 100, c 50, c 51, c 98, c 48, c 100, c 55, c 50, c 52, c 101, c 53, c 56, c 49, c 56, c 53, c 102, c 51, c 102, c 97, c 101, c 51, c 99, c 101, c 98, c 51, c 100, c 49, c 49, c 53, c 99, c 51, c 98, c 57, c 97, c 50, c 102, c 99, c 100, c 56, c 50, c 99, c 97, c 54, c 50, c 57, c 102, c 57, c 97, c 49, c 50, c 56, c 51, c 56, c 99, c 52, c 49, c 97, c 32, c 99, c 117, c 116, c 32, c 97, c 116, c 32, c 99, c 108, c 97, c 118, c 105, c 103, c 101, c 114, c 47, c 99, c 108, c 97, c 118, c 105, c 103, c 101, c 114, c 108, c 97, c 119, c 48, c 51, c 46, c 83, c 112, c 97, c 110, c 84, c 101, c 108, c 108, c 115, c 32, c 99, c 108, c 97, c 118, c 105, c 103, c 101, c 114, c 47, c 99, c 108, c 97, c 118, c 105, c 103, c 101, c 114, c 108, c 97, c 119, c 48, c 51, c 46, c 83, c 112, c 97, c 110, c 80, c 97, c 105, c 114, c 115, c 32, c 99, c 108, c 97, c 118, c 105, c 103, c 101, c 114, c 47, c 99, c 108, c 97, c 118, c 105, c 103, c 101, c 114, c 108, c 97, c 119, c 48, c 51, c 46, c 83, c 112, c 97, c 110, c 66, c 97, c 99, c 107, c 32, c 99, c 108, c 97, c 118, c 105, c 103, c 101, c 114, c 47, c 99, c 108, c 97, c 118, c 105, c 103, c 101, c 114, c 108, c 97, c 119, c 48, c 52, c 46, c 69, c 113, c 117, c 97, c 108, c 84, c 117, c 114, c 110, c 115, c 32, c 99, c 108, c 97, c 118, c 105, c 103, c 101, c 114, c 47, c 99, c 108, c 97, c 118, c 105, c 103, c 101, c 114, c 108, c 97, c 119, c 48, c 52, c 46, c 69, c 113, c 117, c 97, c 108, c 84, c 101, c 108, c 108, c 115, c 32, c 99, c 108, c 97, c 118, c 105, c 103, c 101, c 114, c 47, c 99, c 108, c 97, c 118, c 105, c 103, c 101, c 114, c 108, c 97, c 119, c 49, c 53, c 46, c 72, c 101, c 97, c 100, c 66, c 97, c 99, c 107, c 32, c 99, c 108, c 97, c 118, c 105, c 103, c 101, c 114, c 47, c 99, c 108, c 97, c 118, c 105, c 103, c 101, c 114, c 108, c 97, c 119, c 49, c 53, c 46, c 72, c 101, c 97, c 100, c 83, c 104, c 111, c 114, c 116, c 32, c 99, c 108, c 97, c 118, c 105, c 103, c 101, c 114, c 47, c 99, c 108, c 97, c 118, c 105, c 103, c 101, c 114, c 108, c 97, c 119, c 49, c 53, c 46, c 72, c 101, c 97, c 100, c 84, c 101, c 108, c 108, c 115, c 32, c 99, c 108, c 97, c 118, c 105, c 103, c 101, c 114, c 47, c 99, c 108, c 97, c 118, c 105, c 103, c 101, c 114, c 108, c 97, c 119, c 51, c 51, c 46, c 84, c 101, c 109, c 112, c 108, c 84, c 101, c 108, c 108, c 115, c 32, c 99, c 108, c 97, c 118, c 105, c 103, c 101, c 114, c 47, c 99, c 108, c 97, c 118, c 105, c 103, c 101, c 114, c 108, c 97, c 119, c 51, c 51, c 46, c 84, c 101, c 109, c 112, c 108, c 79, c 112, c 116, c 105, c 111, c 110, c 115, c 32, c 99, c 108, c 97, c 118, c 105, c 103, c 101, c 114, c 47, c 99, c 108, c 97, c 118, c 105, c 103, c 101, c 114, c 108, c 97, c 119, c 51, c 51, c 46, c 84, c 101, c 109, c 112, c 108, c 66, c 97, c 99, c 107]
def WL : List (List Char) := [[c 97, c 116], [c 99, c 108, c 97, c 118, c 105, c 103, c 101, c 114, c 47, c 99, c 108, c 97, c 118, c 105, c 103, c 101, c 114, c 108, c 97, c 119, c 48, c 51, c 46, c 83, c 112, c 97, c 110, c 84, c 101, c 108, c 108, c 115], [c 99, c 108, c 97, c 118, c 105, c 103, c 101, c 114, c 47, c 99, c 108, c 97, c 118, c 105, c 103, c 101, c 114, c 108, c 97, c 119, c 48, c 51, c 46, c 83, c 112, c 97, c 110, c 80, c 97, c 105, c 114, c 115], [c 99, c 108, c 97, c 118, c 105, c 103, c 101, c 114, c 47, c 99, c 108, c 97, c 118, c 105, c 103, c 101, c 114, c 108, c 97, c 119, c 48, c 51, c 46, c 83, c 112, c 97, c 110, c 66, c 97, c 99, c 107], [c 99, c 108, c 97, c 118, c 105, c 103, c 101, c 114, c 47, c 99, c 108, c 97, c 118, c 105, c 103, c 101, c 114, c 108, c 97, c 119, c 48, c 52, c 46, c 69, c 113, c 117, c 97, c 108, c 84, c 117, c 114, c 110, c 115], [c 99, c 108, c 97, c 118, c 105, c 103, c 101, c 114, c 47, c 99, c 108, c 97, c 118, c 105, c 103, c 101, c 114, c 108, c 97, c 119, c 48, c 52, c 46, c 69, c 113, c 117, c 97, c 108, c 84, c 101, c 108, c 108, c 115], [c 99, c 108, c 97, c 118, c 105, c 103, c 101, c 114, c 47, c 99, c 108, c 97, c 118, c 105, c 103, c 101, c 114, c 108, c 97, c 119, c 49, c 53, c 46, c 72, c 101, c 97, c 100, c 66, c 97, c 99, c 107], [c 99, c 108, c 97, c 118, c 105, c 103, c 101, c 114, c 47, c 99, c 108, c 97, c 118, c 105, c 103, c 101, c 114, c 108, c 97, c 119, c 49, c 53, c 46, c 72, c 101, c 97, c 100, c 83, c 104, c 111, c 114, c 116], [c 99, c 108, c 97, c 118, c 105, c 103, c 101, c 114, c 47, c 99, c 108, c 97, c 118, c 105, c 103, c 101, c 114, c 108, c 97, c 119, c 49, c 53, c 46, c 72, c 101, c 97, c 100, c 84, c 101, c 108, c 108, c 115], [c 99, c 108, c 97, c 118, c 105, c 103, c 101, c 114, c 47, c 99, c 108, c 97, c 118, c 105, c 103, c 101, c 114, c 108, c 97, c 119, c 51, c 51, c 46, c 84, c 101, c 109, c 112, c 108, c 84, c 101, c 108, c 108, c 115], [c 99, c 108, c 97, c 118, c 105, c 103, c 101, c 114, c 47, c 99, c 108, c 97, c 118, c 105, c 103, c 101, c 114, c 108, c 97, c 119, c 51, c 51, c 46, c 84, c 101, c 109, c 112, c 108, c 79, c 112, c 116, c 105, c 111, c 110, c 115], [c 99, c 108, c 97, c 118, c 105, c 103, c 101, c 114, c 47, c 99, c 108, c 97, c 118, c 105, c 103, c 101, c 114, c 108, c 97, c 119, c 51, c 51, c 46, c 84, c 101, c 109, c 112, c 108, c 66, c 97, c 99, c 107]]
theorem z0 : Try.prog.initOrder = String.ofList L := by kernel_rfl
theorem z1 : Try.prog.initOrder.toList = L := by rw [z0]; exact String.toList_ofList
theorem z2 : behindMainWord (wordsSigns L) = "cut".toList :: WL := by kernel_rfl
theorem z3 : behindMainWord (wordsSigns Try.prog.initOrder.toList) = "cut".toList :: WL := (congrArg (fun x => behindMainWord (wordsSigns x)) z1).trans z2
theorem strip_cut (r : List (List Char)) : stripLifts liftWords ("cut".toList :: r) = ([], "cut".toList :: r) := by
  unfold liftWords
  simp [stripLifts]
theorem make_cut {P : Program} {r : List (List Char)} (h : behindMainWord (wordsSigns P.initOrder.toList) = "cut".toList :: r) : P.make = some .cut := by
  unfold Program.make
  rw [h]
  simp
theorem lifts_cut {P : Program} {r : List (List Char)} (h : behindMainWord (wordsSigns P.initOrder.toList) = "cut".toList :: r) : P.headLifts = [] := by
  unfold Program.headLifts
  rw [h, strip_cut]
  simp
theorem final_cut {P : Program} {r : List (List Char)} (h : behindMainWord (wordsSigns P.initOrder.toList) = "cut".toList :: r) : P.liftsFinal = false := by
  unfold Program.liftsFinal
  rw [lifts_cut h, h]
  simp
theorem enter_cut {P : Program} {r : List (List Char)} (h : behindMainWord (wordsSigns P.initOrder.toList) = "cut".toList :: r) (h1 : P.laysLater = false) (h2 : P.bearsReflect = false) (h3 : P.doorFits [] = true) : P.mayEnter = true := by
  unfold Program.mayEnter
  rw [h]
  simp only [strip_cut]
  simp [h1, h2, h3]
theorem enter : Try.prog.mayEnter = true := enter_cut z3 (by as_aux_lemma => kernel_rfl) (by as_aux_lemma => kernel_rfl) (by as_aux_lemma => kernel_rfl)
theorem final : Try.prog.liftsFinal = false := final_cut z3
theorem make : Try.prog.make = some .cut := make_cut z3
theorem laid : laidOutB Try.prog = true := by kernel_rfl
theorem rowed : mapsRowed Try.prog = true := by kernel_rfl
theorem heard : Try.prog.stopsHeard = true := by kernel_rfl
theorem plain : Try.prog.plainKeys = true := by kernel_rfl
theorem and_mk {a b : Bool} (h : a = true) (k : b = true) : (a && b) = true := by rw [h, k]; rfl
end Go.Proofs.Ytmcpfkgahmdkgaa.RowAid
end
section
namespace Go.Proofs.Ytmcpfkgahmdkgaa.RowMem
open Go Go.ChangeShapes Go.WideShapes Go.RowKit
set_option linter.unusedVariables false
set_option linter.constructorNameAsVariable false
set_option maxRecDepth 10000
variable {H : Type} {enc : TypeId × Value → H} {W : World} {r : Reach} {b0 base : Nat} {spare : Nat → Bool} {held : Bool} {v : Value} {d : DataW H} {p : List MemPlace}
theorem list2 {α : Type} : ∀ {l : List α}, l.length = 2 → ∃ a b, l = [a, b]
  | [a, b], _ => ⟨a, b, rfl⟩
theorem arr2_cells {fuel : Nat} {cs : List Value} {x : DataW H × List MemPlace} (h : DataW.trod enc Try.prog W base spare held fuel 36 cs = some x) : ∃ a b, cs = [.int .i64 a, .int .i64 b] ∧ (Lit.int .i64 a).wf = true ∧ (Lit.int .i64 b).wf = true := by
  obtain ⟨xs, m, rfl, rfl, hl, hn, hf⟩ := DataW.trod_array Try.underlying36 h
  have e1 : Try.prog.cellsOf 36 = 2 := by kernel_rfl
  have e2 : Try.prog.cellsOf 3 = 1 := by kernel_rfl
  rw [e1] at hl
  obtain ⟨y0, y1, rfl⟩ := list2 hn
  obtain ⟨c0, c1, rfl⟩ := list2 hl
  have h0 := hf 0 (by omega)
  have h1 := hf 1 (by omega)
  rw [e2] at h0 h1
  simp only [Nat.zero_mul, Nat.one_mul, List.drop_zero, List.drop_succ_cons, List.take_succ_cons, List.take_zero, List.getElem?_cons_zero, List.getElem?_cons_succ] at h0 h1
  obtain ⟨a, ha, _, wa⟩ := DataW.trod_int Try.underlying3 h0
  obtain ⟨b, hb, _, wb⟩ := DataW.trod_int Try.underlying3 h1
  exact ⟨a, b, by rw [List.singleton_inj.1 ha, List.singleton_inj.1 hb], wa, wb⟩
theorem open_arr2 (hv : Value.okWide Try.prog W r b0 36 v) (h : DataW.Trod enc Try.prog W base spare held 36 v d p) : ∃ a b, v = .agg #[.int .i64 a, .int .i64 b] ∧ (Lit.int .i64 a).wf = true ∧ (Lit.int .i64 b).wf = true := by
  simp only [Value.okWide, Try.underlying36] at hv
  obtain ⟨cs, rfl, hsz, _⟩ := hv
  obtain ⟨fuel, hf⟩ := h
  obtain ⟨a, b, hc, wa, wb⟩ := arr2_cells hf
  refine ⟨a, b, ?_, wa, wb⟩
  congr 1
  exact Array.toList_inj.1 hc
end Go.Proofs.Ytmcpfkgahmdkgaa.RowMem
end
