-- several texts in one (by the session's program shake.py)
import Derived.Test.YtmcpfkgahmdkgaaZScopes
import Derived.Test.YtmcpfkgahmdkgaaZPrg15
import Derived.Test.YtmcpfkgahmdkgaaZPrL15HeadBack
import Derived.Test.YtmcpfkgahmdkgaaZPut
import Derived.Test.YtmcpfkgahmdkgaaZPreq1
import Derived.Deep.RegionHeld3
import Derived.Test.YtmcpfkgahmdkgaaZPrg15b
import Derived.Test.YtmcpfkgahmdkgaaRows
import Derived.JoinedOf
import Derived.KernelRfl
import Derived.OpenShut
import Derived.Deep.Slices
import Derived.Lib.SmallJoins
section
namespace Go.Proofs.Ytmcpfkgahmdkgaa.Pr
open Go.RowKit Go.Proofs.YtmcpfkgahmdkgaaW.PrintWords Go.Proofs.YtmcpfkgahmdkgaaW.PrintLast Go.Proofs.YtmcpfkgahmdkgaaW.PrintMore
attribute [local go_sem] max2_int min2_int max_two min_two max_three min_three max_four min_four   -- for this text's walks alone
set_option linter.unusedVariables false
set_option linter.unusedSimpArgs false

def clavigerlaw15_HeadShort.j0 : Nat → Int → ByteArray → Int → Bool → Option (Bool)
 | 0, _, _, _, _ => none
 | k + 1, x1, x5, x6, x20 => if x20 = true then (if x6 = 0 then (some false) else (if x5.toList = ([] : List UInt8) then ((clavigerlaw15_awake.f k).bind fun t1 => (some t1)) else (some false))) else (if (x5.size : Int) = 0 then (none) else (if 0 ≤ (Int.tmod (wrap64 (x1)) (x5.size : Int)) then (if (Int.tmod (wrap64 (x1)) (x5.size : Int)) ≤ (x5.size : Int) then ((head_Decode.f (x5.extract 0 ((Int.tmod (wrap64 (x1)) (x5.size : Int)) : Int).toNat)).bind fun bt2 => (if bt2.2.2.2.2.1 = 0 then (if bt2.2.2.2.2.2 = 5 then ((clavigerlaw15_awake.f k).bind fun t3 => (some t3)) else (some false)) else (some false))) else (none)) else (none)))
def clavigerlaw15_HeadShort.f (k : Nat) (a0_0 : Int) (a0_1 : Int) (a0_2 : Bool) (a0_3 : Int) (a1 : Int) : Option (Bool) := (head_Encode.f k a0_0 a0_1 a0_2 a0_3).bind fun bt4 => (if bt4.2 = 0 then (clavigerlaw15_HeadShort.j0 k a1 bt4.1 bt4.2 (bt4.1.toList == ([] : List UInt8))) else (clavigerlaw15_HeadShort.j0 k a1 bt4.1 bt4.2 true))
theorem clavigerlaw15_HeadShort.mono_l : ∀ k, (∀ y5 y6 y7 y8, LeO (clavigerlaw15_HeadShort.j0 k y5 y6 y7 y8) (clavigerlaw15_HeadShort.j0 (k + 1) y5 y6 y7 y8))
 | 0 => fun _ _ _ _ r h => by simp [clavigerlaw15_HeadShort.j0] at h
 | k + 1 => by
  have ih0 := clavigerlaw15_HeadShort.mono_l k
  ·intro y5 y6 y7 y8
   unfold clavigerlaw15_HeadShort.j0
   repeat' first
   | (with_reducible exact ih0 _ _ _ _)
   | (with_reducible exact clavigerlaw15_awake.mono _)
   | (with_reducible exact head_Encode.mono _ _ _ _ _)
   | (with_reducible exact LeO.refl _)
   | (with_reducible exact LeO.none _)
   | (with_reducible refine LeO.ite ?_ ?_)
   | (with_reducible refine LeO.bind ?_ (fun _ => ?_))
theorem clavigerlaw15_HeadShort.mono : ∀ a0 a1 a2 a3 a4 k, LeO (clavigerlaw15_HeadShort.f k a0 a1 a2 a3 a4) (clavigerlaw15_HeadShort.f (k + 1) a0 a1 a2 a3 a4) := by
 intro a0 a1 a2 a3 a4 k
 have ih0 := clavigerlaw15_HeadShort.mono_l k
 unfold clavigerlaw15_HeadShort.f
 repeat' first
   | (with_reducible exact ih0 _ _ _ _)
   | (with_reducible exact clavigerlaw15_awake.mono _)
   | (with_reducible exact head_Encode.mono _ _ _ _ _)
   | (with_reducible exact LeO.refl _)
   | (with_reducible exact LeO.none _)
   | (with_reducible refine LeO.ite ?_ ?_)
   | (with_reducible refine LeO.bind ?_ (fun _ => ?_))
end Go.Proofs.Ytmcpfkgahmdkgaa.Pr
end
section
namespace Go.Proofs.Ytmcpfkgahmdkgaa.M
open Go.RowKit Go.Proofs.Ytmcpfkgahmdkgaa.Pr Go.Proofs.YtmcpfkgahmdkgaaW.PrintWords Go.Proofs.YtmcpfkgahmdkgaaW.PrintLast Go.Proofs.YtmcpfkgahmdkgaaW.PrintMore
set_option linter.unusedSimpArgs false
theorem awake15 : Ev (fun k => clavigerlaw15_awake.f k) true := Ev.of clavigerlaw15_awake.mono (k := 20) (by kernel_rfl)
theorem hdec_c {s : ByteArray} (h : s.size ≤ 140737488351232) : head_Decode.f s = some (outD (decD (nb s))) := by
  unfold head_Decode.f
  rw [if_pos h]
end Go.Proofs.Ytmcpfkgahmdkgaa.M
namespace Go.Proofs.Ytmcpfkgahmdkgaa.Pr
open Go Go.RowKit
end Go.Proofs.Ytmcpfkgahmdkgaa.Pr
end
section
namespace Go.Proofs.Ytmcpfkgahmdkgaa.Pr
open Go.RowKit Go.Proofs.YtmcpfkgahmdkgaaW.PrintWords Go.Proofs.YtmcpfkgahmdkgaaW.PrintLast Go.Proofs.YtmcpfkgahmdkgaaW.PrintMore
/-- The block of a head, of either type. -/
def HQ (T : Nat) (w : World) (g : Nat) (c t : Int) (k : Bool) (l : Int) : Prop := w.heap[g]? = some (.cells #[.int .i64 c, .int .i64 t, .bool k, .int .i64 l] T (0, 0))
theorem HQ.cell {T : Nat} {w : World} {g : Nat} {c t l : Int} {k : Bool} (h : HQ T w g c t k l) (i : Nat) : w.cell? ⟨g, i, none⟩ = (#[.int .i64 c, .int .i64 t, .bool k, .int .i64 l] : Array Value)[i]? := blk_cell h i
theorem HQ.lt {T : Nat} {w : World} {g : Nat} {c t l : Int} {k : Bool} (h : HQ T w g c t k l) : g < w.heap.size := by
  unfold HQ at h
  rcases Nat.lt_or_ge g w.heap.size with hlt | hge
  · exact hlt
  · rw [Array.getElem?_eq_none hge] at h; cases h
theorem HQ.below {T : Nat} {w w' : World} {g : Nat} {c t l : Int} {k : Bool} (h : HQ T w g c t k l) (hb : Below w.heap.size w w') : HQ T w' g c t k l := (hb.block g h.lt).trans h
theorem HQ.new (T : Nat) (w : World) (c t : Int) (k : Bool) (l : Int) : HQ T (w.alloc (Obj.cells #[.int .i64 c, .int .i64 t, .bool k, .int .i64 l] T)) w.heap.size c t k l := Array.getElem?_push_size
theorem HQ.alloc {T : Nat} {w : World} {g : Nat} {c t l : Int} {k : Bool} (h : HQ T w g c t k l) (o : Obj) : HQ T (w.alloc o) g c t k l := h.below (below_alloc (Below.refl _ _) o)
theorem HQ.all {T U V : Nat} {W : World} {g h i : Nat} {c t l c' t' l' : Int} {k k' : Bool} (K : HQ T W g c t k l) (L : HQ U W h c' t' k' l') (M : HQ V W i c' t' k' l') :
    W.cell? ⟨g, 0, none⟩ = some (.int .i64 c) ∧ W.cell? ⟨g, 1, none⟩ = some (.int .i64 t) ∧ W.cell? ⟨g, 2, none⟩ = some (.bool k) ∧ W.cell? ⟨g, 3, none⟩ = some (.int .i64 l) ∧
    W.cell? ⟨h, 0, none⟩ = some (.int .i64 c') ∧ W.cell? ⟨h, 1, none⟩ = some (.int .i64 t') ∧ W.cell? ⟨h, 2, none⟩ = some (.bool k') ∧ W.cell? ⟨h, 3, none⟩ = some (.int .i64 l') ∧
    W.cell? ⟨i, 0, none⟩ = some (.int .i64 c') ∧ W.cell? ⟨i, 1, none⟩ = some (.int .i64 t') ∧ W.cell? ⟨i, 2, none⟩ = some (.bool k') ∧ W.cell? ⟨i, 3, none⟩ = some (.int .i64 l') :=
  ⟨K.cell 0, K.cell 1, K.cell 2, K.cell 3, L.cell 0, L.cell 1, L.cell 2, L.cell 3, M.cell 0, M.cell 1, M.cell 2, M.cell 3⟩
theorem headT_a (c t : Int) (k : Bool) (l : Int) (s : ByteArray) (w : World) (h : s.size > 200) : Calls Try.prog 10 #[.agg #[.int .i64 c, .int .i64 t, .bool k, .int .i64 l], .string s] w fun e w' => e = .returned (.bool true) ∧ Below w.heap.size w w' := by
  have e1 : decide (200 < (s.size : Int)) = true := decide_eq_true (by omega)
  obtain ⟨n, hA⟩ := M.awake15.rounds
  have HA := Aside0.mk hA
  clear h hA
  go_enter Try.func10, Try.ntmps10
  go_wp2_with (go_at_call 40; (with_reducible refine (clavigerlaw15_awake.calls _ _ _ HA.out).mono ?_); rintro e w3 ⟨rfl, hb3⟩; have HB3 := Aside0.mk hb3; clear hb3)
  go_ret
  exact ⟨rfl, below_then (below_alloc (Below.refl _ _) _) (below_alloc (Below.refl _ _) _).size HB3.out⟩
set_option maxHeartbeats 4000000 in
set_option maxRecDepth 100000 in
theorem headT_b (n : Nat) (c t : Int) (k : Bool) (l : Int) (s E : ByteArray) (q : Int) (c' t' : Int) (k' : Bool) (l' m' e' z : Int) (w : World) (h : s.size ≤ 200) (hE : head_Encode.f n c t k l = some (E, q)) (hR : clavigerref15_Encode.f n c t k l = some (E, q))
    (hD : head_Decode.f s = some (c', t', k', l', m', e')) (hS : clavigerref15_Decode.f n s = some (c', t', k', l', m', e')) (hZ : head_Size.f n c t k l = some z) (hY : clavigerref15_Size.f n c t k l = some z) (hA : clavigerlaw15_awake.f n = some true) :
    Calls Try.prog 10 #[.agg #[.int .i64 c, .int .i64 t, .bool k, .int .i64 l], .string s] w fun e w' => e = .returned (.bool true) ∧ Below w.heap.size w w' := by
  have e1 : decide (200 < (s.size : Int)) = false := decide_eq_false (by omega)
  have HE := Aside0.mk hE
  have HR := Aside0.mk hR
  have HD := Aside0.mk hD
  have HS := Aside0.mk hS
  have HZ := Aside0.mk hZ
  have HY := Aside0.mk hY
  have HA := Aside0.mk hA
  clear h hE hR hD hS hZ hY hA
  go_enter Try.func10, Try.ntmps10
  go_wp2_with (first
    | (go_at_call 41; (with_reducible refine (head_Encode.calls n _ _ _ _ _ _ _ HE.out).mono ?_); rintro e w1 ⟨rfl, hb1⟩; have K1 := Aside0.mk ((HQ.new _ _ _ _ _ _).below hb1); have B1 := Aside0.mk (below_then (below_alloc (Below.refl w.heap.size w) _) (below_alloc (Below.refl w.heap.size w) _).size hb1); have c10 := K1.out.cell 0; have c11 := K1.out.cell 1; have c12 := K1.out.cell 2; have c13 := K1.out.cell 3; clear hb1)
    | (go_at_call 43; (with_reducible refine (clavigerref15_Encode.calls n _ _ _ _ _ _ _ HR.out).mono ?_); rintro e w2 ⟨rfl, hb2⟩; have K2 := Aside0.mk (K1.out.below hb2); have B2 := Aside0.mk (below_then B1.out B1.out.size hb2); clear hb2)
    | (go_at_call 42; (with_reducible refine (head_Decode.calls _ _ _ _ _ _ _ _ HD.out).mono ?_); rintro e w3 ⟨rfl, hb3⟩; have K3 := Aside0.mk (K2.out.below hb3); have B3 := Aside0.mk (below_then B2.out B2.out.size hb3); clear hb3)
    | (go_at_call 44; (with_reducible refine (clavigerref15_Decode.calls n _ _ _ _ _ _ _ _ HS.out).mono ?_); rintro e w4 ⟨rfl, hb4⟩; have K4 := Aside0.mk ((K3.out.alloc _).below hb4); have L4 := Aside0.mk ((HQ.new _ _ _ _ _ _).below hb4); have B4 := Aside0.mk (below_then (below_alloc B3.out _) (below_alloc B3.out _).size hb4); clear hb4))
  have K5 := Aside0.mk (HQ.alloc K4.out (Obj.cells #[.int .i64 c', .int .i64 t', .bool k', .int .i64 l'] 51))
  have L5 := Aside0.mk (HQ.alloc L4.out (Obj.cells #[.int .i64 c', .int .i64 t', .bool k', .int .i64 l'] 51))
  have M5 := Aside0.mk (HQ.new 51 w4 c' t' k' l')
  have B5 := Aside0.mk (below_alloc B4.out (Obj.cells #[.int .i64 c', .int .i64 t', .bool k', .int .i64 l'] 51))
  generalize w4.alloc (Obj.cells #[.int .i64 c', .int .i64 t', .bool k', .int .i64 l'] 51) = w5 at K5 L5 M5 B5 ⊢
  have v1 := HQ.all (W := w5.drew) K5.out L5.out M5.out
  have q1 : (E.toList == E.toList) = true := beq_self_eq_true _
  have q2 : (q == q) = true := beq_self_eq_true _
  have q3 : (m' == m') = true := beq_self_eq_true _
  have q4 : (e' == e') = true := beq_self_eq_true _
  have q5 : (z == z) = true := beq_self_eq_true _
  clear c10 c11 c12 c13 K1 B1 K2 B2 K3 B3 K4 L4 B4
  go_region_held3 (fun W => W.cell? ⟨w.heap.size, 0, none⟩ = some (.int .i64 c) ∧ W.cell? ⟨w.heap.size, 1, none⟩ = some (.int .i64 t) ∧ W.cell? ⟨w.heap.size, 2, none⟩ = some (.bool k) ∧ W.cell? ⟨w.heap.size, 3, none⟩ = some (.int .i64 l) ∧
    W.cell? ⟨w3.heap.size, 0, none⟩ = some (.int .i64 c') ∧ W.cell? ⟨w3.heap.size, 1, none⟩ = some (.int .i64 t') ∧ W.cell? ⟨w3.heap.size, 2, none⟩ = some (.bool k') ∧ W.cell? ⟨w3.heap.size, 3, none⟩ = some (.int .i64 l') ∧
    W.cell? ⟨w4.heap.size, 0, none⟩ = some (.int .i64 c') ∧ W.cell? ⟨w4.heap.size, 1, none⟩ = some (.int .i64 t') ∧ W.cell? ⟨w4.heap.size, 2, none⟩ = some (.bool k') ∧ W.cell? ⟨w4.heap.size, 3, none⟩ = some (.int .i64 l')) (first | exact v1 | exact v2 | exact v3 | exact v4)
    (first
      | (go_at_call 45; (with_reducible refine (head_Size.calls n _ _ _ _ _ _ HZ.out).mono ?_); rintro e w6 ⟨rfl, hb6⟩; have B6 := Aside0.mk (below_then (below_drew1 B5.out) B5.out.size hb6); have K6 := Aside0.mk (HQ.below (w := w5.drew) K5.out hb6); have L6 := Aside0.mk (HQ.below (w := w5.drew) L5.out hb6); have M6 := Aside0.mk (HQ.below (w := w5.drew) M5.out hb6); have v2 := HQ.all K6.out L6.out M6.out; clear hb6)
      | (go_at_call 46; (with_reducible refine (clavigerref15_Size.calls n _ _ _ _ _ _ HY.out).mono ?_); rintro e w7 ⟨rfl, hb7⟩; have B7 := Aside0.mk (below_then B6.out B6.out.size hb7); have K7 := Aside0.mk (K6.out.below hb7); have L7 := Aside0.mk (L6.out.below hb7); have M7 := Aside0.mk (M6.out.below hb7); have v3 := HQ.all K7.out L7.out M7.out; clear hb7)
      | (go_at_call 40; (with_reducible refine (clavigerlaw15_awake.calls _ _ _ HA.out).mono ?_); rintro e w8 ⟨rfl, hb8⟩; have B8 := Aside0.mk (below_then B7.out B7.out.size hb8); have v4 := HQ.all (K7.out.below hb8) (L7.out.below hb8) (M7.out.below hb8); clear hb8))
  all_goals
    go_wp2
    go_ret
    exact ⟨rfl, B8.out⟩
theorem headTells_walk (c t : Int) (k : Bool) (l : Int) (s : ByteArray) (w : World) : Calls Try.prog 10 #[.agg #[.int .i64 c, .int .i64 t, .bool k, .int .i64 l], .string s] w fun e w' => e = .returned (.bool true) ∧ Below w.heap.size w w' := by
  by_cases h : s.size > 200
  · exact headT_a c t k l s w h
  · have hz : Ev (fun n => head_Size.f n c t k l) ((M.encT c t k l).1.size : Int) := by
      unfold head_Size.f
      exact M.evb (M.henc_c c t k l) (Ev.now _)
    have hy : Ev (fun n => clavigerref15_Size.f n c t k l) ((M.encT c t k l).1.size : Int) := by
      unfold clavigerref15_Size.f
      exact M.evb (M.renc_c c t k l) (Ev.now _)
    obtain ⟨k1, h1⟩ := M.henc_c c t k l
    obtain ⟨k2, h2⟩ := M.renc_c c t k l
    obtain ⟨k3, h3⟩ := M.rdec_c s (by omega)
    obtain ⟨k4, h4⟩ := hz
    obtain ⟨k5, h5⟩ := hy
    obtain ⟨k6, h6⟩ := M.awake15
    have hd := M.hdec_c (s := s) (by omega)
    obtain ⟨n, g1, g2, g3, g4, g5, g6⟩ : ∃ n, k1 ≤ n ∧ k2 ≤ n ∧ k3 ≤ n ∧ k4 ≤ n ∧ k5 ≤ n ∧ k6 ≤ n := ⟨k1 + k2 + k3 + k4 + k5 + k6, by omega, by omega, by omega, by omega, by omega, by omega⟩
    exact headT_b n c t k l s _ _ _ _ _ _ _ _ _ w (by omega) (h1 n g1) (h2 n g2) hd (h3 n g3) (h4 n g4) (h5 n g5) (h6 n g6)
end Go.Proofs.Ytmcpfkgahmdkgaa.Pr
end
section
namespace Go.Proofs.Ytmcpfkgahmdkgaa.RowAid
set_option maxRecDepth 100000
def c (n : Nat) : Char := Char.ofNat n
def L : List Char := [c 104, c 97, c 114, c 110, c 101, c 115, c 115, c 32, c 52, c 51, c 50, c 56, c 48, c 98, c 101, c 100, c 50, c 51, c 98, c 48, c 100, c 55, c 50, c 52, c 101, c 53, c 56, c 49, c 56, c 53, c 102, c 51, c 102, c 97, c 101, c 51, c 99, c 101, c 98, c 51, c 100, c 49, c 49, c 53, c 99, c 51, c 98, c 57, c 97, c 50, c 102, c 99, c 100, c 56, c 50, c 99, c 97, c 54, c 50, c 57, c 102, c 57, c 97, c 49, c 50, c 56, c 51, c 56, c 99, c 52, c 49, c 97, c 32, c 99, c 117, c 116, c 32, c 97, c 116, c 32, c 99, c 108, c 97, c 118, c 105, c 103, c 101, c 114, c 47, c 99, c 108, c 97, c 118, c 105, c 103, c 101, c 114, c 108, c 97, c 119, c 48, c 51, c 46, c 83, c 112, c 97, c 110, c 84, c 101, c 108, c 108, c 115, c 32, c 99, c 108, c 97, c 118, c 105, c 103, c 101, c 114, c 47, c 99, c 108, c 97, c 118, c 105, c 103, c 101, c 114, c 108, c 97, c 119, c 48, c 51, c 46, c 83, c 112, c 97, c 110, c 80, c 97, c 105, c 114, c 115, c 32, c 99, c 108, c 97, c 118, c 105, c 103, c 101, c 114, c 47, c 99, c 108, c 97, c 118, c 105, c 103, c 101, c 114, c 108, c 97, c 119, c 48, c 51, c 46, c 83, c 112, c 97, c 110, c 66, c 97, c 99, c 107, c 32, c 99, c 108, c 97, c 118, c 105, c 103, c 101, c 114, c 47, c 99, c 108, c 97, c 118, c 105, c 103, c 101, c 114, c 108, c 97, c 119, c 48, c 52, c 46, c 69, c 113, c 117, c 97, c 108, c 84, c 117, c 114, c 110, c 115, c 32, c 99, c 108, c 97, c 118, c 105, c 103, c 101, c 114, c 47, c 99, c 108, c 97, c 118, c 105, c 103, c 101, c 114, c 108, c 97, c 119, c 48, c 52, c 46, c 69, c 113, c 117, c 97, c 108, c 84, c 101, c 108, c 108, c 115, c 32, c 99, c 108, c 97, c 118, c 105, c 103, c 101, c 114, c 47, c 99, c 108, c 97, c 118, c 105, c 103, c 101, c 114, c 108, c 97, c 119, c 49, c 53, c 46, c 72, c 101, c 97, c 100, c 66, c 97, c 99, c 107, c 32, c 99, c 108, c 97, c 118, c 105, c 103, c 101, c 114, c 47, c 99, c 108, c 97, c 118, c 105, c 103, c 101, c 114, c 108, c 97, c 119, c 49, c 53, c 46, c 72, c 101, c 97, c 100, c 83, c 104, c 111, c 114, c 116, c 32, c 99, c 108, c 97, c 118, c 105, c 103, c 101, c 114, c 47, c 99, c 108, c 97, c 118, c 105, c 103, c 101, c 114, c 108, c 97, c 119, c 49, c 53, c 46, c 72, c 101, c 97, c 100, c 84, c 101, c 108, c 108, c 115, c 32, c 99, c 108, c 97, c 118, c 105, c 103, c 101, c 114, c 47, c 99, c 108, c 97, c 118, c 105, c 103, c 101, c 114, c 108, c 97, c 119, c 51, c 51, c 46, c 84, c 101, c 109, c 112, c 108, c 84, c 101, c 108, c 108, c 115, c 32, c 99, c 108, c 97, c 118, c 105, c 103, c 101, c 114, c 47, c 99, c 108, c 97, c 118, c 105, c 103, c 101, c 114, c 108, c 97, c 119, c 51, c 51, c 46, c 84, c 101, c 109, c 112, c 108, c 79, c 112, c 116, c 105, c 111, c 110, c 115, c 32, c 99, c 108, c 97, c 118, c 105, c 103, c 101, c 114, c 47, c 99, c 108, c 97, c 118, c 105, c 103, c 101, c 114, c 108, c 97, c 119, c 51, c 51, c 46, c 84, c 101, c 109, c 112, c 108, c 66, c 97, c 99, c 107]
def WL : List (List Char) := [[c 97, c 116], [c 99, c 108, c 97, c 118, c 105, c 103, c 101, c 114, c 47, c 99, c 108, c 97, c 118, c 105, c 103, c 101, c 114, c 108, c 97, c 119, c 48, c 51, c 46, c 83, c 112, c 97, c 110, c 84, c 101, c 108, c 108, c 115], [c 99, c 108, c 97, c 118, c 105, c 103, c 101, c 114, c 47, c 99, c 108, c 97, c 118, c 105, c 103, c 101, c 114, c 108, c 97, c 119, c 48, c 51, c 46, c 83, c 112, c 97, c 110, c 80, c 97, c 105, c 114, c 115], [c 99, c 108, c 97, c 118, c 105, c 103, c 101, c 114, c 47, c 99, c 108, c 97, c 118, c 105, c 103, c 101, c 114, c 108, c 97, c 119, c 48, c 51, c 46, c 83, c 112, c 97, c 110, c 66, c 97, c 99, c 107], [c 99, c 108, c 97, c 118, c 105, c 103, c 101, c 114, c 47, c 99, c 108, c 97, c 118, c 105, c 103, c 101, c 114, c 108, c 97, c 119, c 48, c 52, c 46, c 69, c 113, c 117, c 97, c 108, c 84, c 117, c 114, c 110, c 115], [c 99, c 108, c 97, c 118, c 105, c 103, c 101, c 114, c 47, c 99, c 108, c 97, c 118, c 105, c 103, c 101, c 114, c 108, c 97, c 119, c 48, c 52, c 46, c 69, c 113, c 117, c 97, c 108, c 84, c 101, c 108, c 108, c 115], [c 99, c 108, c 97, c 118, c 105, c 103, c 101, c 114, c 47, c 99, c 108, c 97, c 118, c 105, c 103, c 101, c 114, c 108, c 97, c 119, c 49, c 53, c 46, c 72, c 101, c 97, c 100, c 66, c 97, c 99, c 107], [c 99, c 108, c 97, c 118, c 105, c 103, c 101, c 114, c 47, c 99, c 108, c 97, c 118, c 105, c 103, c 101, c 114, c 108, c 97, c 119, c 49, c 53, c 46, c 72, c 101, c 97, c 100, c 83, c 104, c 111, c 114, c 116], [c 99, c 108, c 97, c 118, c 105, c 103, c 101, c 114, c 47, c 99, c 108, c 97, c 118, c 105, c 103, c 101, c 114, c 108, c 97, c 119, c 49, c 53, c 46, c 72, c 101, c 97, c 100, c 84, c 101, c 108, c 108, c 115], [c 99, c 108, c 97, c 118, c 105, c 103, c 101, c 114, c 47, c 99, c 108, c 97, c 118, c 105, c 103, c 101, c 114, c 108, c 97, c 119, c 51, c 51, c 46, c 84, c 101, c 109, c 112, c 108, c 84, c 101, c 108, c 108, c 115], [c 99, c 108, c 97, c 118, c 105, c 103, c 101, c 114, c 47, c 99, c 108, c 97, c 118, c 105, c 103, c 101, c 114, c 108, c 97, c 119, c 51, c 51, c 46, c 84, c 101, c 109, c 112, c 108, c 79, c 112, c 116, c 105, c 111, c 110, c 115], [c 99, c 108, c 97, c 118, c 105, c 103, c 101, c 114, c 47, c 99, c 108, c 97, c 118, c 105, c 103, c 101, c 114, c 108, c 97, c 119, c 51, c 51, c 46, c 84, c 101, c 109, c 112, c 108, c 66, c 97, c 99, c 107]]
theorem z0 : Try.prog.initOrder = String.ofList L := by kernel_rfl
theorem z1 : Try.prog.initOrder.toList = L := by rw [z0]; exact String.toList_ofList
theorem z2 : behindMainWord (wordsSigns L) = "cut".toList :: WL := by kernel_rfl
theorem z3 : behindMainWord (wordsSigns Try.prog.initOrder.toList) = "cut".toList :: WL := (congrArg (fun x => behindMainWord (wordsSigns x)) z1).trans z2
theorem strip_cut (r : List (List Char)) : stripLifts liftWords ("cut".toList :: r) = ([], "cut".toList :: r) := by
  unfold liftWords
  simp [stripLifts]
theorem make_cut {P : Program} {r : List (List Char)} (h : behindMainWord (wordsSigns P.initOrder.toList) = "cut".toList :: r) : P.make = some .cut := by
  unfold Program.make
  rw [h]
  simp
theorem lifts_cut {P : Program} {r : List (List Char)} (h : behindMainWord (wordsSigns P.initOrder.toList) = "cut".toList :: r) : P.headLifts = [] := by
  unfold Program.headLifts
  rw [h, strip_cut]
  simp
theorem final_cut {P : Program} {r : List (List Char)} (h : behindMainWord (wordsSigns P.initOrder.toList) = "cut".toList :: r) : P.liftsFinal = false := by
  unfold Program.liftsFinal
  rw [lifts_cut h, h]
  simp
theorem enter_cut {P : Program} {r : List (List Char)} (h : behindMainWord (wordsSigns P.initOrder.toList) = "cut".toList :: r) (h1 : P.laysLater = false) (h2 : P.bearsReflect = false) (h3 : P.doorFits [] = true) : P.mayEnter = true := by
  unfold Program.mayEnter
  rw [h]
  simp only [strip_cut]
  simp [h1, h2, h3]
theorem enter : Try.prog.mayEnter = true := enter_cut z3 (by as_aux_lemma => kernel_rfl) (by as_aux_lemma => kernel_rfl) (by as_aux_lemma => kernel_rfl)
theorem final : Try.prog.liftsFinal = false := final_cut z3
theorem make : Try.prog.make = some .cut := make_cut z3
theorem laid : laidOutB Try.prog = true := by kernel_rfl
theorem rowed : mapsRowed Try.prog = true := by kernel_rfl
theorem heard : Try.prog.stopsHeard = true := by kernel_rfl
theorem plain : Try.prog.plainKeys = true := by kernel_rfl
theorem and_mk {a b : Bool} (h : a = true) (k : b = true) : (a && b) = true := by rw [h, k]; rfl
end Go.Proofs.Ytmcpfkgahmdkgaa.RowAid
end
section
namespace Go.Proofs.Ytmcpfkgahmdkgaa.RowMem
open Go Go.ChangeShapes Go.WideShapes Go.RowKit
set_option linter.unusedVariables false
set_option linter.constructorNameAsVariable false
set_option maxRecDepth 10000
variable {H : Type} {enc : TypeId × Value → H} {W : World} {r : Reach} {b0 base : Nat} {spare : Nat → Bool} {held : Bool} {v : Value} {d : DataW H} {p : List MemPlace}
theorem open_head (hv : Value.okWide Try.prog W r b0 51 v) (h : DataW.Trod enc Try.prog W base spare held 51 v d p) : ∃ (a b : Int) (c : Bool) (e : Int), v = .agg #[.int .i64 a, .int .i64 b, .bool c, .int .i64 e] ∧ (Lit.int .i64 a).wf = true := by
  obtain ⟨v0, v1, v2, v3, y0, y1, y2, y3, n, rfl, -, -, h0, h1, h2, h3⟩ := Go.Joins.open_agg4 Try.underlying51 (by kernel_rfl) (by kernel_rfl) hv h
  obtain ⟨a, ha, _, wa⟩ := DataW.trod_int Try.underlying3 h0
  obtain ⟨b, hb, _, wb⟩ := DataW.trod_int Try.underlying3 h1
  obtain ⟨c, hc, _⟩ := DataW.trod_bool Try.underlying4 h2
  obtain ⟨e, he, _, we⟩ := DataW.trod_int Try.underlying3 h3
  exact ⟨a, b, c, e, by rw [List.singleton_inj.1 ha, List.singleton_inj.1 hb, List.singleton_inj.1 hc, List.singleton_inj.1 he], wa⟩
end Go.Proofs.Ytmcpfkgahmdkgaa.RowMem
end
