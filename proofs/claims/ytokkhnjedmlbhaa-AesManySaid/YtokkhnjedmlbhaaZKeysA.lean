-- several texts in one (by the session's program shake.py)
import Derived.Test.YtokkhnjedmlbhaaZAesEnc
import Derived.ScopeJumps
import Derived.Test.YtokkhnjedmlbhaaZFieldP
import Derived.Test.YtokkhnjedmlbhaaZJoin
import Derived.Laws.BitsAllLaws
import Derived.Test.YtokkhnjedmlbhaaZPrg01x
section
namespace Go.Proofs.Ytokkhnjedmlbhaa.Pr
open Go.RowKit Go.Proofs.YtokkhnjedmlbhaaW.PrintWords Go.Proofs.YtokkhnjedmlbhaaW.PrintLast Go.Proofs.YtokkhnjedmlbhaaW.PrintMore Go.Proofs.YtokkhnjedmlbhaaHw Go.Proofs.YtokkhnjedmlbhaaGf
/-- A scope with one label: what holds there is used on the way to it, too. -/
theorem scope_pass {P : Program} {a : Act} {w : World} {Q : Exit → Act → World → Prop} {c c2 : Code} (l : Nat) (J : Act → World → Prop) (μ : Act → World → Nat) (hf : findLabel c l = some (Code.seq .skip c2))
    (pass : ∀ a w, J a w → c2.wp P (Exit.jump l (fun a' w' => J a' w' ∧ μ a' w' < μ a w) Q) a w)
    (first : (∀ a w, J a w → c2.wp P (Exit.jump l J Q) a w) → c.wp P (Exit.jump l J Q) a w) : (Code.scope c).wp P Q a w := by
  refine wp_scope_jumps l J μ hf (first fun a w h => Code.wp_mono (fun e a' w' hq => ?_) (pass a w h)) (fun a w h => wp_seq (wp_skip (pass a w h)))
  cases e <;> first | exact hq | exact ⟨hq.1, hq.2.1⟩
theorem sum_c (c j q : Nat) (hq : q = 4 * c + j) (h : q < 16) : IntKind.i64.wrap (4 * (c : Int) + (j : Int)) = (q : Int) := by
  rw [IntKind.wrap_i64]; omega
theorem mod_c (j d r : Nat) (hj : j < 4) (hd : d < 4) (hr : r = (j + d) % 4) : (IntKind.i64.wrap ((j : Int) + (d : Int))).tmod 4 = (r : Int) := by
  have e : IntKind.i64.wrap ((j : Int) + (d : Int)) = ((j + d : Nat) : Int) := by rw [IntKind.wrap_i64]; omega
  rw [e, Int.tmod_eq_emod_of_nonneg (by omega), hr]
  omega
/-- The places of a column that a product reads. -/
theorem idx4 (c j : Nat) (hc : c < 4) (hj : j < 4) : ∃ r1 r2 r3 q0 q1 q2 q3 : Nat, (q0 = 4 * c + j ∧ q1 = 4 * c + (j + 1) % 4 ∧ q2 = 4 * c + (j + 2) % 4 ∧ q3 = 4 * c + (j + 3) % 4) ∧ (q0 < 16 ∧ q1 < 16 ∧ q2 < 16 ∧ q3 < 16) ∧
    IntKind.i64.wrap (4 * (c : Int) + (j : Int)) = (q0 : Int) ∧ (IntKind.i64.wrap ((j : Int) + 1)).tmod 4 = (r1 : Int) ∧ (IntKind.i64.wrap ((j : Int) + 2)).tmod 4 = (r2 : Int) ∧ (IntKind.i64.wrap ((j : Int) + 3)).tmod 4 = (r3 : Int) ∧
    IntKind.i64.wrap (4 * (c : Int) + (r1 : Int)) = (q1 : Int) ∧ IntKind.i64.wrap (4 * (c : Int) + (r2 : Int)) = (q2 : Int) ∧ IntKind.i64.wrap (4 * (c : Int) + (r3 : Int)) = (q3 : Int) := by
  have h1 : (j + 1) % 4 < 4 := Nat.mod_lt _ (by omega)
  have h2 : (j + 2) % 4 < 4 := Nat.mod_lt _ (by omega)
  have h3 : (j + 3) % 4 < 4 := Nat.mod_lt _ (by omega)
  exact ⟨(j + 1) % 4, (j + 2) % 4, (j + 3) % 4, _, _, _, _, ⟨rfl, rfl, rfl, rfl⟩, ⟨by omega, by omega, by omega, by omega⟩, sum_c c j _ rfl (by omega), mod_c j 1 _ hj (by omega) rfl, mod_c j 2 _ hj (by omega) rfl, mod_c j 3 _ hj (by omega) rfl, sum_c c _ _ rfl (by omega), sum_c c _ _ rfl (by omega), sum_c c _ _ rfl (by omega)⟩
theorem back_set (f y : Nat → Nat) (k : Nat) (hk : k < 16) : (L16 fun q => if 13 * q % 16 < k then M.B1 f q else y q).set (5 * k % 16) ((M.bN (f k) : Nat) : Int) = L16 fun q => if 13 * q % 16 < k + 1 then M.B1 f q else y q := by
  apply List.ext_getElem
  · simp [L16]
  · intro q h1 h2
    have hq : q < 16 := by rw [L16_length] at h2; exact h2
    rw [List.getElem_set]
    simp only [L16, List.getElem_map, List.getElem_range]
    have hu : 5 * k % 16 = q ↔ 13 * q % 16 = k := by omega
    by_cases e : 5 * k % 16 = q
    · have e' := hu.1 e
      rw [if_pos e, if_pos (by omega)]
      show _ = ((M.bN (f (13 * q % 16)) : Nat) : Int)
      rw [e']
    · have e' : 13 * q % 16 ≠ k := fun h => e (hu.2 h)
      rw [if_neg e]
      by_cases h3 : 13 * q % 16 < k
      · rw [if_pos h3, if_pos (by omega)]
      · rw [if_neg h3, if_neg (by omega)]
theorem back_all (f y : Nat → Nat) : (L16 fun q => if 13 * q % 16 < 16 then M.B1 f q else y q) = L16 (M.B1 f) := by
  apply List.map_congr_left
  intro q _
  show ((if 13 * q % 16 < 16 then M.B1 f q else y q : Nat) : Int) = _
  rw [if_pos (Nat.mod_lt _ (by omega))]
/-- What holds at the label: the state has its key; what comes out of it is known. -/
def DecJ (ks : List ByteArray) (s : ByteArray) (g : Nat) (w : World) (a' : Act) (w' : World) : Prop := ∃ (i : Nat) (f y : Nat → Nat) (u : Nat → Value), 1 ≤ i ∧ i < ks.length ∧ Aside0 (∀ q, f q < 256) ∧ Aside0 (M.T (M.B1 f) = M.bwd (ks.drop i) s) ∧ Aside0 (BY w' w.heap.size 65 (L16 y)) ∧ Aside0 (BY w' (w.heap.size + 1) 65 (L16 f)) ∧ Aside0 (Below w.heap.size w w') ∧ a' = { tmps := #[.pointer (some ⟨g, 0, none⟩), .string s, u 2, u 3, .string ⟨#[]⟩, .int .i64 0, .int .i64 0, .pointer (some ⟨w.heap.size, 0, none⟩), .pointer (some ⟨w.heap.size + 1, 0, none⟩), .int .i64 i, u 10, u 11, u 12, u 13, u 14, u 15, u 16, u 17, u 18, u 19, u 20, u 21, u 22, u 23, u 24, u 25, u 26, u 27, u 28, u 29, u 30, u 31, u 32, u 33, u 34, u 35, u 36, u 37, u 38, u 39, u 40, u 41, u 42, u 43, u 44, u 45, u 46, u 47, u 48, u 49, u 50, u 51, u 52, u 53, u 54, u 55, u 56, u 57, u 58, u 59, u 60, u 61, u 62, u 63, u 64, u 65, u 66, u 67, u 68, u 69, u 70, u 71, u 72, u 73, u 74, u 75, u 76, u 77, u 78, u 79, u 80, u 81, u 82, u 83, u 84, u 85, u 86, u 87, u 88, u 89, u 90, u 91, u 92, u 93, u 94, u 95, u 96, u 97, u 98, u 99, u 100, u 101, u 102, u 103, u 104, u 105, u 106, u 107, u 108, u 109, u 110, u 111, u 112, u 113, u 114, u 115, u 116, u 117, u 118, u 119, u 120, u 121, u 122, u 123, u 124, u 125, u 126, u 127, u 128, u 129, u 130, u 131, u 132, u 133, u 134, u 135, u 136, u 137, u 138, u 139, u 140, u 141], defers := [] }
theorem DecJ.mk {ks : List ByteArray} {s : ByteArray} {g : Nat} {w : World} {a' : Act} {w' : World} (i : Nat) (f y : Nat → Nat) (h1 : 1 ≤ i) (h2 : i < ks.length) (h3 : Aside0 (∀ q, f q < 256)) (h4 : Aside0 (M.T (M.B1 f) = M.bwd (ks.drop i) s)) (h5 : Aside0 (BY w' w.heap.size 65 (L16 y))) (h6 : Aside0 (BY w' (w.heap.size + 1) 65 (L16 f))) (h7 : Aside0 (Below w.heap.size w w'))
    (h8 : a' = { tmps := #[.pointer (some ⟨g, 0, none⟩), .string s, a'.tmps.getD 2 undef, a'.tmps.getD 3 undef, .string ⟨#[]⟩, .int .i64 0, .int .i64 0, .pointer (some ⟨w.heap.size, 0, none⟩), .pointer (some ⟨w.heap.size + 1, 0, none⟩), .int .i64 i, a'.tmps.getD 10 undef, a'.tmps.getD 11 undef, a'.tmps.getD 12 undef, a'.tmps.getD 13 undef, a'.tmps.getD 14 undef, a'.tmps.getD 15 undef, a'.tmps.getD 16 undef, a'.tmps.getD 17 undef, a'.tmps.getD 18 undef, a'.tmps.getD 19 undef, a'.tmps.getD 20 undef, a'.tmps.getD 21 undef, a'.tmps.getD 22 undef, a'.tmps.getD 23 undef, a'.tmps.getD 24 undef, a'.tmps.getD 25 undef, a'.tmps.getD 26 undef, a'.tmps.getD 27 undef, a'.tmps.getD 28 undef, a'.tmps.getD 29 undef, a'.tmps.getD 30 undef, a'.tmps.getD 31 undef, a'.tmps.getD 32 undef, a'.tmps.getD 33 undef, a'.tmps.getD 34 undef, a'.tmps.getD 35 undef, a'.tmps.getD 36 undef, a'.tmps.getD 37 undef, a'.tmps.getD 38 undef, a'.tmps.getD 39 undef, a'.tmps.getD 40 undef, a'.tmps.getD 41 undef, a'.tmps.getD 42 undef, a'.tmps.getD 43 undef, a'.tmps.getD 44 undef, a'.tmps.getD 45 undef, a'.tmps.getD 46 undef, a'.tmps.getD 47 undef, a'.tmps.getD 48 undef, a'.tmps.getD 49 undef, a'.tmps.getD 50 undef, a'.tmps.getD 51 undef, a'.tmps.getD 52 undef, a'.tmps.getD 53 undef, a'.tmps.getD 54 undef, a'.tmps.getD 55 undef, a'.tmps.getD 56 undef, a'.tmps.getD 57 undef, a'.tmps.getD 58 undef, a'.tmps.getD 59 undef, a'.tmps.getD 60 undef, a'.tmps.getD 61 undef, a'.tmps.getD 62 undef, a'.tmps.getD 63 undef, a'.tmps.getD 64 undef, a'.tmps.getD 65 undef, a'.tmps.getD 66 undef, a'.tmps.getD 67 undef, a'.tmps.getD 68 undef, a'.tmps.getD 69 undef, a'.tmps.getD 70 undef, a'.tmps.getD 71 undef, a'.tmps.getD 72 undef, a'.tmps.getD 73 undef, a'.tmps.getD 74 undef, a'.tmps.getD 75 undef, a'.tmps.getD 76 undef, a'.tmps.getD 77 undef, a'.tmps.getD 78 undef, a'.tmps.getD 79 undef, a'.tmps.getD 80 undef, a'.tmps.getD 81 undef, a'.tmps.getD 82 undef, a'.tmps.getD 83 undef, a'.tmps.getD 84 undef, a'.tmps.getD 85 undef, a'.tmps.getD 86 undef, a'.tmps.getD 87 undef, a'.tmps.getD 88 undef, a'.tmps.getD 89 undef, a'.tmps.getD 90 undef, a'.tmps.getD 91 undef, a'.tmps.getD 92 undef, a'.tmps.getD 93 undef, a'.tmps.getD 94 undef, a'.tmps.getD 95 undef, a'.tmps.getD 96 undef, a'.tmps.getD 97 undef, a'.tmps.getD 98 undef, a'.tmps.getD 99 undef, a'.tmps.getD 100 undef, a'.tmps.getD 101 undef, a'.tmps.getD 102 undef, a'.tmps.getD 103 undef, a'.tmps.getD 104 undef, a'.tmps.getD 105 undef, a'.tmps.getD 106 undef, a'.tmps.getD 107 undef, a'.tmps.getD 108 undef, a'.tmps.getD 109 undef, a'.tmps.getD 110 undef, a'.tmps.getD 111 undef, a'.tmps.getD 112 undef, a'.tmps.getD 113 undef, a'.tmps.getD 114 undef, a'.tmps.getD 115 undef, a'.tmps.getD 116 undef, a'.tmps.getD 117 undef, a'.tmps.getD 118 undef, a'.tmps.getD 119 undef, a'.tmps.getD 120 undef, a'.tmps.getD 121 undef, a'.tmps.getD 122 undef, a'.tmps.getD 123 undef, a'.tmps.getD 124 undef, a'.tmps.getD 125 undef, a'.tmps.getD 126 undef, a'.tmps.getD 127 undef, a'.tmps.getD 128 undef, a'.tmps.getD 129 undef, a'.tmps.getD 130 undef, a'.tmps.getD 131 undef, a'.tmps.getD 132 undef, a'.tmps.getD 133 undef, a'.tmps.getD 134 undef, a'.tmps.getD 135 undef, a'.tmps.getD 136 undef, a'.tmps.getD 137 undef, a'.tmps.getD 138 undef, a'.tmps.getD 139 undef, a'.tmps.getD 140 undef, a'.tmps.getD 141 undef], defers := [] }) : DecJ ks s g w a' w' := ⟨i, f, y, fun q => a'.tmps.getD q undef, h1, h2, h3, h4, h5, h6, h7, h8⟩
set_option maxHeartbeats 4000000 in
set_option maxRecDepth 100000 in
theorem dec_calls (g n : Nat) (ks : List ByteArray) (s : ByteArray) (w : World) (hC : IsC w g n ks) (hs : s.size = 16) (hl : 2 ≤ ks.length) (hl2 : ks.length ≤ 100) (hk : M.all16 ks) :
    Calls Try.prog 107 #[.pointer (some ⟨g, 0, none⟩), .string s] w fun e w' => e = .returned (.tuple #[.string (M.decT ks s), .int .i64 0]) ∧ Below w.heap.size w w' := by
  have HC := Aside0.mk hC
  have HSZ := Aside0.mk hs
  have HKS := Aside0.mk hk
  obtain ⟨gk, cap, gt, c1, c2, hS, hT⟩ := hC.cells
  have HSR := Aside0.mk hS
  have HT := Aside0.mk hT
  have hgk := hS.lt
  have hgt := hT.lt
  have hgl := hC.lt
  have hk0 : M.all16 ks := hk
  have HK0 : Aside0 (∀ j, j < ks.length → (kAt ks j).size = 16) := ⟨fun j hj => by
    unfold kAt
    rw [List.getD_eq_getElem?_getD, List.getElem?_eq_getElem hj]
    exact hk0 _ (List.getElem_mem hj)⟩
  have HC1 := Aside0.mk c1
  have HC2 := Aside0.mk c2
  obtain ⟨W1, hW1⟩ : ∃ W1 : World, W1 = ((w.alloc (.cells #[.int .u8 0, .int .u8 0, .int .u8 0, .int .u8 0, .int .u8 0, .int .u8 0, .int .u8 0, .int .u8 0, .int .u8 0, .int .u8 0, .int .u8 0, .int .u8 0, .int .u8 0, .int .u8 0, .int .u8 0, .int .u8 0] 65)).alloc (.cells #[.int .u8 0, .int .u8 0, .int .u8 0, .int .u8 0, .int .u8 0, .int .u8 0, .int .u8 0, .int .u8 0, .int .u8 0, .int .u8 0, .int .u8 0, .int .u8 0, .int .u8 0, .int .u8 0, .int .u8 0, .int .u8 0] 65)).setRow (w.heap.size + 1) ((L16 (M.bb s)).map (Value.int .u8)).toArray := ⟨_, rfl⟩
  have hz0 : ((w.alloc (.cells #[.int .u8 0, .int .u8 0, .int .u8 0, .int .u8 0, .int .u8 0, .int .u8 0, .int .u8 0, .int .u8 0, .int .u8 0, .int .u8 0, .int .u8 0, .int .u8 0, .int .u8 0, .int .u8 0, .int .u8 0, .int .u8 0] 65)).alloc (.cells #[.int .u8 0, .int .u8 0, .int .u8 0, .int .u8 0, .int .u8 0, .int .u8 0, .int .u8 0, .int .u8 0, .int .u8 0, .int .u8 0, .int .u8 0, .int .u8 0, .int .u8 0, .int .u8 0, .int .u8 0, .int .u8 0] 65)).heap[w.heap.size]? = some (.cells #[.int .u8 0, .int .u8 0, .int .u8 0, .int .u8 0, .int .u8 0, .int .u8 0, .int .u8 0, .int .u8 0, .int .u8 0, .int .u8 0, .int .u8 0, .int .u8 0, .int .u8 0, .int .u8 0, .int .u8 0, .int .u8 0] 65 (0, 0)) := (heap_alloc_old _ _ (by simp)).trans (heap_alloc_new w _)
  have hz1 : ((w.alloc (.cells #[.int .u8 0, .int .u8 0, .int .u8 0, .int .u8 0, .int .u8 0, .int .u8 0, .int .u8 0, .int .u8 0, .int .u8 0, .int .u8 0, .int .u8 0, .int .u8 0, .int .u8 0, .int .u8 0, .int .u8 0, .int .u8 0] 65)).alloc (.cells #[.int .u8 0, .int .u8 0, .int .u8 0, .int .u8 0, .int .u8 0, .int .u8 0, .int .u8 0, .int .u8 0, .int .u8 0, .int .u8 0, .int .u8 0, .int .u8 0, .int .u8 0, .int .u8 0, .int .u8 0, .int .u8 0] 65)).heap[w.heap.size + 1]? = some (.cells #[.int .u8 0, .int .u8 0, .int .u8 0, .int .u8 0, .int .u8 0, .int .u8 0, .int .u8 0, .int .u8 0, .int .u8 0, .int .u8 0, .int .u8 0, .int .u8 0, .int .u8 0, .int .u8 0, .int .u8 0, .int .u8 0] 65 (0, 0)) := by
    have := heap_alloc_new (w.alloc (.cells #[.int .u8 0, .int .u8 0, .int .u8 0, .int .u8 0, .int .u8 0, .int .u8 0, .int .u8 0, .int .u8 0, .int .u8 0, .int .u8 0, .int .u8 0, .int .u8 0, .int .u8 0, .int .u8 0, .int .u8 0, .int .u8 0] 65)) (.cells #[.int .u8 0, .int .u8 0, .int .u8 0, .int .u8 0, .int .u8 0, .int .u8 0, .int .u8 0, .int .u8 0, .int .u8 0, .int .u8 0, .int .u8 0, .int .u8 0, .int .u8 0, .int .u8 0, .int .u8 0, .int .u8 0] 65)
    simpa using this
  have hcp : ∀ (ty : TypeId), (Builtin.copy_ #[66, 9] ty #[.slice (some ⟨w.heap.size + 1, 0, none⟩) 16 16, .string s]).run Try.prog ((w.alloc (.cells #[.int .u8 0, .int .u8 0, .int .u8 0, .int .u8 0, .int .u8 0, .int .u8 0, .int .u8 0, .int .u8 0, .int .u8 0, .int .u8 0, .int .u8 0, .int .u8 0, .int .u8 0, .int .u8 0, .int .u8 0, .int .u8 0] 65)).alloc (.cells #[.int .u8 0, .int .u8 0, .int .u8 0, .int .u8 0, .int .u8 0, .int .u8 0, .int .u8 0, .int .u8 0, .int .u8 0, .int .u8 0, .int .u8 0, .int .u8 0, .int .u8 0, .int .u8 0, .int .u8 0, .int .u8 0] 65)) = .ok (goInt 16) W1 := fun ty => by
    rw [hW1, ← cells_16 s hs]
    exact run_copy_str (P := Try.prog) _ 66 9 ty 5 (w.heap.size + 1) 16 16 s #[.int .u8 0, .int .u8 0, .int .u8 0, .int .u8 0, .int .u8 0, .int .u8 0, .int .u8 0, .int .u8 0, .int .u8 0, .int .u8 0, .int .u8 0, .int .u8 0, .int .u8 0, .int .u8 0, .int .u8 0, .int .u8 0] 65 Try.underlying66 (by kernel_rfl) hz1 (by omega) rfl
  have hB1 : Below w.heap.size w W1 := by
    rw [hW1]
    exact below_setRow (((Below.refl _ _).alloc (Nat.le_refl _) _).alloc (by simp) _) (by omega) _
  have ht1 : BY W1 (w.heap.size + 1) 65 (L16 (M.bb s)) := by
    rw [hW1]
    exact setRow_heap _ _ _ _ _ _ hz1
  have hs1 : BY W1 w.heap.size 65 (L16 fun _ => 0) := by
    rw [hW1]
    exact (setRow_other _ _ _ _ (by omega)).trans hz0
  have HB1 := Aside0.mk hB1
  have HS1 := Aside0.mk hs1
  have HT1 := Aside0.mk ht1
  have d1 : W1.cell? ⟨g, 1, none⟩ = some (.slice (some ⟨gk, 0, none⟩) ks.length cap) := pw_cell_below hB1 c1
  have d2 : W1.cell? ⟨gk, ks.length - 1, none⟩ = some (.string (kAt ks (ks.length - 1))) := pw_cell_below hB1 (hS.at_ (ks.length - 1) (by omega))
  clear hW1 hz0 hz1 hB1 hs1 ht1 hS hT hk hk0 hs c1 c2 hC
  go_enter Try.func107, Try.ntmps107
  go_wp2
  refine scope_pass 0 (DecJ ks s g w) (fun a' _ => (intOf (a'.tmps.getD 9 undef)).toNat) rfl ?_ ?_
  · clear hcp d1 d2 HB1 HS1 HT1
    intro a0 w0 hJ
    obtain ⟨i, f, y, u, hi1, hi2, HF, HE, HS2, HT2, HB2, rfl⟩ := hJ
    obtain ⟨m, rfl⟩ : ∃ m, i = m + 1 := ⟨i - 1, by omega⟩
    go_wp2
    go_loopw [36] (fun kv wr => ∃ k : Nat, k ≤ 16 ∧ kv = .int .i64 k ∧ Aside0 (BY wr w.heap.size 65 (L16 fun q => if 13 * q % 16 < k then M.B1 f q else y q)) ∧ Aside0 (BY wr (w.heap.size + 1) 65 (L16 f)) ∧ Aside0 (Below w.heap.size w wr)) (fun kv _ => 16 - (intOf kv).toNat)
    case atStart => exact ⟨0, Nat.zero_le _, rfl, HS2, HT2, HB2⟩
    case round =>
      clear HS2 HT2 HB2
      obtain ⟨k, hk, rfl, HS2, HT2, HB2⟩ := hrel
      by_cases hlt : k < 16
      · have e2 : wr.cell? ⟨g, 2, none⟩ = some (.pointer (some ⟨gt, 0, none⟩)) := pw_cell_below HB2.out HC2.out
        have hlt5 : 5 * k % 16 < 16 := Nat.mod_lt _ (by omega)
        have e3 := HT2.out.cell k (by rw [L16_length]; exact hlt)
        rw [L16_get f _ hlt] at e3
        have hfv := HF.out k
        have e4 := (HT.out.below HB2.out).cell (256 + f k) (by rw [tabR_length]; omega)
        rw [tab_back _ hfv] at e4
        have e5 := HS2.out.frozen (5 * k % 16)
        have e6 := HS2.out.cell (5 * k % 16) (by rw [L16_length]; exact hlt5)
        go_wp2
        go_region
        go_wp2
        have HT3 : Aside0 (BY ((wr.setCell ⟨w.heap.size, 5 * k % 16, none⟩ (.int .u8 ((M.bN (f k) : Nat) : Int))).drew) (w.heap.size + 1) 65 (L16 f)) := ⟨HT2.out.same ((grownBy_set wr w.heap.size (5 * k % 16) _).block _ HT2.out.lt (by simp))⟩
        exact ⟨⟨k + 1, hlt, by go_num, ⟨by rw [← back_set f y k hlt]; exact (HS2.out.set (5 * k % 16) _).drew⟩, HT3, ⟨below_drew1 (below_set HB2.out (Nat.le_refl _))⟩⟩, by simp [intOf]; omega⟩
      · obtain rfl : k = 16 := by omega
        have HS3 : Aside0 (BY wr w.heap.size 65 (L16 (M.B1 f))) := ⟨by rw [← back_all f y]; exact HS2.out⟩
        clear HS2 hlt hk
        have HKL := Aside0.mk (HK0.out m (by omega))
        have d1 : wr.cell? ⟨g, 1, none⟩ = some (.slice (some ⟨gk, 0, none⟩) ks.length cap) := pw_cell_below HB2.out HC1.out
        have d2 : wr.cell? ⟨gk, m, none⟩ = some (.string (kAt ks m)) := pw_cell_below HB2.out (HSR.out.at_ m (by omega))
        by_cases hlast : m = 0
        · subst hlast
          have HEND : Aside0 (M.T (fun q => M.B1 f q ^^^ M.bb (kAt ks 0) q) = M.decT ks s) := ⟨by
            have he := HE.out
            rw [← M.ky_T (M.B1_lt f) HKL.out, he]
            cases ks with
            | nil => simp at hl
            | cons k0 kt => rfl⟩
          clear HE
          go_wp2_with (go_at_call 194; (with_reducible refine (add_both (w0 := w) _ (M.B1_lt f) HS3.out HT2.out (by omega) HB2.out (Nat.le_refl _) HKL.out).mono ?_); rintro e W3 ⟨rfl, hs3, ht3, hb3⟩; have hcv := conv_L16 hs3; have HB3 := Aside0.mk hb3; clear hs3 ht3 hb3)
          simp only [Exit.jump]
          go_ret2
          exact ⟨by rw [← HEND.out]; simp, HB3.out⟩
        · have hm1 : 1 ≤ m := by omega
          have HE4 : Aside0 (M.T (M.B1 (M.UX fun q => M.B1 f q ^^^ M.bb (kAt ks m) q)) = M.bwd (ks.drop m) s) := ⟨by
            rw [← M.un_mid (M.B1_lt f) HKL.out, HE.out, drop_at (show m < ks.length by omega), drop_at (show m + 1 < ks.length by omega)]
            rfl⟩
          have hI : ((m : Int) == 0) = false := beq_eq_false_iff_ne.mpr (by omega)
          clear hlast HE
          go_wp2_with (go_at_call 194; (with_reducible refine (add_both (w0 := w) _ (M.B1_lt f) HS3.out HT2.out (by omega) HB2.out (Nat.le_refl _) HKL.out).mono ?_); rintro e W3 ⟨rfl, hs3, ht3, hb3⟩; have HS4 := Aside0.mk hs3; have HT4 := Aside0.mk ht3; have HB4 := Aside0.mk hb3; clear hs3 ht3 hb3)
          have HZ : Aside0 (∀ q, (fun q => M.B1 f q ^^^ M.bb (kAt ks m) q) q < 256) := ⟨fun q => xor_lt (M.B1_lt f q) (M.bb_lt _ _)⟩
          clear HS3 HT2 HB2 d1 d2 hI
          generalize (fun q => M.B1 f q ^^^ M.bb (kAt ks m) q) = z at *
          go_loopw [11] (fun kv wr => ∃ c : Nat, c ≤ 4 ∧ kv = .int .i64 (4 * (c : Int)) ∧ Aside0 (BY wr (w.heap.size + 1) 65 (mixL (4 * c) (C16 (M.UX z)) (C16 f))) ∧ Aside0 (BY wr w.heap.size 65 (L16 z)) ∧ Aside0 (Below w.heap.size w wr)) (fun kv _ => 16 - (intOf kv).toNat)
          case atStart => exact ⟨0, Nat.zero_le _, rfl, ⟨by rw [Nat.mul_zero, mixL_zero]; exact HT4.out⟩, HS4, HB4⟩
          case round =>
            clear HS4 HT4 HB4
            obtain ⟨c, hc, rfl, HT2, HS2, HB2⟩ := hrel
            by_cases hlc : c < 4
            · have hd4 : decide (4 * (c : Int) < 16) = true := decide_eq_true (by omega)
              go_wp2
              clear hd4
              go_loopw [73] (fun jv wr => ∃ j : Nat, j ≤ 4 ∧ jv = .int .i64 j ∧ Aside0 (BY wr (w.heap.size + 1) 65 (mixL (4 * c + j) (C16 (M.UX z)) (C16 f))) ∧ Aside0 (BY wr w.heap.size 65 (L16 z)) ∧ Aside0 (Below w.heap.size w wr)) (fun jv _ => 4 - (intOf jv).toNat)
              case atStart => exact ⟨0, Nat.zero_le _, rfl, HT2, HS2, HB2⟩
              case round =>
                clear HS2 HT2 HB2
                obtain ⟨j, hj, rfl, HT2, HS2, HB2⟩ := hrel
                by_cases hlj : j < 4
                · have hum := M.umA_UX z c j hlj
                  unfold M.umA at hum
                  obtain ⟨r1, r2, r3, q0, q1, q2, q3, ⟨hq0, hq1, hq2, hq3⟩, ⟨hl0, hl1, hl2, hl3⟩, t0, v1, v2, v3, t1, t2, t3⟩ := idx4 c j hlc hlj
                  rw [← hq0, ← hq1, ← hq2, ← hq3] at hum
                  have At0 := Aside0.mk t0
                  have At1 := Aside0.mk t1
                  have At2 := Aside0.mk t2
                  have At3 := Aside0.mk t3
                  have Av1 := Aside0.mk v1
                  have Av2 := Aside0.mk v2
                  have Av3 := Aside0.mk v3
                  clear t0 t1 t2 t3 v1 v2 v3 hq1 hq2 hq3
                  have a0 := HS2.out.cell q0 (by rw [L16_length]; exact hl0)
                  have a1 := HS2.out.cell q1 (by rw [L16_length]; exact hl1)
                  have a2 := HS2.out.cell q2 (by rw [L16_length]; exact hl2)
                  have a3 := HS2.out.cell q3 (by rw [L16_length]; exact hl3)
                  rw [L16_get _ _ hl0] at a0
                  rw [L16_get _ _ hl1] at a1
                  rw [L16_get _ _ hl2] at a2
                  rw [L16_get _ _ hl3] at a3
                  have l0 := HZ.out q0
                  have l1 := HZ.out q1
                  have l2 := HZ.out q2
                  have l3 := HZ.out q3
                  have e2 : wr.cell? ⟨g, 2, none⟩ = some (.pointer (some ⟨gt, 0, none⟩)) := pw_cell_below HB2.out HC2.out
                  have hTw := HT.out.below HB2.out
                  have b0 := hTw.cell (256 * 6 + z q0) (by rw [tabR_length]; omega)
                  have b1 := hTw.cell (256 * 4 + z q1) (by rw [tabR_length]; omega)
                  have b2 := hTw.cell (256 * 5 + z q2) (by rw [tabR_length]; omega)
                  have b3 := hTw.cell (256 * 3 + z q3) (by rw [tabR_length]; omega)
                  rw [tab_oth 6 _ (by omega) (by omega) l0, show ∀ v, tabF 6 v = gm 14 v from fun _ => rfl, show 256 * 6 = 1536 from rfl] at b0
                  rw [tab_oth 4 _ (by omega) (by omega) l1, show ∀ v, tabF 4 v = gm 11 v from fun _ => rfl, show 256 * 4 = 1024 from rfl] at b1
                  rw [tab_oth 5 _ (by omega) (by omega) l2, show ∀ v, tabF 5 v = gm 13 v from fun _ => rfl, show 256 * 5 = 1280 from rfl] at b2
                  rw [tab_oth 3 _ (by omega) (by omega) l3, show ∀ v, tabF 3 v = gm 9 v from fun _ => rfl, show 256 * 3 = 768 from rfl] at b3
                  have x1 := M.bx (gm_lt (a := 14) (b := z q0) (by omega)) (gm_lt (a := 11) (b := z q1) (by omega))
                  have y1 := xor_lt (gm_lt (a := 14) (b := z q0) (by omega)) (gm_lt (a := 11) (b := z q1) (by omega))
                  have x2 := M.bx y1 (gm_lt (a := 13) (b := z q2) (by omega))
                  have y2 := xor_lt y1 (gm_lt (a := 13) (b := z q2) (by omega))
                  have x3 := M.bx y2 (gm_lt (a := 9) (b := z q3) (by omega))
                  rw [hum] at x3
                  have e5 := HT2.out.frozen q0
                  have e6 := HT2.out.cell q0 (by rw [mixL_length]; exact hl0)
                  have i0 : (q0 : Int) < 16 := by omega
                  have k0 : ((z q0 : Nat) : Int) < 256 := by omega
                  have i1 : (q1 : Int) < 16 := by omega
                  have k1 : ((z q1 : Nat) : Int) < 256 := by omega
                  have i2 : (q2 : Int) < 16 := by omega
                  have k2 : ((z q2 : Nat) : Int) < 256 := by omega
                  have i3 : (q3 : Int) < 16 := by omega
                  have k3 : ((z q3 : Nat) : Int) < 256 := by omega
                  have HQ := Aside0.mk hq0
                  have HT3 := Aside0.mk ((HT2.out.set q0 ((M.UX z q0 : Nat) : Int)).drew)
                  have HS3 : Aside0 (BY ((wr.setCell ⟨w.heap.size + 1, q0, none⟩ (.int .u8 ((M.UX z q0 : Nat) : Int))).drew) w.heap.size 65 (L16 z)) := ⟨HS2.out.same ((grownBy_set wr (w.heap.size + 1) q0 _).block _ HS2.out.lt (by simp))⟩
                  have HB3 : Aside0 (Below w.heap.size w ((wr.setCell ⟨w.heap.size + 1, q0, none⟩ (.int .u8 ((M.UX z q0 : Nat) : Int))).drew)) := ⟨below_drew1 (below_set HB2.out (by omega))⟩
                  clear hum hTw y1 y2 hq0 HS2 HT2 HB2 l0 l1 l2 l3
                  go_wp2
                  simp only [List.append]
                  have t0 := At0.out
                  have v1 := Av1.out
                  have v2 := Av2.out
                  have v3 := Av3.out
                  have t1 := At1.out
                  have t2 := At2.out
                  have t3 := At3.out
                  refine still_tail 65 (by kernel_rfl) (by kernel_rfl) ?_
                  simp only [List.take_succ_cons, List.take_zero, List.drop_succ_cons, List.drop_zero]
                  repeat still_step
                  refine wpStill_nil ?_
                  clear t0 t1 t2 t3 v1 v2 v3 a0 a1 a2 a3 b0 b1 b2 b3 x1 x2 x3
                  go_wp2
                  have HT5 : Aside0 (BY ((wr.setCell ⟨w.heap.size + 1, q0, none⟩ (.int .u8 ((M.UX z q0 : Nat) : Int))).drew) (w.heap.size + 1) 65 (mixL (4 * c + (j + 1)) (C16 (M.UX z)) (C16 f))) := ⟨by rw [← Nat.add_assoc, ← HQ.out, ← mixL_set]; have h := HT3.out; rw [← HQ.out] at h; exact h⟩
                  exact ⟨⟨j + 1, hlj, by go_num, HT5, HS3, HB3⟩, by simp [intOf]; omega⟩
                · obtain rfl : j = 4 := by omega
                  go_wp2
                  exact ⟨⟨c + 1, hlc, by first | go_num | (congr 1; omega), by rw [Nat.mul_succ]; exact HT2, HS2, HB2⟩, by simp [intOf]; omega⟩
            · obtain rfl : c = 4 := by omega
              have HT3 : Aside0 (BY wr (w.heap.size + 1) 65 (L16 (M.UX z))) := ⟨by rw [L16_C, ← mixL_all _ (C16 f)]; exact HT2.out⟩
              clear HT2
              go_wp2
              go_step3
              exact ⟨rfl, DecJ.mk m (M.UX z) z hm1 (by omega) ⟨fun q => M.UX_lt _ q⟩ HE4 HS2 HT3 HB2 rfl, by simp [intOf]⟩
  · intro hpass
    go_wp2_with (first | (go_at_call 193; (with_reducible refine (may_ok g n ks s _ HC.out HSZ.out).mono ?_); rintro e w' ⟨rfl, hw'⟩; have hw2 := hw'.symm; subst hw2) | (go_at_call 194; (with_reducible refine (add_both (w0 := w) _ (M.bb_lt s) HT1.out HS1.out (by omega) HB1.out (by omega) (HK0.out (ks.length - 1) (by omega))).mono ?_); rintro e W2 ⟨rfl, ht2, hs2, hb2⟩))
    have HF0 : Aside0 (∀ q, (fun q => M.bb s q ^^^ M.bb (kAt ks (ks.length - 1)) q) q < 256) := ⟨fun q => xor_lt (M.bb_lt _ _) (M.bb_lt _ _)⟩
    have HE0 : Aside0 (M.T (M.B1 fun q => M.bb s q ^^^ M.bb (kAt ks (ks.length - 1)) q) = M.bwd (ks.drop (ks.length - 1)) s) := ⟨by
      rw [← M.un_last (M.bb_lt s) (HK0.out (ks.length - 1) (by omega)), M.T_of s HSZ.out, drop_at (show ks.length - 1 < ks.length by omega), show ks.length - 1 + 1 = ks.length by omega, List.drop_length]
      rfl⟩
    have HS2 := Aside0.mk hs2
    have HT2 := Aside0.mk ht2
    have HB2 := Aside0.mk hb2
    clear hs2 ht2 hb2
    go_step3
    rename_i K hK
    have e9 : ((ks.length : Int) - 1) = ((ks.length - 1 : Nat) : Int) := by omega
    rw [e9]
    exact hK _ _ (hpass _ _ (DecJ.mk (ks.length - 1) _ (fun _ => 0) (by omega) (by omega) HF0 HE0 HS2 HT2 HB2 rfl))
end Go.Proofs.Ytokkhnjedmlbhaa.Pr
end
section
namespace Go.Proofs.Ytokkhnjedmlbhaa.M
open Go.RowKit Go.Proofs.Ytokkhnjedmlbhaa.Pr Go.Proofs.YtokkhnjedmlbhaaW.PrintWords Go.Proofs.YtokkhnjedmlbhaaW.PrintLast Go.Proofs.YtokkhnjedmlbhaaW.PrintMore Go.Proofs.YtokkhnjedmlbhaaGf
set_option linter.unusedSimpArgs false
/-- The four bytes of a word. -/
def wL (w : Nat) : List Nat := [w / 16777216 % 256, w / 65536 % 256, w / 256 % 256, w % 256]
def wB (w : Nat) : ByteArray := mkB (wL w)
theorem isB_wL (w : Nat) : isB (wL w) := by
  intro x hx
  simp only [wL, List.mem_cons, List.not_mem_nil, or_false] at hx
  rcases hx with rfl | rfl | rfl | rfl <;> exact Nat.mod_lt _ (by omega)
theorem wB_size (w : Nat) : (wB w).size = 4 := by unfold wB; rw [mkB_size]; rfl
theorem bb_mkB {l : List Nat} (h : isB l) (i : Nat) : bb (mkB l) i = l.getD i 0 := by rw [bb_nb, nb_mkB h]
theorem xor_div_mod (u v k : Nat) : (u ^^^ v) / 2 ^ k % 2 ^ 8 = (u / 2 ^ k % 2 ^ 8) ^^^ (v / 2 ^ k % 2 ^ 8) := by
  rw [← Nat.shiftRight_eq_div_pow, ← Nat.shiftRight_eq_div_pow, ← Nat.shiftRight_eq_div_pow, Nat.shiftRight_xor_distrib, Nat.xor_mod_two_pow]
theorem xorT_4 {a b : ByteArray} (ha : a.size = 4) (hb : b.size = 4) : xorT a b = mkB [bb a 0 ^^^ bb b 0, bb a 1 ^^^ bb b 1, bb a 2 ^^^ bb b 2, bb a 3 ^^^ bb b 3] := by
  unfold xorT; rw [ha, hb]; rfl
theorem wB_xor (u v : Nat) : xorT (wB u) (wB v) = wB (u ^^^ v) := by
  rw [xorT_4 (wB_size u) (wB_size v)]
  unfold wB
  rw [bb_mkB (isB_wL u), bb_mkB (isB_wL u), bb_mkB (isB_wL u), bb_mkB (isB_wL u), bb_mkB (isB_wL v), bb_mkB (isB_wL v), bb_mkB (isB_wL v), bb_mkB (isB_wL v)]
  have h0 := xor_div_mod u v 24
  have h1 := xor_div_mod u v 16
  have h2 := xor_div_mod u v 8
  have h3 := xor_div_mod u v 0
  simp only [Nat.reducePow, Nat.div_one] at h0 h1 h2 h3
  simp only [wL, h0, h1, h2, h3]
  rfl
/-- A word, turned by a byte. -/
def rotW (u : Nat) : Nat := u % 16777216 * 256 + u / 16777216
theorem rotW_lt {u : Nat} (h : u < 4294967296) : rotW u < 4294967296 := by unfold rotW; omega
theorem or_add {a b k : Nat} (h : b < 2 ^ k) : 2 ^ k * a ||| b = 2 ^ k * a + b := (Nat.two_pow_add_eq_or_of_lt h a).symm
theorem rotw_n {u : Nat} (h : u < 4294967296) : rotw (u : Int) = ((rotW u : Nat) : Int) := by
  unfold rotw
  rw [show ((u : Int) * 256 % 4294967296) = ((2 ^ 8 * (u % 16777216) : Nat) : Int) by omega, show ((u : Int) / 16777216) = ((u / 16777216 : Nat) : Int) by omega, u32_or_nat _ _ (by omega) (by omega), or_add (by omega)]
  unfold rotW
  congr 1
  omega
theorem wB_rot {u : Nat} (h : u < 4294967296) : wB (rotW u) = (wB u).extract 1 4 ++ (wB u).extract 0 1 := by
  rw [extract_nb, extract_nb, mkB_append]
  unfold wB
  rw [nb_mkB (isB_wL u)]
  congr 1
  simp only [wL, rotW, List.take_succ_cons, List.take_zero, List.drop_succ_cons, List.drop_zero, List.cons_append, List.nil_append, List.cons.injEq, and_true]
  obtain ⟨a, b, c, d, ha, hb, hc, hd, rfl⟩ : ∃ a b c d : Nat, a < 256 ∧ b < 256 ∧ c < 256 ∧ d < 256 ∧ u = 16777216 * a + 65536 * b + 256 * c + d :=
    ⟨u / 16777216, u / 65536 % 256, u / 256 % 256, u % 256, by omega, by omega, by omega, by omega, by omega⟩
  have e1 : (16777216 * a + 65536 * b + 256 * c + d) % 16777216 = 65536 * b + 256 * c + d := by omega
  have e2 : (16777216 * a + 65536 * b + 256 * c + d) / 16777216 = a := by omega
  have e3 : (16777216 * a + 65536 * b + 256 * c + d) / 65536 = 256 * a + b := by omega
  have e4 : (16777216 * a + 65536 * b + 256 * c + d) / 256 = 65536 * a + 256 * b + c := by omega
  have e5 : ((65536 * b + 256 * c + d) * 256 + a) / 16777216 = b := by omega
  have e6 : ((65536 * b + 256 * c + d) * 256 + a) / 65536 = 256 * b + c := by omega
  have e7 : ((65536 * b + 256 * c + d) * 256 + a) / 256 = 65536 * b + 256 * c + d := by omega
  rw [e1, e2, e3, e4, e5, e6, e7]
  refine ⟨by omega, by omega, by omega, by omega⟩
def subWN (u : Nat) : Nat := sN (u / 16777216 % 256) * 16777216 + sN (u / 65536 % 256) * 65536 + sN (u / 256 % 256) * 256 + sN (u % 256)
theorem subWN_lt (u : Nat) : subWN u < 4294967296 := by
  have h0 := sN_lt (u / 16777216 % 256); have h1 := sN_lt (u / 65536 % 256); have h2 := sN_lt (u / 256 % 256); have h3 := sN_lt (u % 256)
  unfold subWN; omega
theorem wordI_n {a b c d : Nat} (ha : a < 256) (hb : b < 256) (hc : c < 256) (hd : d < 256) : wordI (a : Int) (b : Int) (c : Int) (d : Int) = ((a * 16777216 + b * 65536 + c * 256 + d : Nat) : Int) := by
  unfold wordI
  rw [show ((a : Int) % 4294967296 * 16777216 % 4294967296) = ((2 ^ 24 * a : Nat) : Int) by omega, show ((b : Int) % 4294967296 * 65536 % 4294967296) = ((2 ^ 16 * b : Nat) : Int) by omega, show ((c : Int) % 4294967296 * 256 % 4294967296) = ((2 ^ 8 * c : Nat) : Int) by omega, show ((d : Int) % 4294967296) = ((d : Nat) : Int) by omega]
  rw [u32_or_nat _ _ (by omega) (by omega), or_add (by omega), show 2 ^ 24 * a + 2 ^ 16 * b = 2 ^ 16 * (2 ^ 8 * a + b) by omega, u32_or_nat _ _ (by omega) (by omega), or_add (by omega), show 2 ^ 16 * (2 ^ 8 * a + b) + 2 ^ 8 * c = 2 ^ 8 * (2 ^ 16 * a + 2 ^ 8 * b + c) by omega, u32_or_nat _ _ (by omega) (by omega), or_add (by omega)]
  congr 1
  omega
theorem bt_sT {i : Nat} (hi : i < 256) : bt (mkB sT) (i : Int) = ((sN i : Nat) : Int) := by
  rw [bt_bb, bb_mkB (show isB sT from isB_map sN_lt _)]
  simp [sT, hi]
theorem subW_n {u : Nat} (h : u < 4294967296) : subW (mkB sT) (u : Int) = ((subWN u : Nat) : Int) := by
  unfold subW
  rw [show ((u : Int) / 16777216) = ((u / 16777216 % 256 : Nat) : Int) by omega, show ((u : Int) / 65536 % 256) = ((u / 65536 % 256 : Nat) : Int) by omega, show ((u : Int) / 256 % 256) = ((u / 256 % 256 : Nat) : Int) by omega, show ((u : Int) % 256) = ((u % 256 : Nat) : Int) by omega]
  rw [bt_sT (by omega), bt_sT (by omega), bt_sT (by omega), bt_sT (by omega), wordI_n (sN_lt _) (sN_lt _) (sN_lt _) (sN_lt _)]
  rfl
theorem wB_sub (u : Nat) : wB (subWN u) = sbT (wB u) := by
  unfold wB sbT
  rw [nb_mkB (isB_wL u)]
  congr 1
  have h0 := sN_lt (u / 16777216 % 256); have h1 := sN_lt (u / 65536 % 256); have h2 := sN_lt (u / 256 % 256); have h3 := sN_lt (u % 256)
  simp only [wL, subWN, List.map_cons, List.map_nil, List.cons.injEq, and_true]
  generalize sN (u / 16777216 % 256) = a at *; generalize sN (u / 65536 % 256) = b at *; generalize sN (u / 256 % 256) = c at *; generalize sN (u % 256) = d at *
  refine ⟨by omega, by omega, by omega, by omega⟩
theorem wB_top {c : Nat} (hc : c < 256) : wB (c * 16777216) = mkB [c, 0, 0, 0] := by
  unfold wB wL
  congr 1
  simp only [List.cons.injEq, and_true]
  refine ⟨by omega, by omega, by omega, by omega⟩

/-- The word that comes behind: out of the one n places ahead and the last one. -/
def stepB (n i : Nat) (q t : ByteArray) : ByteArray :=
  if i % n = 0 then xorT q (xorT (sbT (t.extract 1 4 ++ t.extract 0 1)) (mkB [pw 2 (i / n - 1), 0, 0, 0])) else if n = 8 ∧ i % 8 = 4 then xorT q (sbT t) else xorT q t
def goB (n : Nat) : Nat → Nat → List ByteArray → List ByteArray
  | 0, _, ws => ws
  | d + 1, i, ws => goB n d (i + 1) (ws ++ [stepB n i (ws.getD (i - n) ByteArray.empty) (ws.getD (i - 1) ByteArray.empty)])
/-- m pieces of n bytes. -/
def pcs (n m : Nat) (s : ByteArray) : List ByteArray := (List.range m).map fun i => s.extract (n * i) (n * i + n)
def wordsB (key : ByteArray) : List ByteArray := goB (key.size / 4) (3 * (key.size / 4) + 28) (key.size / 4) (pcs 4 (key.size / 4) key)
/-- The words as texts and as numbers go together. -/
theorem getD_map_wB (us : List Nat) {j : Nat} (hj : j < us.length) : (us.map wB).getD j ByteArray.empty = wB (us.getD j 0) := by
  simp [List.getD_eq_getElem?_getD, hj]
theorem rd_cast (us : List Nat) (j : Nat) : rd (us.map Int.ofNat) (j : Int) = ((us.getD j 0 : Nat) : Int) := by
  unfold rd
  by_cases h : j < us.length
  · simp [List.getD_eq_getElem?_getD, h]
  · simp [List.getD_eq_getElem?_getD, h]
theorem getD_lt {us : List Nat} (h : ∀ u ∈ us, u < 4294967296) (j : Nat) : us.getD j 0 < 4294967296 := by
  rw [List.getD_eq_getElem?_getD]
  by_cases hj : j < us.length
  · rw [List.getElem?_eq_getElem hj]; exact h _ (List.getElem_mem hj)
  · rw [List.getElem?_eq_none (by omega)]; decide
end Go.Proofs.Ytokkhnjedmlbhaa.M
end
section
namespace Go.Proofs.Ytokkhnjedmlbhaa.M
open Go.RowKit Go.Proofs.Ytokkhnjedmlbhaa.Pr Go.Proofs.YtokkhnjedmlbhaaW.PrintWords Go.Proofs.YtokkhnjedmlbhaaW.PrintLast Go.Proofs.YtokkhnjedmlbhaaW.PrintMore Go.Proofs.YtokkhnjedmlbhaaGf
set_option linter.unusedSimpArgs false
theorem xt_pw (m : Nat) : xt (pw 2 m) = pw 2 (m + 1) := by
  show _ = gm (pw 2 m) 2
  rw [gm_two (pw_lt m)]
theorem map_snoc (us : List Nat) (u : Nat) : us.map Int.ofNat ++ [((u : Nat) : Int)] = (us ++ [u]).map Int.ofNat := by rw [List.map_append]; rfl
theorem expL2_c (n : Nat) (hn : n = 4 ∨ n = 6 ∨ n = 8) (d : Nat) : ∀ (i : Nat) (us : List Nat), us.length = i → n ≤ i → i + d ≤ 60 → (∀ u ∈ us, u < 4294967296) →
    ∃ vs : List Nat, expL2 (mkB sT) n d i ((pw 2 ((i - 1) / n) : Nat) : Int) (us.map Int.ofNat) = some (vs.map Int.ofNat) ∧ vs.map wB = goB n d i (us.map wB) ∧ (∀ u ∈ vs, u < 4294967296) ∧ vs.length = i + d := by
  induction d with
  | zero => intro i us hl hi hb hu; exact ⟨us, rfl, rfl, hu, hl⟩
  | succ d ih =>
    intro i us hl hi hb hu
    have h1 : ((i : Int) - 1) = ((i - 1 : Nat) : Int) := by omega
    have h2 : ((i : Int) - n) = ((i - n : Nat) : Int) := by omega
    have p1 := getD_lt hu (i - 1)
    have p2 := getD_lt hu (i - n)
    have hc := pw_lt (a := 2) ((i - 1) / n)
    have e1 := getD_map_wB us (show i - 1 < us.length by omega)
    have e2 := getD_map_wB us (show i - n < us.length by rcases hn with rfl | rfl | rfl <;> omega)
    simp only [expL2, goB]
    rw [h1, h2, rd_cast, rd_cast, if_pos (by omega), if_pos (by omega), e1, e2]
    have fin : ∀ (v c' : Nat), v < 4294967296 → c' = (i + 1 - 1) / n → wB v = stepB n i (wB (us.getD (i - n) 0)) (wB (us.getD (i - 1) 0)) →
        ∃ vs : List Nat, expL2 (mkB sT) n d (i + 1) ((pw 2 c' : Nat) : Int) (us.map Int.ofNat ++ [((v : Nat) : Int)]) = some (vs.map Int.ofNat) ∧ vs.map wB = goB n d (i + 1) (us.map wB ++ [stepB n i (wB (us.getD (i - n) 0)) (wB (us.getD (i - 1) 0))]) ∧ (∀ u ∈ vs, u < 4294967296) ∧ vs.length = i + (d + 1) := by
      intro v c' hv hc' hw
      obtain ⟨vs, q1, q2, q3, q4⟩ := ih (i + 1) (us ++ [v]) (by simp [hl]) (by omega) (by omega) (fun u h => by
        rcases List.mem_append.1 h with h | h
        · exact hu u h
        · have : u = v := by simpa using h
          subst this; exact hv)
      refine ⟨vs, ?_, ?_, q3, by omega⟩
      · rw [map_snoc, hc']; exact q1
      · rw [q2, List.map_append, ← hw]; rfl
    generalize us.getD (i - 1) 0 = t at *
    generalize us.getD (i - n) 0 = q at *
    by_cases hm : i % n = 0
    · rw [if_pos hm]
      have hk : (i + 1 - 1) / n = (i - 1) / n + 1 := by rcases hn with rfl | rfl | rfl <;> omega
      have hk2 : i / n - 1 = (i - 1) / n := by rcases hn with rfl | rfl | rfl <;> omega
      rw [show (((pw 2 ((i - 1) / n) : Nat) : Int) % 256) = ((pw 2 ((i - 1) / n) : Nat) : Int) by omega, twice_c hc]
      simp only [Option.bind_some]
      rw [xt_pw, show (((pw 2 ((i - 1) / n + 1) : Nat) : Int) % 4294967296) = ((pw 2 ((i - 1) / n + 1) : Nat) : Int) by have := pw_lt (a := 2) ((i - 1) / n + 1); omega,
        rotw_n p1, subW_n (rotW_lt p1), show (((pw 2 ((i - 1) / n) : Nat) : Int) * 16777216 % 4294967296) = ((pw 2 ((i - 1) / n) * 16777216 : Nat) : Int) by omega,
        u32_xor_nat _ _ (subWN_lt _) (by omega), u32_xor_nat _ _ p2 (Nat.xor_lt_two_pow (n := 32) (subWN_lt _) (by omega))]
      refine fin _ _ (Nat.xor_lt_two_pow (n := 32) p2 (Nat.xor_lt_two_pow (n := 32) (subWN_lt _) (by omega))) hk.symm ?_
      unfold stepB
      rw [if_pos hm, ← wB_rot p1, ← wB_sub, hk2, ← wB_top hc, wB_xor, wB_xor]
    · rw [if_neg hm]
      have hk : (i + 1 - 1) / n = (i - 1) / n := by rcases hn with rfl | rfl | rfl <;> omega
      by_cases h8 : n = 8 ∧ i % 8 = 4
      · rw [if_pos h8, subW_n p1, u32_xor_nat _ _ p2 (subWN_lt _)]
        refine fin _ _ (Nat.xor_lt_two_pow (n := 32) p2 (subWN_lt _)) hk.symm ?_
        unfold stepB
        rw [if_neg hm, if_pos h8, ← wB_sub, wB_xor]
      · rw [if_neg h8, u32_xor_nat _ _ p2 p1]
        refine fin _ _ (Nat.xor_lt_two_pow (n := 32) p2 p1) hk.symm ?_
        unfold stepB
        rw [if_neg hm, if_neg h8, wB_xor]
/-- The number of the first i bytes. -/
def beT (s : ByteArray) : Nat → Nat
  | 0 => 0
  | i + 1 => beT s i * 256 + bb s i
theorem beT_lt (s : ByteArray) (i : Nat) : beT s i < 256 ^ i := by
  induction i with
  | zero => show 0 < 1; omega
  | succ i ih =>
    have := bb_lt s i
    simp only [beT, Nat.pow_succ]
    omega
theorem getL (s : ByteArray) (hs : s.size ≤ 8) (d : Nat) : ∀ i, s.size - i = d → i ≤ s.size → Ev (fun k => octets_Get.l0 k s ((beT s i : Nat) : Int) ((s.size : Nat) : Int) (i : Int)) (((beT s s.size : Nat) : Int), true) := by
  induction d with
  | zero =>
    intro i hd hi
    obtain rfl : i = s.size := by omega
    exact Ev.step (f := fun _ => some (((beT s s.size : Nat) : Int), true)) (fun k => by simp only [octets_Get.l0]; rw [if_neg (by omega)]) (Ev.now _)
  | succ d ih =>
    intro i hd hi
    have h1 := beT_lt s i
    have h2 := bb_lt s i
    have h3 : 256 ^ i ≤ 256 ^ 7 := Nat.pow_le_pow_right (by omega) (by omega)
    refine Ev.step (fun k => ?_) (ih (i + 1) (by omega) (by omega))
    simp only [octets_Get.l0]
    rw [if_pos (by omega), if_pos (by omega), if_pos (by omega), bt_bb, wrap_id (x := (i : Int) + 1) (by omega) (by omega)]
    rw [show IntKind.u64.wrap (((beT s i : Nat) : Int) * 256) = ((2 ^ 8 * beT s i : Nat) : Int) by rw [IntKind.wrap_u64]; omega, show IntKind.u64.wrap ((bb s i : Nat) : Int) = ((bb s i : Nat) : Int) by rw [IntKind.wrap_u64]; omega,
      u64_or_nat _ _ (by omega) (by omega), or_add (by omega)]
    simp only [beT]
    rw [Nat.mul_comm (beT s i)]
    rfl
theorem get_c (s : ByteArray) (h0 : 0 < s.size) (h8 : s.size ≤ 8) : Ev (fun k => octets_Get.f k s) (((beT s s.size : Nat) : Int), true) := by
  unfold octets_Get.f
  refine evn (by omega) ?_
  refine Ev.step (f := fun k => octets_Get.l0 k s 0 (s.size : Int) 0) (fun k => by simp only [octets_Get.j0]; rw [if_neg (by simp; omega)]) ?_
  exact getL s h8 _ 0 rfl (by omega)
/-- Texts, one behind the other. -/
def catB : List ByteArray → ByteArray
  | [] => ⟨#[]⟩
  | a :: l => a ++ catB l
theorem nb_append (a b : ByteArray) : nb (a ++ b) = nb a ++ nb b := by
  conv => lhs; rw [← mkB_nb a, ← mkB_nb b, mkB_append]
  rw [nb_mkB (isB_append.2 ⟨isB_nb a, isB_nb b⟩)]
theorem ext_left (a b : ByteArray) : (a ++ b).extract 0 a.size = a := by
  rw [extract_nb, nb_append, List.drop_zero, List.take_left' (nb_length a), mkB_nb]
theorem ext_right (a b : ByteArray) : (a ++ b).extract a.size (a ++ b).size = b := by
  rw [extract_nb, nb_append, List.take_of_length_le (by rw [List.length_append, nb_length, nb_length, ByteArray.size_append]; exact Nat.le_refl _), List.drop_left' (nb_length a), mkB_nb]
theorem piecesL (n : Nat) (hn : 0 < n) : ∀ (l : List ByteArray) (a : ByteArray) (out : List ByteArray), (∀ x ∈ a :: l, x.size = n) → out.length + l.length < 8796093022207 → Ev (fun k => octets_Pieces.l0 k (catB (a :: l)) (n : Int) out) (out ++ a :: l)
  | [], a, out, h, ho => by
    have ha := h a (by simp)
    have e : catB [a] = a := by show a ++ (⟨#[]⟩ : ByteArray) = a; rw [show (⟨#[]⟩ : ByteArray) = mkB [] from rfl, ← mkB_nb a, mkB_append, List.append_nil]
    refine Ev.step (f := fun _ => some (out ++ [a])) (fun k => ?_) (Ev.now _)
    simp only [octets_Pieces.l0]
    rw [e, if_neg (by omega), if_pos (by omega)]
  | b :: l, a, out, h, ho => by
    have ha := h a (by simp)
    have hb := h b (by simp)
    have hh := piecesL n hn l b (out ++ [a]) (fun x hx => h x (by simp at hx ⊢; exact .inr hx)) (by simp at ho ⊢; omega)
    rw [List.append_assoc] at hh
    have hs : (catB (a :: b :: l)).size = n + (catB (b :: l)).size := by show (a ++ catB (b :: l)).size = _; rw [ByteArray.size_append, ha]
    have hs2 : (catB (b :: l)).size = n + (catB l).size := by show (b ++ catB l).size = _; rw [ByteArray.size_append, hb]
    refine Ev.step (fun k => ?_) hh
    simp only [octets_Pieces.l0]
    rw [if_pos (by omega), if_pos (by omega), if_pos (by omega), if_pos (by simp at ho; omega), Int.toNat_natCast]
    have h1 : (catB (a :: b :: l)).extract 0 n = a := by rw [← ha]; exact ext_left a _
    have h2 : (catB (a :: b :: l)).extract n (catB (a :: b :: l)).size = catB (b :: l) := by rw [← ha]; exact ext_right a _
    rw [h1, h2]
theorem tl_loop (s : ByteArray) : ∀ (d i : Nat) (r : List UInt8), s.size - i = d → ByteArray.toList.loop s i r = r.reverse ++ s.data.toList.drop i := by
  intro d
  induction d with
  | zero =>
    intro i r h
    rw [ByteArray.toList.loop, if_neg (by omega), List.drop_of_length_le (by rw [Array.length_toList]; show s.size ≤ i; omega), List.append_nil]
  | succ d ih =>
    intro i r h
    have hi : i < s.size := by omega
    rw [ByteArray.toList.loop, if_pos hi, ih (i + 1) _ (by omega), List.reverse_cons, List.append_assoc]
    have hi' : i < s.data.toList.length := by rw [Array.length_toList]; exact hi
    rw [List.drop_eq_getElem_cons hi']
    congr 1
    simp [ByteArray.get!, hi]
theorem tl_eq (s : ByteArray) : s.toList = s.data.toList := by
  unfold ByteArray.toList
  rw [tl_loop s _ 0 [] rfl]
  rfl
theorem toList_ne {s : ByteArray} (h : 0 < s.size) : (s.toList == ([] : List UInt8)) = false := by
  refine beq_eq_false_iff_ne.mpr (fun e => ?_)
  rw [tl_eq] at e
  have : s.data.toList.length = 0 := by rw [e]; rfl
  rw [Array.length_toList] at this
  have h2 : s.data.size = s.size := rfl
  omega
theorem pieces_c (n : Nat) (hn : 0 < n) (hn2 : n ≤ 1000) (a : ByteArray) (l : List ByteArray) (h : ∀ x ∈ a :: l, x.size = n) (hl : l.length < 1000000) (hs : (catB (a :: l)).size < 1000000000) : Ev (fun k => octets_Pieces.f k (catB (a :: l)) (n : Int)) (a :: l) := by
  have h0 : 0 < (catB (a :: l)).size := by
    show 0 < (a ++ catB l).size
    rw [ByteArray.size_append, h a (by simp)]; omega
  have hd : (catB (a :: l)).size / n ≤ (catB (a :: l)).size := Nat.div_le_self _ _
  have e : (((catB (a :: l)).size : Int) / (n : Int)) = (((catB (a :: l)).size / n : Nat) : Int) := by rw [Int.natCast_ediv]
  unfold octets_Pieces.f
  refine evn (by omega) ?_
  rw [toList_ne h0]
  refine Ev.step (fun k => ?_) (piecesL n hn l a [] h (by simp; omega))
  simp only [octets_Pieces.j0]
  rw [if_neg (by simp), if_neg (by omega), e]
  generalize (catB (a :: l)).size / n = q at *
  rw [wrap_id (x := (q : Int)) (by omega) (by omega), wrap_id (by omega) (by omega), if_pos (by omega), if_pos (by omega)]
theorem join_flat (l : List (List UInt8)) : Lib.join l [] = l.flatten := by
  show List.intercalate [] l = _
  unfold List.intercalate
  induction l with
  | nil => rfl
  | cons a l ih =>
    cases l with
    | nil => simp
    | cons b l =>
      rw [List.intersperse_cons_cons, List.flatten_cons, List.flatten_cons, ih]
      rfl
theorem catB_data (l : List ByteArray) : (catB l).data.toList = (l.map (·.data.toList)).flatten := by
  induction l with
  | nil => rfl
  | cons a l ih =>
    show (a ++ catB l).data.toList = _
    rw [ByteArray.data_append, Array.toList_append, ih]
    rfl
theorem joinB_cat (l : List ByteArray) : joinB l = catB l := by
  apply ByteArray.ext
  apply Array.ext'
  rw [catB_data]
  show (Lib.join (l.map (·.data.toList)) []).toArray.toList = _
  rw [join_flat]
theorem join_c (l : List ByteArray) (h1 : l.length ≤ 140737488355328) (h2 : (catB l).size ≤ 140737488355328) : octets_Join.f l = some (catB l) := by
  unfold octets_Join.f
  have e : (Lib.join (l.map (·.data.toList)) []).length = (catB l).size := by
    rw [join_flat, ← catB_data, data_length]
  rw [if_pos h1, e, if_pos h2, joinB_cat]
end Go.Proofs.Ytokkhnjedmlbhaa.M
end
section
namespace Go.Proofs.Ytokkhnjedmlbhaa.M
open Go.RowKit Go.Proofs.Ytokkhnjedmlbhaa.Pr Go.Proofs.YtokkhnjedmlbhaaW.PrintWords Go.Proofs.YtokkhnjedmlbhaaW.PrintLast Go.Proofs.YtokkhnjedmlbhaaW.PrintMore Go.Proofs.YtokkhnjedmlbhaaGf
set_option linter.unusedSimpArgs false
def okN (n : Nat) : Prop := n = 16 ∨ n = 24 ∨ n = 32
instance (n : Nat) : Decidable (okN n) := inferInstanceAs (Decidable (n = 16 ∨ n = 24 ∨ n = 32))
def allS (n : Nat) (l : List ByteArray) : Prop := ∀ x ∈ l, x.size = n
theorem append_empty (a : ByteArray) : a ++ (⟨#[]⟩ : ByteArray) = a := by rw [emptyB, ← mkB_nb a, mkB_append, List.append_nil]
theorem empty_append' (a : ByteArray) : (⟨#[]⟩ : ByteArray) ++ a = a := by rw [emptyB, ← mkB_nb a, mkB_append, List.nil_append]
theorem cat_app (l m : List ByteArray) : catB (l ++ m) = catB l ++ catB m := by
  induction l with
  | nil => exact (empty_append' _).symm
  | cons a l ih =>
    show a ++ catB (l ++ m) = (a ++ catB l) ++ catB m
    rw [ih, ByteArray.append_assoc]
theorem cat_one (a : ByteArray) : catB [a] = a := append_empty a
theorem cat_size (n : Nat) : ∀ (l : List ByteArray), allS n l → (catB l).size = n * l.length
  | [], _ => rfl
  | a :: l, h => by
    show (a ++ catB l).size = _
    rw [ByteArray.size_append, h a (by simp), cat_size n l (fun x hx => h x (by simp [hx])), List.length_cons, Nat.mul_succ, Nat.add_comm]
theorem ext_join (s : ByteArray) (a b : Nat) (h : a ≤ b) : s.extract 0 a ++ s.extract a b = s.extract 0 b := by
  rw [extract_nb, extract_nb, extract_nb, mkB_append]
  congr 1
  rw [List.drop_zero, List.drop_zero]
  have : (nb s).take a = ((nb s).take b).take a := by rw [List.take_take, Nat.min_eq_left h]
  rw [this, List.take_append_drop]
theorem pcs_cat (n : Nat) (s : ByteArray) (m : Nat) : catB (pcs n m s) = s.extract 0 (n * m) := by
  induction m with
  | zero => show (⟨#[]⟩ : ByteArray) = _; rw [Nat.mul_zero, extract_nb]; rfl
  | succ m ih =>
    have e : pcs n (m + 1) s = pcs n m s ++ [s.extract (n * m) (n * m + n)] := by
      unfold pcs; rw [List.range_succ, List.map_append]; rfl
    rw [e, cat_app, ih, cat_one, ext_join s _ _ (by omega), Nat.mul_succ]
theorem ext_all (s : ByteArray) : s.extract 0 s.size = s := by
  rw [extract_nb, List.drop_zero, List.take_of_length_le (by rw [nb_length]; exact Nat.le_refl _), mkB_nb]
theorem pcs_all {n m : Nat} {s : ByteArray} (h : s.size = n * m) : catB (pcs n m s) = s := by rw [pcs_cat, ← h, ext_all]
theorem pcs_length (n m : Nat) (s : ByteArray) : (pcs n m s).length = m := by simp [pcs]
theorem pcs_size {n m : Nat} {s : ByteArray} (h : n * m ≤ s.size) : allS n (pcs n m s) := by
  intro x hx
  obtain ⟨i, hi, rfl⟩ := List.mem_map.1 hx
  have hi := List.mem_range.1 hi
  have : n * i + n ≤ n * m := by rw [← Nat.mul_succ]; exact Nat.mul_le_mul_left n hi
  rw [ByteArray.size_extract]; omega
/-- What octets_Pieces makes of a text of m pieces. -/
theorem pieces_m {n m : Nat} {s : ByteArray} (hn : 0 < n) (hn2 : n ≤ 1000) (hm : m < 1000000) (h : s.size = n * m) : Ev (fun k => octets_Pieces.f k s (n : Int)) (pcs n m s) := by
  cases m with
  | zero =>
    have h0 : s = ⟨#[]⟩ := by rw [← ext_all s, h, Nat.mul_zero, extract_nb]; rfl
    subst h0
    unfold octets_Pieces.f
    refine evn (by omega) ?_
    exact Ev.step (f := fun _ => some []) (fun k => by simp only [octets_Pieces.j0]; rw [if_pos (by decide +kernel)]) (Ev.now _)
  | succ m =>
    obtain ⟨a, l, e⟩ : ∃ a l, pcs n (m + 1) s = a :: l := by
      cases e : pcs n (m + 1) s with
      | nil => have := pcs_length n (m + 1) s; rw [e] at this; cases this
      | cons a l => exact ⟨a, l, rfl⟩
    have hc := pcs_all h
    have hs := pcs_size (n := n) (m := m + 1) (s := s) (by omega)
    have hl := pcs_length n (m + 1) s
    rw [e] at hc hs hl ⊢
    have : s.size < 1000000000 := by
      rw [h]
      have : n * (m + 1) ≤ 1000 * (m + 1) := Nat.mul_le_mul_right _ hn2
      omega
    rw [← hc]
    exact pieces_c n hn hn2 a l hs (by simp at hl; omega) (by rw [hc]; exact this)
theorem T4 (s : ByteArray) (hs : s.size = 4) : mkB [bb s 0, bb s 1, bb s 2, bb s 3] = s := by
  conv => rhs; rw [← mkB_nb s]
  congr 1
  have hl := nb_length s
  rw [hs] at hl
  rw [bb_nb, bb_nb, bb_nb, bb_nb]
  match h : nb s, hl with
  | [a, b, c, d], _ => rfl
theorem be4 (p : ByteArray) (hp : p.size = 4) : wB (beT p 4) = p ∧ beT p 4 < 4294967296 := by
  have h0 := bb_lt p 0; have h1 := bb_lt p 1; have h2 := bb_lt p 2; have h3 := bb_lt p 3
  have e : beT p 4 = ((bb p 0 * 256 + bb p 1) * 256 + bb p 2) * 256 + bb p 3 := by simp [beT]
  refine ⟨?_, by omega⟩
  conv => rhs; rw [← T4 p hp]
  rw [e]
  unfold wB wL
  congr 1
  simp only [List.cons.injEq, and_true]
  refine ⟨by omega, by omega, by omega, by omega⟩
theorem expL1_c : ∀ (ps : List ByteArray) (us : List Nat), allS 4 ps → (∀ u ∈ us, u < 4294967296) → ∃ vs : List Nat, Ev (fun k => expL1 k ps (us.map Int.ofNat)) (vs.map Int.ofNat) ∧ vs.map wB = us.map wB ++ ps ∧ (∀ v ∈ vs, v < 4294967296)
  | [], us, _, hu => ⟨us, Ev.now _, by simp, hu⟩
  | p :: ps, us, h, hu => by
    have hp := h p (by simp)
    obtain ⟨b1, b2⟩ := be4 p hp
    obtain ⟨vs, h1, h2, h3⟩ := expL1_c ps (us ++ [beT p 4]) (fun x hx => h x (by simp [hx])) (fun u hx => by
      rcases List.mem_append.1 hx with hx | hx
      · exact hu u hx
      · have : u = beT p 4 := by simpa using hx
        subst this; exact b2)
    refine ⟨vs, ?_, ?_, h3⟩
    · have hg := get_c p (by omega) (by omega)
      rw [hp] at hg
      refine evb hg ?_
      show Ev (fun k => expL1 k ps (us.map Int.ofNat ++ [((beT p 4 : Nat) : Int) % 4294967296])) _
      rw [show ((beT p 4 : Nat) : Int) % 4294967296 = ((beT p 4 : Nat) : Int) by omega, map_snoc]
      exact h1
    · rw [h2, List.map_append, List.append_assoc]
      show us.map wB ++ ([wB (beT p 4)] ++ ps) = _
      rw [b1]; rfl
theorem goB_length (n : Nat) : ∀ (d i : Nat) (ws : List ByteArray), (goB n d i ws).length = ws.length + d
  | 0, _, _ => rfl
  | d + 1, i, ws => by simp only [goB]; rw [goB_length n d, List.length_append, List.length_singleton]; omega
theorem goB_pre (n : Nat) : ∀ (d i : Nat) (ws : List ByteArray), ∃ r, goB n d i ws = ws ++ r
  | 0, _, ws => ⟨[], (List.append_nil ws).symm⟩
  | d + 1, i, ws => by
    obtain ⟨r, h⟩ := goB_pre n d (i + 1) (ws ++ [stepB n i (ws.getD (i - n) ByteArray.empty) (ws.getD (i - 1) ByteArray.empty)])
    exact ⟨_, by simp only [goB]; rw [h, List.append_assoc]⟩
theorem stepB_size (n i : Nat) {q t : ByteArray} (hq : q.size = 4) (ht : t.size = 4) : (stepB n i q t).size = 4 := by
  have hr : (t.extract 1 4 ++ t.extract 0 1).size = 4 := by rw [ByteArray.size_append, ByteArray.size_extract, ByteArray.size_extract]; omega
  unfold stepB
  split
  · rw [xorT_size, xorT_size, sb_size, hr, hq, mkB_size]; rfl
  · split
    · rw [xorT_size, sb_size, hq, ht]; rfl
    · rw [xorT_size, hq, ht]; rfl
theorem getD_size {n : Nat} {ws : List ByteArray} (h : allS n ws) {j : Nat} (hj : j < ws.length) : (ws.getD j ByteArray.empty).size = n := by
  rw [List.getD_eq_getElem?_getD, List.getElem?_eq_getElem hj]
  exact h _ (List.getElem_mem hj)
theorem goB_size (n : Nat) (hn : 0 < n) : ∀ (d i : Nat) (ws : List ByteArray), allS 4 ws → ws.length = i → n ≤ i → allS 4 (goB n d i ws)
  | 0, _, _, h, _, _ => h
  | d + 1, i, ws, h, hl, hi => by
    simp only [goB]
    refine goB_size n hn d (i + 1) _ (fun x hx => ?_) (by simp [hl]) (by omega)
    rcases List.mem_append.1 hx with hx | hx
    · exact h x hx
    · have : x = stepB n i (ws.getD (i - n) ByteArray.empty) (ws.getD (i - 1) ByteArray.empty) := by simpa using hx
      rw [this]
      exact stepB_size n i (getD_size h (by omega)) (getD_size h (by omega))
def quads : List ByteArray → List ByteArray
  | a :: b :: c :: d :: l => (a ++ (b ++ (c ++ d))) :: quads l
  | _ => []
theorem quads_all : ∀ (m : Nat) (l : List ByteArray), l.length = 4 * m → allS 4 l → catB (quads l) = catB l ∧ (quads l).length = m ∧ all16 (quads l)
  | 0, l, h, _ => by
    obtain rfl : l = [] := List.eq_nil_of_length_eq_zero (by omega)
    exact ⟨rfl, rfl, fun x hx => by cases hx⟩
  | m + 1, l, h, hs => by
    match l, h with
    | a :: b :: c :: d :: l, h =>
      obtain ⟨h1, h2, h3⟩ := quads_all m l (by simp at h; omega) (fun x hx => hs x (by simp [hx]))
      refine ⟨?_, by simp [quads, h2], ?_⟩
      · show (a ++ (b ++ (c ++ d))) ++ catB (quads l) = a ++ (b ++ (c ++ (d ++ catB l)))
        rw [h1, ByteArray.append_assoc, ByteArray.append_assoc, ByteArray.append_assoc]
      · intro x hx
        rcases List.mem_cons.1 hx with rfl | hx
        · rw [ByteArray.size_append, ByteArray.size_append, ByteArray.size_append, hs a (by simp), hs b (by simp), hs c (by simp), hs d (by simp)]
        · exact h3 x hx
/-- The keys of the rounds. -/
def ksB (key : ByteArray) : List ByteArray := quads (wordsB key)
theorem words_facts {key : ByteArray} (h : okN key.size) : (wordsB key).length = 4 * (key.size / 4 + 7) ∧ allS 4 (wordsB key) ∧ ∃ r, wordsB key = pcs 4 (key.size / 4) key ++ r := by
  have h4 : key.size = 4 * (key.size / 4) := by rcases h with h | h | h <;> omega
  have hp := pcs_size (n := 4) (m := key.size / 4) (s := key) (by omega)
  unfold wordsB
  refine ⟨?_, goB_size _ (by rcases h with h | h | h <;> omega) _ _ _ hp (pcs_length _ _ _) (Nat.le_refl _), goB_pre _ _ _ _⟩
  rw [goB_length, pcs_length]; omega
theorem ks_facts {key : ByteArray} (h : okN key.size) : (ksB key).length = key.size / 4 + 7 ∧ all16 (ksB key) ∧ catB (ksB key) = catB (wordsB key) ∧ ∃ r, catB (ksB key) = key ++ r := by
  obtain ⟨h1, h2, r, h3⟩ := words_facts h
  obtain ⟨q1, q2, q3⟩ := quads_all _ _ h1 h2
  refine ⟨q2, q3, q1, catB r, ?_⟩
  rw [show ksB key = quads (wordsB key) from rfl, q1, h3, cat_app, pcs_all (by rcases h with h | h | h <;> omega)]
theorem ks_len {key : ByteArray} (h : okN key.size) : 2 ≤ (ksB key).length ∧ (ksB key).length ≤ 100 := by
  rw [(ks_facts h).1]
  rcases h with h | h | h <;> rw [h] <;> decide
end Go.Proofs.Ytokkhnjedmlbhaa.M
end
