-- several texts in one (by the session's program shake.py)
import Derived.Test.YtokkhnjedmlbhaaZSubW
import Derived.Test.YtokkhnjedmlbhaaZPrg01x
import Derived.Test.YtokkhnjedmlbhaaZPrg07r
import Derived.Test.YtokkhnjedmlbhaaZFieldP
import Derived.Test.YtokkhnjedmlbhaaZAesAdd
section
namespace Go.Proofs.Ytokkhnjedmlbhaa.M
open Go.RowKit Go.Proofs.Ytokkhnjedmlbhaa.Pr Go.Proofs.YtokkhnjedmlbhaaW.PrintWords Go.Proofs.YtokkhnjedmlbhaaW.PrintLast Go.Proofs.YtokkhnjedmlbhaaW.PrintMore Go.Proofs.YtokkhnjedmlbhaaGf
set_option linter.unusedSimpArgs false
/-- The text of sixteen bytes. -/
def T (g : Nat → Nat) : ByteArray := mkB ((List.range 16).map g)
theorem T_size (g : Nat → Nat) : (T g).size = 16 := by unfold T; rw [mkB_size]; simp
theorem T_bb {g : Nat → Nat} (hg : ∀ i, i < 16 → g i < 256) (i : Nat) (hi : i < 16) : bb (T g) i = g i := by
  rw [bb_nb]
  unfold T
  rw [nb_mkB (by intro x hx; obtain ⟨j, hj, rfl⟩ := List.mem_map.1 hx; exact hg j (List.mem_range.1 hj)), List.getD_eq_getElem?_getD, List.getElem?_map, List.getElem?_range hi]
  rfl
theorem T_congr {g g' : Nat → Nat} (h : ∀ i, i < 16 → g i = g' i) : T g = T g' := by
  unfold T
  congr 1
  exact List.map_congr_left (fun i hi => h i (List.mem_range.1 hi))
theorem T_of (s : ByteArray) (hs : s.size = 16) : T (bb s) = s := by
  conv => rhs; rw [← mkB_nb s]
  unfold T
  congr 1
  apply List.ext_getElem (by rw [List.length_map, List.length_range, nb_length, hs])
  intro i h1 h2
  rw [List.getElem_map, List.getElem_range, bb_nb, List.getD_eq_getElem?_getD, List.getElem?_eq_getElem h2]
  rfl
theorem emptyB : (⟨#[]⟩ : ByteArray) = mkB [] := rfl
theorem ex1 (s : ByteArray) {i : Nat} (hi : i < s.size) : s.extract i (i + 1) = mkB [bb s i] := by
  rw [extract_nb, bb_nb]
  congr 1
  have hl : i < (nb s).length := by rw [nb_length]; exact hi
  rw [List.take_succ_eq_append_getElem hl, List.drop_append_of_le_length (by rw [List.length_take]; omega), List.drop_of_length_le (by rw [List.length_take]; omega), List.getD_eq_getElem?_getD, List.getElem?_eq_getElem hl]
  rfl
theorem mv1_step (s out : ByteArray) (hs : s.size = 16) (ho : out.size ≤ 1000) (c r : Nat) (hc : c < 4) (hr : r < 4) (k : Nat) : clavigerref07_moved.l1 (k + 1) s 1 out (c : Int) (r : Int) = clavigerref07_moved.l1 k s 1 (out ++ mkB [bb s (4 * ((c + 1 * r) % 4) + r)]) (c : Int) ((r + 1 : Nat) : Int) := by
  have e0 : wrap64 ((c : Int) + wrap64 (1 * (r : Int))) = ((c + 1 * r : Nat) : Int) := by unfold wrap64; omega
  have e1 : Int.tmod ((c + 1 * r : Nat) : Int) 4 = (((c + 1 * r) % 4 : Nat) : Int) := by rw [Int.tmod_eq_emod_of_nonneg (by omega)]; omega
  have e2 : wrap64 (wrap64 (4 * (((c + 1 * r) % 4 : Nat) : Int)) + (r : Int)) = ((4 * ((c + 1 * r) % 4) + r : Nat) : Int) := by unfold wrap64; omega
  have e3 : wrap64 (((4 * ((c + 1 * r) % 4) + r : Nat) : Int) + 1) = ((4 * ((c + 1 * r) % 4) + r + 1 : Nat) : Int) := by unfold wrap64; omega
  have e4 : wrap64 ((r : Int) + 1) = ((r + 1 : Nat) : Int) := by unfold wrap64; omega
  simp only [clavigerref07_moved.l1, e0, e1, e2, e3, e4, Int.toNat_natCast]
  rw [ex1 s (by omega), if_pos (by omega), if_pos (by omega), if_pos (by omega), if_pos (by omega), if_pos (by rw [mkB_size]; simp; omega)]
theorem mv1_row (s out : ByteArray) (hs : s.size = 16) (ho : out.size ≤ 900) (c : Nat) (hc : c < 4) (res : ByteArray) (h : Ev (fun k => clavigerref07_moved.l0 k s 1 (out ++ mkB [bb s (4 * ((c + 1 * 0) % 4) + 0), bb s (4 * ((c + 1 * 1) % 4) + 1), bb s (4 * ((c + 1 * 2) % 4) + 2), bb s (4 * ((c + 1 * 3) % 4) + 3)]) ((c + 1 : Nat) : Int)) res) : Ev (fun k => clavigerref07_moved.l0 k s 1 out (c : Int)) res := by
  refine Ev.step (f := fun k => clavigerref07_moved.l1 k s 1 out (c : Int) ((0 : Nat) : Int)) (fun k => by simp only [clavigerref07_moved.l0]; rw [if_pos (by omega)]; rfl) ?_
  refine Ev.step (fun k => mv1_step s out hs (by omega) c 0 hc (by omega) k) ?_
  refine Ev.step (fun k => mv1_step s _ hs (by rw [ByteArray.size_append, mkB_size]; simp; omega) c 1 hc (by omega) k) ?_
  refine Ev.step (fun k => mv1_step s _ hs (by rw [ByteArray.size_append, ByteArray.size_append, mkB_size, mkB_size]; simp; omega) c 2 hc (by omega) k) ?_
  refine Ev.step (fun k => mv1_step s _ hs (by rw [ByteArray.size_append, ByteArray.size_append, ByteArray.size_append, mkB_size, mkB_size, mkB_size]; simp; omega) c 3 hc (by omega) k) ?_
  refine Ev.step (f := fun k => clavigerref07_moved.l0 k s 1 (out ++ mkB [bb s (4 * ((c + 1 * 0) % 4) + 0), bb s (4 * ((c + 1 * 1) % 4) + 1), bb s (4 * ((c + 1 * 2) % 4) + 2), bb s (4 * ((c + 1 * 3) % 4) + 3)]) ((c + 1 : Nat) : Int)) (fun k => ?_) h
  simp only [clavigerref07_moved.l1]
  rw [if_neg (by omega), show wrap64 ((c : Int) + 1) = ((c + 1 : Nat) : Int) by unfold wrap64; omega]
  simp only [ByteArray.append_assoc, mkB_append, List.cons_append, List.nil_append]
theorem rmoved1_c (s : ByteArray) (hs : s.size = 16) : Ev (fun k => clavigerref07_moved.f k s 1) (T (SH (bb s))) := by
  have hf : clavigerref07_fits.f s = some true := by unfold clavigerref07_fits.f; rw [hs]; rfl
  unfold clavigerref07_moved.f
  refine evs hf (evp rfl ?_)
  refine mv1_row s ⟨#[]⟩ hs (by show 0 ≤ 900; omega) 0 (by omega) _ (mv1_row s _ hs ?_ 1 (by omega) _ (mv1_row s _ hs ?_ 2 (by omega) _ (mv1_row s _ hs ?_ 3 (by omega) _ ?_)))
  · simp only [ByteArray.size_append, mkB_size]; show 0 + _ ≤ _; simp
  · simp only [ByteArray.size_append, mkB_size]; show 0 + _ + _ ≤ _; simp
  · simp only [ByteArray.size_append, mkB_size]; show 0 + _ + _ + _ ≤ _; simp
  · refine Ev.step (f := fun _ => some (T (SH (bb s)))) (fun k => ?_) (Ev.now _)
    simp only [clavigerref07_moved.l0]
    rw [if_neg (by omega)]
    simp only [emptyB, mkB_append, List.cons_append, List.nil_append]
    rfl

theorem mv3_step (s out : ByteArray) (hs : s.size = 16) (ho : out.size ≤ 1000) (c r : Nat) (hc : c < 4) (hr : r < 4) (k : Nat) : clavigerref07_moved.l1 (k + 1) s 3 out (c : Int) (r : Int) = clavigerref07_moved.l1 k s 3 (out ++ mkB [bb s (4 * ((c + 3 * r) % 4) + r)]) (c : Int) ((r + 1 : Nat) : Int) := by
  have e0 : wrap64 ((c : Int) + wrap64 (3 * (r : Int))) = ((c + 3 * r : Nat) : Int) := by unfold wrap64; omega
  have e1 : Int.tmod ((c + 3 * r : Nat) : Int) 4 = (((c + 3 * r) % 4 : Nat) : Int) := by rw [Int.tmod_eq_emod_of_nonneg (by omega)]; omega
  have e2 : wrap64 (wrap64 (4 * (((c + 3 * r) % 4 : Nat) : Int)) + (r : Int)) = ((4 * ((c + 3 * r) % 4) + r : Nat) : Int) := by unfold wrap64; omega
  have e3 : wrap64 (((4 * ((c + 3 * r) % 4) + r : Nat) : Int) + 1) = ((4 * ((c + 3 * r) % 4) + r + 1 : Nat) : Int) := by unfold wrap64; omega
  have e4 : wrap64 ((r : Int) + 1) = ((r + 1 : Nat) : Int) := by unfold wrap64; omega
  simp only [clavigerref07_moved.l1, e0, e1, e2, e3, e4, Int.toNat_natCast]
  rw [ex1 s (by omega), if_pos (by omega), if_pos (by omega), if_pos (by omega), if_pos (by omega), if_pos (by rw [mkB_size]; simp; omega)]
theorem mv3_row (s out : ByteArray) (hs : s.size = 16) (ho : out.size ≤ 900) (c : Nat) (hc : c < 4) (res : ByteArray) (h : Ev (fun k => clavigerref07_moved.l0 k s 3 (out ++ mkB [bb s (4 * ((c + 3 * 0) % 4) + 0), bb s (4 * ((c + 3 * 1) % 4) + 1), bb s (4 * ((c + 3 * 2) % 4) + 2), bb s (4 * ((c + 3 * 3) % 4) + 3)]) ((c + 1 : Nat) : Int)) res) : Ev (fun k => clavigerref07_moved.l0 k s 3 out (c : Int)) res := by
  refine Ev.step (f := fun k => clavigerref07_moved.l1 k s 3 out (c : Int) ((0 : Nat) : Int)) (fun k => by simp only [clavigerref07_moved.l0]; rw [if_pos (by omega)]; rfl) ?_
  refine Ev.step (fun k => mv3_step s out hs (by omega) c 0 hc (by omega) k) ?_
  refine Ev.step (fun k => mv3_step s _ hs (by rw [ByteArray.size_append, mkB_size]; simp; omega) c 1 hc (by omega) k) ?_
  refine Ev.step (fun k => mv3_step s _ hs (by rw [ByteArray.size_append, ByteArray.size_append, mkB_size, mkB_size]; simp; omega) c 2 hc (by omega) k) ?_
  refine Ev.step (fun k => mv3_step s _ hs (by rw [ByteArray.size_append, ByteArray.size_append, ByteArray.size_append, mkB_size, mkB_size, mkB_size]; simp; omega) c 3 hc (by omega) k) ?_
  refine Ev.step (f := fun k => clavigerref07_moved.l0 k s 3 (out ++ mkB [bb s (4 * ((c + 3 * 0) % 4) + 0), bb s (4 * ((c + 3 * 1) % 4) + 1), bb s (4 * ((c + 3 * 2) % 4) + 2), bb s (4 * ((c + 3 * 3) % 4) + 3)]) ((c + 1 : Nat) : Int)) (fun k => ?_) h
  simp only [clavigerref07_moved.l1]
  rw [if_neg (by omega), show wrap64 ((c : Int) + 1) = ((c + 1 : Nat) : Int) by unfold wrap64; omega]
  simp only [ByteArray.append_assoc, mkB_append, List.cons_append, List.nil_append]
theorem rmoved3_c (s : ByteArray) (hs : s.size = 16) : Ev (fun k => clavigerref07_moved.f k s 3) (T (UH (bb s))) := by
  have hf : clavigerref07_fits.f s = some true := by unfold clavigerref07_fits.f; rw [hs]; rfl
  unfold clavigerref07_moved.f
  refine evs hf (evp rfl ?_)
  refine mv3_row s ⟨#[]⟩ hs (by show 0 ≤ 900; omega) 0 (by omega) _ (mv3_row s _ hs ?_ 1 (by omega) _ (mv3_row s _ hs ?_ 2 (by omega) _ (mv3_row s _ hs ?_ 3 (by omega) _ ?_)))
  · simp only [ByteArray.size_append, mkB_size]; show 0 + _ ≤ _; simp
  · simp only [ByteArray.size_append, mkB_size]; show 0 + _ + _ ≤ _; simp
  · simp only [ByteArray.size_append, mkB_size]; show 0 + _ + _ + _ ≤ _; simp
  · refine Ev.step (f := fun _ => some (T (UH (bb s)))) (fun k => ?_) (Ev.now _)
    simp only [clavigerref07_moved.l0]
    rw [if_neg (by omega)]
    simp only [emptyB, mkB_append, List.cons_append, List.nil_append]
    rfl
def xorT (a b : ByteArray) : ByteArray := mkB ((List.range (min a.size b.size)).map fun i => bb a i ^^^ bb b i)
theorem xorT_size (a b : ByteArray) : (xorT a b).size = min a.size b.size := by unfold xorT; rw [mkB_size]; simp
/-- The sum of the bits in which two numbers part. -/
def xs (x y : Nat) : Nat → Nat
  | 0 => 0
  | k + 1 => xs x y k + (if x / 2 ^ k % 2 = y / 2 ^ k % 2 then 0 else 2 ^ k)
theorem xs_mod (x y k : Nat) : xs x y k = (x ^^^ y) % 2 ^ k := by
  induction k with
  | zero => simp [xs, Nat.mod_one]
  | succ k ih =>
    simp only [xs]
    rw [ih, Nat.mod_pow_succ]
    congr 1
    have h := bit_xor x y k
    have h1 : x / 2 ^ k % 2 < 2 := Nat.mod_lt _ (by omega)
    have h2 : y / 2 ^ k % 2 < 2 := Nat.mod_lt _ (by omega)
    have h3 : (x ^^^ y) / 2 ^ k % 2 < 2 := Nat.mod_lt _ (by omega)
    by_cases e : x / 2 ^ k % 2 = y / 2 ^ k % 2
    · rw [if_pos e]
      have : ¬ (x ^^^ y) / 2 ^ k % 2 = 1 := by rw [h, e]; simp
      rw [show (x ^^^ y) / 2 ^ k % 2 = 0 by omega, Nat.mul_zero]
    · rw [if_neg e]
      have : (x ^^^ y) / 2 ^ k % 2 = 1 := by rw [h]; omega
      rw [this, Nat.mul_one]
theorem xs_lt (x y k : Nat) : xs x y k < 2 ^ k := by rw [xs_mod]; exact Nat.mod_lt _ (Nat.two_pow_pos k)
theorem tdiv_c (x j : Nat) (hx : x < 256) : wrap64 (Int.tdiv (x : Int) ((2 ^ j : Nat) : Int)) = ((x / 2 ^ j : Nat) : Int) := by
  rw [Int.tdiv_eq_ediv_of_nonneg (by omega), ← Int.natCast_ediv]
  have : x / 2 ^ j ≤ x := Nat.div_le_self _ _
  generalize x / 2 ^ j = q at *
  unfold wrap64; omega
theorem sNs1 {n : Nat} : strOfNums [((n : Nat) : Int)] = mkB [n] := strOfNums_cast [n]
theorem rxor1 (a b out : ByteArray) (i x y : Nat) (hx : x < 256) (hy : y < 256) (ho : out.size ≤ 9000000000000000000) (hi : i < 9000000000000000000) {res : ByteArray} (h : Ev (fun k => clavigerref01_Xor.l0 k a b (out ++ mkB [x ^^^ y]) ((i + 1 : Nat) : Int)) res) (d : Nat) :
    ∀ j, 8 - j = d → j ≤ 8 → Ev (fun k => clavigerref01_Xor.l1 k a b out (i : Int) (x : Int) (y : Int) ((xs x y j : Nat) : Int) ((2 ^ j : Nat) : Int)) res := by
  induction d with
  | zero =>
    intro j hd hj
    obtain rfl : j = 8 := by omega
    have hs := xs_lt x y 8
    have e : xs x y 8 = x ^^^ y := by rw [xs_mod]; exact Nat.mod_eq_of_lt (xor_lt hx hy)
    refine Ev.step (f := fun k => clavigerref01_Xor.l0 k a b (out ++ mkB [x ^^^ y]) ((i + 1 : Nat) : Int)) (fun k => ?_) h
    simp only [clavigerref01_Xor.l1]
    rw [if_neg (by omega)]
    simp only [Option.bind_some]
    rw [show (((xs x y 8 : Nat) : Int) % 256) = ((x ^^^ y : Nat) : Int) by rw [← e]; omega, sNs1, mkB_size, if_pos (by simp; omega), show wrap64 ((i : Int) + 1) = ((i + 1 : Nat) : Int) by unfold wrap64; omega]
  | succ d ih =>
    intro j hd hj
    have hs := xs_lt x y j
    have hp := pow_le8 (show j < 8 by omega)
    have hp0 := Nat.two_pow_pos j
    have hi' := ih (j + 1) (by omega) (by omega)
    refine Ev.step (fun k => ?_) hi'
    simp only [clavigerref01_Xor.l1]
    rw [if_pos (by omega), if_neg (by omega), tdiv_c x j hx, tdiv_c y j hy, tmod2, tmod2, show wrap64 (2 * ((2 ^ j : Nat) : Int)) = ((2 ^ (j + 1) : Nat) : Int) by rw [Nat.pow_succ]; unfold wrap64; omega]
    simp only [xs]
    by_cases e : x / 2 ^ j % 2 = y / 2 ^ j % 2
    · rw [if_pos (by omega), if_pos e]; rfl
    · rw [if_neg (by omega), if_neg e, show wrap64 (((xs x y j : Nat) : Int) + ((2 ^ j : Nat) : Int)) = ((xs x y j + 2 ^ j : Nat) : Int) by unfold wrap64; omega]
theorem rng_snoc (f : Nat → Nat) (n : Nat) : mkB ((List.range n).map f) ++ mkB [f n] = mkB ((List.range (n + 1)).map f) := by
  rw [mkB_append, List.range_succ, List.map_append]; rfl
theorem rxorL (a b : ByteArray) (ha : a.size ≤ 140737488355328) (hb : b.size ≤ 140737488355328) (d : Nat) : ∀ i, min a.size b.size - i = d → i ≤ min a.size b.size →
    Ev (fun k => clavigerref01_Xor.l0 k a b (mkB ((List.range i).map fun i => bb a i ^^^ bb b i)) (i : Int)) (xorT a b) := by
  induction d with
  | zero =>
    intro i hd hi
    obtain rfl : i = min a.size b.size := by omega
    by_cases h : a.size ≤ b.size
    · refine Ev.step (f := fun k => clavigerref01_Xor.j1 k a b (xorT a b) ((min a.size b.size : Nat) : Int) false) (fun k => by simp only [clavigerref01_Xor.l0]; rw [if_neg (by omega)]; rfl) ?_
      exact Ev.step (f := fun _ => some (xorT a b)) (fun k => by simp only [clavigerref01_Xor.j1]; rw [if_neg (by simp)]) (Ev.now _)
    · refine Ev.step (f := fun k => clavigerref01_Xor.j1 k a b (xorT a b) ((min a.size b.size : Nat) : Int) false) (fun k => by simp only [clavigerref01_Xor.l0]; rw [if_pos (by omega), decide_eq_false (by omega)]; rfl) ?_
      exact Ev.step (f := fun _ => some (xorT a b)) (fun k => by simp only [clavigerref01_Xor.j1]; rw [if_neg (by simp)]) (Ev.now _)
  | succ d ih =>
    intro i hd hi
    have hh := ih (i + 1) (by omega) (by omega)
    rw [← rng_snoc (fun i => bb a i ^^^ bb b i)] at hh
    have h1 := rxor1 a b (mkB ((List.range i).map fun i => bb a i ^^^ bb b i)) i (bb a i) (bb b i) (bb_lt a i) (bb_lt b i) (by rw [mkB_size]; simp; omega) (by omega) hh 8 0 (by omega) (by omega)
    refine Ev.step (f := fun k => clavigerref01_Xor.j1 k a b (mkB ((List.range i).map fun i => bb a i ^^^ bb b i)) (i : Int) true) (fun k => by simp only [clavigerref01_Xor.l0]; rw [if_pos (by omega), decide_eq_true (by omega)]) ?_
    refine Ev.step (fun k => ?_) h1
    simp only [clavigerref01_Xor.j1]
    rw [if_pos True.intro, if_pos (by omega), if_pos (by omega), if_pos (by omega), bt_bb, bt_bb, wrap_id (by omega) (by have := bb_lt a i; omega), wrap_id (by omega) (by have := bb_lt b i; omega)]
    rfl
theorem rxor_c (a b : ByteArray) (ha : a.size ≤ 140737488355328) (hb : b.size ≤ 140737488355328) : Ev (fun k => clavigerref01_Xor.f k a b) (xorT a b) := rxorL a b ha hb _ 0 rfl (by omega)

def rmx (p g : Nat → Nat) (i : Nat) : Nat := ((gm (p 0) (g (nx i 0)) ^^^ gm (p 1) (g (nx i 1))) ^^^ gm (p 2) (g (nx i 2))) ^^^ gm (p 3) (g (nx i 3))
theorem mx2_step (s p out : ByteArray) (c i j m : Nat) (hs : s.size = 16) (hp : p.size = 4) (hc : c < 4) (hi : i < 4) (hj : j < 4) (hm : m < 256) {res : ByteArray}
    (h : Ev (fun k => clavigerref07_mixed.l2 k s p out (c : Int) (i : Int) ((m ^^^ gm (bb p j) (bb s (nx (4 * c + i) j)) : Nat) : Int) ((j + 1 : Nat) : Int)) res) :
    Ev (fun k => clavigerref07_mixed.l2 k s p out (c : Int) (i : Int) (m : Int) (j : Int)) res := by
  have hn : nx (4 * c + i) j < 16 := nx_lt (by omega) j
  have e1 : wrap64 ((i : Int) + (j : Int)) = ((i + j : Nat) : Int) := by unfold wrap64; omega
  have e2 : Int.tmod ((i + j : Nat) : Int) 4 = (((i + j) % 4 : Nat) : Int) := by rw [Int.tmod_eq_emod_of_nonneg (by omega)]; omega
  have e0 : nx (4 * c + i) j = 4 * c + (i + j) % 4 := by
    unfold nx
    rw [show (4 * c + i) / 4 = c by omega, show (4 * c + i) % 4 = i by omega]
  have e3 : wrap64 (wrap64 (4 * (c : Int)) + (((i + j) % 4 : Nat) : Int)) = ((nx (4 * c + i) j : Nat) : Int) := by
    have h4 : (i + j) % 4 < 4 := Nat.mod_lt _ (by omega)
    rw [e0]
    generalize (i + j) % 4 = q at *
    rw [wrap_id (x := 4 * (c : Int)) (by omega) (by omega), wrap_id (by omega) (by omega)]
    omega
  refine Ev.step (f := fun k => (clavigerref05_Mul.f k ((bb p j : Nat) : Int) ((bb s (nx (4 * c + i) j) : Nat) : Int)).bind fun t => clavigerref07_mixed.l2 k s p out (c : Int) (i : Int) (Go.bits .xor .u8 (m : Int) t) ((j + 1 : Nat) : Int)) (fun k => ?_) ?_
  · simp only [clavigerref07_mixed.l2, e1, e2, e3]
    clear e0 e1 e2 e3 h
    generalize hnx : nx (4 * c + i) j = n' at *
    rw [if_pos (by omega), if_pos (by omega), if_pos (by omega), if_pos (by omega), if_pos (by omega), bt_bb, bt_bb, show wrap64 ((j : Int) + 1) = ((j + 1 : Nat) : Int) by unfold wrap64; omega]
  · refine evb (rmul_c (bb_lt p j) (bb_lt s _)) ?_
    rw [bx hm (gm_lt (bb_lt p j))]
    exact h
theorem mx2 (s p out : ByteArray) (c i : Nat) (hs : s.size = 16) (hp : p.size = 4) (hc : c < 4) (hi : i < 4) (ho : out.size ≤ 1000) {res : ByteArray}
    (h : Ev (fun k => clavigerref07_mixed.l1 k s p (out ++ mkB [rmx (bb p) (bb s) (4 * c + i)]) (c : Int) ((i + 1 : Nat) : Int)) res) :
    Ev (fun k => clavigerref07_mixed.l2 k s p out (c : Int) (i : Int) 0 0) res := by
  have l0 : gm (bb p 0) (bb s (nx (4 * c + i) 0)) < 256 := gm_lt (bb_lt p 0)
  have l1 := xor_lt l0 (gm_lt (b := bb s (nx (4 * c + i) 1)) (bb_lt p 1))
  have l2 := xor_lt l1 (gm_lt (b := bb s (nx (4 * c + i) 2)) (bb_lt p 2))
  have l3 := xor_lt l2 (gm_lt (b := bb s (nx (4 * c + i) 3)) (bb_lt p 3))
  refine mx2_step s p out c i 0 0 hs hp hc hi (by omega) (by omega) ?_
  rw [Nat.zero_xor]
  refine mx2_step s p out c i 1 _ hs hp hc hi (by omega) l0 ?_
  refine mx2_step s p out c i 2 _ hs hp hc hi (by omega) l1 ?_
  refine mx2_step s p out c i 3 _ hs hp hc hi (by omega) l2 ?_
  refine Ev.step (fun k => ?_) h
  simp only [clavigerref07_mixed.l2]
  rw [if_neg (by omega)]
  simp only [Option.bind_some]
  rw [sNs1, mkB_size, if_pos (by simp; omega), show wrap64 ((i : Int) + 1) = ((i + 1 : Nat) : Int) by unfold wrap64; omega]
  rfl
theorem mx1 (s p : ByteArray) (c : Nat) (hs : s.size = 16) (hp : p.size = 4) (hc : c < 4) {res : ByteArray}
    (h : Ev (fun k => clavigerref07_mixed.l0 k s p (mkB ((List.range (4 * (c + 1))).map (rmx (bb p) (bb s)))) ((c + 1 : Nat) : Int)) res) (d : Nat) :
    ∀ i, 4 - i = d → i ≤ 4 → Ev (fun k => clavigerref07_mixed.l1 k s p (mkB ((List.range (4 * c + i)).map (rmx (bb p) (bb s)))) (c : Int) (i : Int)) res := by
  induction d with
  | zero =>
    intro i hd hi
    obtain rfl : i = 4 := by omega
    refine Ev.step (fun k => ?_) h
    simp only [clavigerref07_mixed.l1]
    rw [if_neg (by omega), show wrap64 ((c : Int) + 1) = ((c + 1 : Nat) : Int) by unfold wrap64; omega]
    rfl
  | succ d ih =>
    intro i hd hi
    have hh := ih (i + 1) (by omega) (by omega)
    rw [← Nat.add_assoc, ← rng_snoc] at hh
    refine Ev.step (fun k => ?_) (mx2 s p _ c i hs hp hc (by omega) (by rw [mkB_size]; simp; omega) hh)
    simp only [clavigerref07_mixed.l1]
    rw [if_pos (by omega)]
theorem mx0 (s p : ByteArray) (hs : s.size = 16) (hp : p.size = 4) (d : Nat) :
    ∀ c, 4 - c = d → c ≤ 4 → Ev (fun k => clavigerref07_mixed.l0 k s p (mkB ((List.range (4 * c)).map (rmx (bb p) (bb s)))) (c : Int)) (T (rmx (bb p) (bb s))) := by
  induction d with
  | zero =>
    intro c hd hc
    obtain rfl : c = 4 := by omega
    refine Ev.step (f := fun _ => some (T (rmx (bb p) (bb s)))) (fun k => ?_) (Ev.now _)
    simp only [clavigerref07_mixed.l0]
    rw [if_neg (by omega)]
    rfl
  | succ d ih =>
    intro c hd hc
    refine Ev.step (fun k => ?_) (mx1 s p c hs hp (by omega) (ih (c + 1) (by omega) (by omega)) 4 0 (by omega) (by omega))
    simp only [clavigerref07_mixed.l0]
    rw [if_pos (by omega)]
    rfl
theorem fits_c (s : ByteArray) : clavigerref07_fits.f s = some (decide (s.size = 16)) := by
  unfold clavigerref07_fits.f
  by_cases h : s.size = 16
  · rw [h]; rfl
  · rw [decide_eq_false h]; congr 1; exact beq_eq_false_iff_ne.mpr (by omega)
theorem rmixed_c (s p : ByteArray) (hs : s.size = 16) (hp : p.size = 4) : Ev (fun k => clavigerref07_mixed.f k s p) (T (rmx (bb p) (bb s))) := by
  unfold clavigerref07_mixed.f
  exact evs (fits_c s) (evp (by simp [hs]) (mx0 s p hs hp 4 0 (by omega) (by omega)))
theorem T_ge {g h : Nat → Nat} (H : ∀ i, g i = h i) : T g = T h := T_congr (fun i _ => H i)

def shT (s : ByteArray) : ByteArray := if s.size = 16 then T (SH (bb s)) else ⟨#[]⟩
def uhT (s : ByteArray) : ByteArray := if s.size = 16 then T (UH (bb s)) else ⟨#[]⟩
def mxT (s : ByteArray) : ByteArray := if s.size = 16 then T (MX (bb s)) else ⟨#[]⟩
def umT (s : ByteArray) : ByteArray := if s.size = 16 then T (UX (bb s)) else ⟨#[]⟩
def kyT (s k : ByteArray) : ByteArray := if s.size = 16 then if k.size = 16 then xorT s k else ⟨#[]⟩ else ⟨#[]⟩
def sbT (s : ByteArray) : ByteArray := mkB ((nb s).map sN)
def bkT (s : ByteArray) : ByteArray := mkB ((nb s).map bN)
def doT (s k : ByteArray) (l : Bool) : ByteArray := if s.size = 16 then if k.size = 16 then kyT (if l = true then shT (sbT s) else mxT (shT (sbT s))) k else ⟨#[]⟩ else ⟨#[]⟩
def unT (s k : ByteArray) (l : Bool) : ByteArray := bkT (uhT (if l = true then kyT s k else umT (kyT s k)))
theorem rmoved_no (s : ByteArray) (n : Int) (h : ¬ s.size = 16) : Ev (fun k => clavigerref07_moved.f k s n) ⟨#[]⟩ := by
  unfold clavigerref07_moved.f
  exact evs (fits_c s) (evn (by simp [h]) (Ev.now _))
theorem rmixed_no (s p : ByteArray) (h : ¬ s.size = 16) : Ev (fun k => clavigerref07_mixed.f k s p) ⟨#[]⟩ := by
  unfold clavigerref07_mixed.f
  exact evs (fits_c s) (evn (by simp [h]) (Ev.now _))
theorem rshift_t (s : ByteArray) : Ev (fun k => clavigerref07_Shift.f k s) (shT s) := by
  unfold clavigerref07_Shift.f shT
  by_cases h : s.size = 16
  · rw [if_pos h]; exact evb (rmoved1_c s h) (Ev.now _)
  · rw [if_neg h]; exact evb (rmoved_no s 1 h) (Ev.now _)
theorem runshift_t (s : ByteArray) : Ev (fun k => clavigerref07_Unshift.f k s) (uhT s) := by
  unfold clavigerref07_Unshift.f uhT
  by_cases h : s.size = 16
  · rw [if_pos h]; exact evb (rmoved3_c s h) (Ev.now _)
  · rw [if_neg h]; exact evb (rmoved_no s 3 h) (Ev.now _)
theorem rmx_MX {g : Nat → Nat} (hg : ∀ i, g i < 256) (i : Nat) : rmx (bb ⟨#[2, 3, 1, 1]⟩) g i = MX g i := by
  unfold rmx MX m0
  rw [show bb ⟨#[2, 3, 1, 1]⟩ 0 = 2 from rfl, show bb ⟨#[2, 3, 1, 1]⟩ 1 = 3 from rfl, show bb ⟨#[2, 3, 1, 1]⟩ 2 = 1 from rfl, show bb ⟨#[2, 3, 1, 1]⟩ 3 = 1 from rfl, nx_zero, (gm_sm (hg i)).2.1, (gm_sm (hg (nx i 1))).2.2.1, (gm_sm (hg (nx i 2))).1, (gm_sm (hg (nx i 3))).1]
  simp only [Nat.xor_assoc]
theorem rmx_UX (g : Nat → Nat) (i : Nat) : rmx (bb ⟨#[14, 11, 13, 9]⟩) g i = UX g i := by
  unfold rmx UX u0
  rw [show bb ⟨#[14, 11, 13, 9]⟩ 0 = 14 from rfl, show bb ⟨#[14, 11, 13, 9]⟩ 1 = 11 from rfl, show bb ⟨#[14, 11, 13, 9]⟩ 2 = 13 from rfl, show bb ⟨#[14, 11, 13, 9]⟩ 3 = 9 from rfl, nx_zero]
  simp only [Nat.xor_assoc]
theorem rmix_t (s : ByteArray) : Ev (fun k => clavigerref07_Mix.f k s) (mxT s) := by
  unfold clavigerref07_Mix.f mxT
  by_cases h : s.size = 16
  · rw [if_pos h, ← T_ge (fun i => rmx_MX (bb_lt s) i)]; exact evb (rmixed_c s _ h rfl) (Ev.now _)
  · rw [if_neg h]; exact evb (rmixed_no s _ h) (Ev.now _)
theorem runmix_t (s : ByteArray) : Ev (fun k => clavigerref07_Unmix.f k s) (umT s) := by
  unfold clavigerref07_Unmix.f umT
  by_cases h : s.size = 16
  · rw [if_pos h, ← T_ge (fun i => rmx_UX (bb s) i)]; exact evb (rmixed_c s _ h rfl) (Ev.now _)
  · rw [if_neg h]; exact evb (rmixed_no s _ h) (Ev.now _)
theorem rkey_t (s k : ByteArray) : Ev (fun n => clavigerref07_Key.f n s k) (kyT s k) := by
  unfold clavigerref07_Key.f kyT
  by_cases h : s.size = 16
  · rw [if_pos h]
    refine evs (fits_c s) (evp (by simp [h]) (evs (fits_c k) ?_))
    by_cases h' : k.size = 16
    · rw [if_pos h']; exact evp (by simp [h']) (evb (rxor_c s k (by omega) (by omega)) (Ev.now _))
    · rw [if_neg h']; exact evn (by simp [h']) (Ev.now _)
  · rw [if_neg h]
    exact evs (fits_c s) (evn (by simp [h]) (Ev.now _))
theorem uhT_le (s : ByteArray) : (uhT s).size ≤ 16 := by
  unfold uhT
  split
  · rw [T_size]; omega
  · exact Nat.zero_le _
theorem rdo_t (s k : ByteArray) (l : Bool) : Ev (fun n => clavigerref07_Do.f n s k l) (doT s k l) := by
  unfold clavigerref07_Do.f doT
  by_cases h : s.size = 16
  · rw [if_pos h]
    refine evs (fits_c s) (evp (by simp [h]) (evs (fits_c k) ?_))
    by_cases h' : k.size = 16
    · rw [if_pos h']
      refine Ev.step (f := fun n => (clavigerref06_Subs.f n s).bind fun t261 => ((clavigerref07_Shift.f n t261).bind fun t262 => (if l = true then ((clavigerref07_Key.f n t262 k).bind fun t263 => (some t263)) else ((clavigerref07_Mix.f n t262).bind fun t264 => ((clavigerref07_Key.f n t264 k).bind fun t265 => (some t265)))))) (fun n => by simp only [clavigerref07_Do.j0]; rw [if_neg (by simp [h'])]) ?_
      refine evb (rSubs_c s (by omega)) (evb (rshift_t _) ?_)
      cases l with
      | true => exact evp rfl (evb (rkey_t _ _) (Ev.now _))
      | false => exact evn (by simp) (evb (rmix_t _) (evb (rkey_t _ _) (Ev.now _)))
    · rw [if_neg h']
      exact Ev.step (f := fun _ => some ⟨#[]⟩) (fun n => by simp only [clavigerref07_Do.j0]; rw [if_pos (by simp [h'])]) (Ev.now _)
  · rw [if_neg h]
    refine evs (fits_c s) (evn (by simp [h]) ?_)
    exact Ev.step (f := fun _ => some ⟨#[]⟩) (fun n => by simp only [clavigerref07_Do.j0]; rw [if_pos True.intro]) (Ev.now _)
theorem un_none (s k : ByteArray) (l : Bool) (h : ¬ (s.size = 16 ∧ k.size = 16)) : unT s k l = ⟨#[]⟩ := by
  have e : kyT s k = ⟨#[]⟩ := by
    unfold kyT
    by_cases h1 : s.size = 16
    · rw [if_pos h1, if_neg (fun h2 => h ⟨h1, h2⟩)]
    · rw [if_neg h1]
  unfold unT
  rw [e]
  cases l <;> rfl
theorem run_t (s k : ByteArray) (l : Bool) : Ev (fun n => clavigerref07_Undo.f n s k l) (unT s k l) := by
  by_cases h : s.size = 16
  · by_cases h' : k.size = 16
    · unfold clavigerref07_Undo.f unT
      refine evs (fits_c s) (evp (by simp [h]) (evs (fits_c k) ?_))
      refine Ev.step (f := fun n => (clavigerref07_Key.f n s k).bind fun t368 => (if l = true then ((clavigerref07_Unshift.f n t368).bind fun t369 => ((clavigerref06_Backs.f n t369).bind fun t370 => (some t370))) else ((clavigerref07_Unmix.f n t368).bind fun t371 => ((clavigerref07_Unshift.f n t371).bind fun t372 => ((clavigerref06_Backs.f n t372).bind fun t373 => (some t373)))))) (fun n => by simp only [clavigerref07_Undo.j0]; rw [if_neg (by simp [h'])]) ?_
      refine evb (rkey_t _ _) ?_
      cases l with
      | true => exact evp rfl (evb (runshift_t _) (evb (rBacks_c _ (by have := uhT_le (kyT s k); omega)) (Ev.now _)))
      | false => exact evn (by simp) (evb (runmix_t _) (evb (runshift_t _) (evb (rBacks_c _ (by have := uhT_le (umT (kyT s k)); omega)) (Ev.now _))))
    · rw [un_none s k l (fun e => h' e.2)]
      unfold clavigerref07_Undo.f
      refine evs (fits_c s) (evp (by simp [h]) (evs (fits_c k) ?_))
      exact Ev.step (f := fun _ => some ⟨#[]⟩) (fun n => by simp only [clavigerref07_Undo.j0]; rw [if_pos (by simp [h'])]) (Ev.now _)
  · rw [un_none s k l (fun e => h e.1)]
    unfold clavigerref07_Undo.f
    refine evs (fits_c s) (evn (by simp [h]) ?_)
    exact Ev.step (f := fun _ => some ⟨#[]⟩) (fun n => by simp only [clavigerref07_Undo.j0]; rw [if_pos True.intro]) (Ev.now _)

theorem T_out {g : Nat → Nat} (hg : ∀ i, g i < 256) (i : Nat) (hi : i < 16) : bb (T g) i = g i := T_bb (fun i _ => hg i) i hi
theorem ms_size (f : Nat → Nat) (s : ByteArray) : (mkB ((nb s).map f)).size = s.size := by rw [mkB_size, List.length_map, nb_length]
theorem UH_lt {g : Nat → Nat} (hg : ∀ i, g i < 256) (i : Nat) : UH g i < 256 := hg _
theorem sh_size {s : ByteArray} (h : s.size = 16) : (shT s).size = 16 := by unfold shT; rw [if_pos h, T_size]
theorem uh_size {s : ByteArray} (h : s.size = 16) : (uhT s).size = 16 := by unfold uhT; rw [if_pos h, T_size]
theorem mx_size {s : ByteArray} (h : s.size = 16) : (mxT s).size = 16 := by unfold mxT; rw [if_pos h, T_size]
theorem um_size {s : ByteArray} (h : s.size = 16) : (umT s).size = 16 := by unfold umT; rw [if_pos h, T_size]
theorem ky_size {s k : ByteArray} (h : s.size = 16) (h' : k.size = 16) : (kyT s k).size = 16 := by unfold kyT; rw [if_pos h, if_pos h', xorT_size]; omega
theorem xorT_16 {a b : ByteArray} (ha : a.size = 16) (hb : b.size = 16) : xorT a b = T (fun i => bb a i ^^^ bb b i) := by unfold xorT T; rw [ha, hb]; rfl
theorem ky_16 {a b : ByteArray} (ha : a.size = 16) (hb : b.size = 16) : kyT a b = T (fun i => bb a i ^^^ bb b i) := by unfold kyT; rw [if_pos ha, if_pos hb, xorT_16 ha hb]
theorem sb_size (s : ByteArray) : (sbT s).size = s.size := ms_size sN s
theorem bk_size (s : ByteArray) : (bkT s).size = s.size := ms_size bN s
theorem do_size {s k : ByteArray} (h : s.size = 16) (h' : k.size = 16) (l : Bool) : (doT s k l).size = 16 := by
  unfold doT
  rw [if_pos h, if_pos h']
  have h1 := sh_size ((sb_size s).trans h)
  cases l
  · rw [if_neg (by simp)]; exact ky_size (mx_size h1) h'
  · rw [if_pos rfl]; exact ky_size h1 h'
theorem un_size {s k : ByteArray} (h : s.size = 16) (h' : k.size = 16) (l : Bool) : (unT s k l).size = 16 := by
  unfold unT
  rw [bk_size]
  have h1 := ky_size h h'
  cases l
  · rw [if_neg (by simp)]; exact uh_size (um_size h1)
  · rw [if_pos rfl]; exact uh_size h1
end Go.Proofs.Ytokkhnjedmlbhaa.M
end
section
namespace Go.Proofs.Ytokkhnjedmlbhaa.M
open Go.RowKit Go.Proofs.Ytokkhnjedmlbhaa.Pr Go.Proofs.YtokkhnjedmlbhaaW.PrintWords Go.Proofs.YtokkhnjedmlbhaaW.PrintLast Go.Proofs.YtokkhnjedmlbhaaW.PrintMore Go.Proofs.YtokkhnjedmlbhaaGf
set_option linter.unusedSimpArgs false
def fwd : List ByteArray → ByteArray → ByteArray
  | [], s => s
  | k :: ks, s => fwd ks (doT s k ks.isEmpty)
def bwd : List ByteArray → ByteArray → ByteArray
  | [], s => s
  | k :: ks, s => unT (bwd ks s) k ks.isEmpty
/-- A block, encrypted; decrypted. -/
def encT (ks : List ByteArray) (s : ByteArray) : ByteArray := match ks with
  | [] => s
  | k :: ks => fwd ks (kyT s k)
def decT (ks : List ByteArray) (s : ByteArray) : ByteArray := match ks with
  | [] => s
  | k :: ks => kyT (bwd ks s) k
def all16 (ks : List ByteArray) : Prop := ∀ k ∈ ks, k.size = 16
theorem fwd_size : ∀ {ks : List ByteArray} {s : ByteArray}, all16 ks → s.size = 16 → (fwd ks s).size = 16
  | [], _, _, hs => hs
  | k :: ks, s, h, hs => fwd_size (ks := ks) (fun x hx => h x (by simp [hx])) (do_size hs (h k (by simp)) _)
theorem bwd_size : ∀ {ks : List ByteArray} {s : ByteArray}, all16 ks → s.size = 16 → (bwd ks s).size = 16
  | [], _, _, hs => hs
  | k :: ks, s, h, hs => un_size (bwd_size (ks := ks) (fun x hx => h x (by simp [hx])) hs) (h k (by simp)) _
theorem enc_size {ks : List ByteArray} {s : ByteArray} (h : all16 ks) (hs : s.size = 16) : (encT ks s).size = 16 := by
  cases ks with
  | nil => exact hs
  | cons k ks => exact fwd_size (fun x hx => h x (by simp [hx])) (ky_size hs (h k (by simp)))
theorem dec_size {ks : List ByteArray} {s : ByteArray} (h : all16 ks) (hs : s.size = 16) : (decT ks s).size = 16 := by
  cases ks with
  | nil => exact hs
  | cons k ks => exact ky_size (bwd_size (fun x hx => h x (by simp [hx])) hs) (h k (by simp))
/-- One round, on numbers. -/
def F1 (f : Nat → Nat) (q : Nat) : Nat := sN (f (5 * q % 16))
theorem F1_lt (f : Nat → Nat) (q : Nat) : F1 f q < 256 := sN_lt _
theorem SH_F1 (f : Nat → Nat) (q : Nat) : SH (fun j => sN (f j)) q = F1 f q := by
  unfold SH F1
  congr 2
  omega
theorem sb_T {f : Nat → Nat} (hf : ∀ i, f i < 256) : sbT (T f) = T (fun j => sN (f j)) := by
  unfold sbT T
  rw [nb_mkB (isB_map hf _), List.map_map]
  rfl
theorem sh_sb {f : Nat → Nat} (hf : ∀ i, f i < 256) : shT (sbT (T f)) = T (F1 f) := by
  rw [sb_T hf]
  unfold shT
  rw [if_pos (T_size _)]
  exact T_congr (fun i hi => (SH_congr (T_out (fun j => sN_lt (f j))) i).trans (SH_F1 f i))
theorem ky_T {f : Nat → Nat} (hf : ∀ i, f i < 256) {k : ByteArray} (hk : k.size = 16) : kyT (T f) k = T (fun q => f q ^^^ bb k q) := by
  rw [ky_16 (T_size _) hk]
  exact T_congr (fun i hi => by rw [T_out hf i hi])
theorem do_last {f : Nat → Nat} (hf : ∀ i, f i < 256) {k : ByteArray} (hk : k.size = 16) : doT (T f) k true = T (fun q => F1 f q ^^^ bb k q) := by
  unfold doT
  rw [if_pos (T_size _), if_pos hk, if_pos rfl, sh_sb hf, ky_T (F1_lt f) hk]
theorem mx_T {f : Nat → Nat} (hf : ∀ i, f i < 256) : mxT (T f) = T (MX f) := by
  unfold mxT
  rw [if_pos (T_size _)]
  exact T_congr (fun i hi => MX_congr (T_out hf) hi)
theorem um_T {f : Nat → Nat} (hf : ∀ i, f i < 256) : umT (T f) = T (UX f) := by
  unfold umT
  rw [if_pos (T_size _)]
  exact T_congr (fun i hi => UX_congr (T_out hf) hi)
theorem do_mid {f : Nat → Nat} (hf : ∀ i, f i < 256) {k : ByteArray} (hk : k.size = 16) : doT (T f) k false = T (fun q => MX (F1 f) q ^^^ bb k q) := by
  unfold doT
  rw [if_pos (T_size _), if_pos hk, if_neg (by simp), sh_sb hf, mx_T (F1_lt f), ky_T (MX_lt (F1_lt f)) hk]
/-- Back: the bytes for which they stand, rows moved back. -/
def B1 (f : Nat → Nat) (q : Nat) : Nat := bN (f (13 * q % 16))
theorem B1_lt (f : Nat → Nat) (q : Nat) : B1 f q < 256 := bN_lt _
theorem bk_uh {f : Nat → Nat} (hf : ∀ i, f i < 256) : bkT (uhT (T f)) = T (B1 f) := by
  have e : uhT (T f) = T (UH f) := by
    unfold uhT
    rw [if_pos (T_size _)]
    exact T_congr (fun i hi => UH_congr (T_out hf) i)
  rw [e]
  unfold bkT T
  rw [nb_mkB (isB_map (UH_lt hf) _), List.map_map]
  rfl
theorem un_last {f : Nat → Nat} (hf : ∀ i, f i < 256) {k : ByteArray} (hk : k.size = 16) : unT (T f) k true = T (B1 (fun q => f q ^^^ bb k q)) := by
  unfold unT
  rw [if_pos rfl, ky_T hf hk, bk_uh (fun i => xor_lt (hf i) (bb_lt k i))]
theorem un_mid {f : Nat → Nat} (hf : ∀ i, f i < 256) {k : ByteArray} (hk : k.size = 16) : unT (T f) k false = T (B1 (UX (fun q => f q ^^^ bb k q))) := by
  unfold unT
  rw [if_neg (by simp), ky_T hf hk, um_T (fun i => xor_lt (hf i) (bb_lt k i)), bk_uh (UX_lt _)]
theorem colsumA (g : Nat → Nat) (i : Nat) : ((g (4 * (i / 4)) ^^^ g (4 * (i / 4) + 1)) ^^^ g (4 * (i / 4) + 2)) ^^^ g (4 * (i / 4) + 3) = g i ^^^ (g (nx i 1) ^^^ (g (nx i 2) ^^^ g (nx i 3))) := by
  obtain h | h | h | h : i % 4 = 0 ∨ i % 4 = 1 ∨ i % 4 = 2 ∨ i % 4 = 3 := by omega
  · rw [show g i = g (4 * (i / 4)) from congrArg g (by omega), show nx i 1 = 4 * (i / 4) + 1 by unfold nx; omega, show nx i 2 = 4 * (i / 4) + 2 by unfold nx; omega, show nx i 3 = 4 * (i / 4) + 3 by unfold nx; omega]
    simp only [Nat.xor_assoc]
  · rw [show g i = g (4 * (i / 4) + 1) from congrArg g (by omega), show nx i 1 = 4 * (i / 4) + 2 by unfold nx; omega, show nx i 2 = 4 * (i / 4) + 3 by unfold nx; omega, show nx i 3 = 4 * (i / 4) by unfold nx; omega]
    generalize g (4 * (i / 4)) = a; generalize g (4 * (i / 4) + 1) = b; generalize g (4 * (i / 4) + 2) = c; generalize g (4 * (i / 4) + 3) = d
    simp only [Nat.xor_assoc, Nat.xor_comm, xor_lc]
  · rw [show g i = g (4 * (i / 4) + 2) from congrArg g (by omega), show nx i 1 = 4 * (i / 4) + 3 by unfold nx; omega, show nx i 2 = 4 * (i / 4) by unfold nx; omega, show nx i 3 = 4 * (i / 4) + 1 by unfold nx; omega]
    generalize g (4 * (i / 4)) = a; generalize g (4 * (i / 4) + 1) = b; generalize g (4 * (i / 4) + 2) = c; generalize g (4 * (i / 4) + 3) = d
    simp only [Nat.xor_assoc, Nat.xor_comm, xor_lc]
  · rw [show g i = g (4 * (i / 4) + 3) from congrArg g (by omega), show nx i 1 = 4 * (i / 4) by unfold nx; omega, show nx i 2 = 4 * (i / 4) + 1 by unfold nx; omega, show nx i 3 = 4 * (i / 4) + 2 by unfold nx; omega]
    generalize g (4 * (i / 4)) = a; generalize g (4 * (i / 4) + 1) = b; generalize g (4 * (i / 4) + 2) = c; generalize g (4 * (i / 4) + 3) = d
    simp only [Nat.xor_assoc, Nat.xor_comm, xor_lc]
def mxA (g : Nat → Nat) (c j : Nat) : Nat := (g (4 * c + j) ^^^ (((g (4 * c) ^^^ g (4 * c + 1)) ^^^ g (4 * c + 2)) ^^^ g (4 * c + 3))) ^^^ xt (g (4 * c + j) ^^^ g (4 * c + (j + 1) % 4))
theorem mxA_MX {g : Nat → Nat} (hg : ∀ i, g i < 256) (c j : Nat) (hj : j < 4) : mxA g c j = MX g (4 * c + j) := by
  have h := colsumA g (4 * c + j)
  rw [show (4 * c + j) / 4 = c by omega] at h
  unfold mxA MX m0
  rw [h, show 4 * c + (j + 1) % 4 = nx (4 * c + j) 1 by unfold nx; omega, xt_lin (hg _) (hg _)]
  generalize g (4 * c + j) = a; generalize g (nx (4 * c + j) 1) = b; generalize g (nx (4 * c + j) 2) = c; generalize g (nx (4 * c + j) 3) = d
  generalize xt a = a1; generalize xt b = b1
  simp only [Nat.xor_assoc, Nat.xor_comm, xor_lc, Nat.xor_self, Nat.xor_zero, Nat.zero_xor, xor_xc]
/-- Four products of a column. -/
def umA (g : Nat → Nat) (c j : Nat) : Nat := ((gm 14 (g (4 * c + j)) ^^^ gm 11 (g (4 * c + (j + 1) % 4))) ^^^ gm 13 (g (4 * c + (j + 2) % 4))) ^^^ gm 9 (g (4 * c + (j + 3) % 4))
theorem umA_UX (g : Nat → Nat) (c j : Nat) (hj : j < 4) : umA g c j = UX g (4 * c + j) := by
  unfold umA UX u0
  rw [show 4 * c + (j + 1) % 4 = nx (4 * c + j) 1 by unfold nx; omega, show 4 * c + (j + 2) % 4 = nx (4 * c + j) 2 by unfold nx; omega, show 4 * c + (j + 3) % 4 = nx (4 * c + j) 3 by unfold nx; omega]
  simp only [Nat.xor_assoc]
end Go.Proofs.Ytokkhnjedmlbhaa.M
end
section
namespace Go.Proofs.Ytokkhnjedmlbhaa.Pr
open Go.RowKit Go.Proofs.YtokkhnjedmlbhaaW.PrintWords Go.Proofs.YtokkhnjedmlbhaaW.PrintLast Go.Proofs.YtokkhnjedmlbhaaW.PrintMore Go.Proofs.YtokkhnjedmlbhaaHw Go.Proofs.YtokkhnjedmlbhaaGf
theorem tabR_at (p v : Nat) (hp : p < 7) (hv : v < 256) : (tabR 256).getD (256 * p + v) 0 = ((tabV 256 (256 * p + v) : Nat) : Int) := by
  have : 256 * p + v < 1792 := by omega
  simp [tabR, this]
theorem tab_sub (v : Nat) (hv : v < 256) : (tabR 256).getD v 0 = ((M.sN v : Nat) : Int) := by
  have h := tabR_at 0 v (by omega) hv
  rw [show 256 * 0 + v = v by omega] at h
  rw [h]
  unfold tabV
  rw [show v / 256 = 0 by omega, show v % 256 = v by omega, if_neg (by decide), if_pos hv]
  rfl
theorem tab_back (v : Nat) (hv : v < 256) : (tabR 256).getD (256 + v) 0 = ((M.bN v : Nat) : Int) := by
  rw [tabR_at 1 v (by omega) hv]
  unfold tabV
  rw [show (256 * 1 + v) / 256 = 1 by omega, show (256 * 1 + v) % 256 = v by omega, if_pos rfl, if_pos (M.bN_lt v)]
theorem tab_oth (p v : Nat) (hp : p < 7) (h1 : p ≠ 1) (hv : v < 256) : (tabR 256).getD (256 * p + v) 0 = ((tabF p v : Nat) : Int) := by
  rw [tabR_at p v hp hv]
  unfold tabV
  rw [show (256 * p + v) / 256 = p by omega, show (256 * p + v) % 256 = v by omega, if_neg h1, if_pos hv]
/-- Sixteen bytes. -/
def L16 (f : Nat → Nat) : List Int := (List.range 16).map fun q => ((f q : Nat) : Int)
theorem L16_length (f : Nat → Nat) : (L16 f).length = 16 := by simp [L16]
theorem L16_get (f : Nat → Nat) (i : Nat) (hi : i < 16) : (L16 f).getD i 0 = ((f i : Nat) : Int) := by simp [L16, hi]
def C16 (f : Nat → Nat) : Nat → Int := fun q => ((f q : Nat) : Int)
theorem L16_C (f : Nat → Nat) : L16 f = (List.range 16).map (C16 f) := rfl
theorem cells_16 (s : ByteArray) (hs : s.size = 16) : (Lib.byteCells s.data.toList).take 16 = (L16 (M.bb s)).map (Value.int .u8) := by
  apply List.ext_getElem
  · rw [List.length_take, Lib.byteCells_length, List.length_map, L16_length, ← Lib.size_eq]; omega
  · intro i h1 h2
    have hi : i < 16 := by rw [List.length_map, L16_length] at h2; exact h2
    simp only [List.getElem_take, Lib.byteCells, List.getElem_map, L16, List.getElem_range]
    rw [← M.bt_bb, ← bt_at s (i : Int) (by simp; omega)]
    rfl
theorem L16_xor {f : Nat → Nat} (hf : ∀ i, f i < 256) (key : ByteArray) : ((List.range 16).map fun q => Go.bits .xor .u8 (C16 f q) (bt key q)) = L16 (fun q => f q ^^^ M.bb key q) := by
  apply List.map_congr_left
  intro q _
  show Go.bits .xor .u8 ((f q : Nat) : Int) (bt key (q : Int)) = _
  rw [M.bt_bb, M.bx (hf q) (M.bb_lt key q)]
/-- A key added to sixteen bytes. -/
theorem add_nat (g : Nat) (f : Nat → Nat) (hf : ∀ i, f i < 256) (key : ByteArray) (w : World) (hg : BY w g 65 (L16 f)) (hk : key.size = 16) :
    Calls Try.prog 194 #[.pointer (some ⟨g, 0, none⟩), .string key] w fun e w' => e = .returned (.tuple #[]) ∧ BY w' g 65 (L16 fun q => f q ^^^ M.bb key q) ∧ w.grownBy w' (some g) := by
  refine (add_calls g (C16 f) key w hg hk).mono fun e w' h => ?_
  rw [L16_xor hf] at h
  exact h
/-- The same, with what else is known of the memory. -/
theorem add_both {w0 W : World} {g h : Nat} {f : Nat → Nat} {ys : List Int} (key : ByteArray) (hf : ∀ i, f i < 256) (hg : BY W g 65 (L16 f)) (hh : BY W h 65 ys) (hne : h ≠ g) (hB : Below w0.heap.size w0 W) (hbg : w0.heap.size ≤ g) (hk : key.size = 16) :
    Calls Try.prog 194 #[.pointer (some ⟨g, 0, none⟩), .string key] W fun e w' => e = .returned (.tuple #[]) ∧ BY w' g 65 (L16 fun q => f q ^^^ M.bb key q) ∧ BY w' h 65 ys ∧ Below w0.heap.size w0 w' := by
  refine (add_nat g f hf key W hg hk).mono fun e w' h' => ?_
  obtain ⟨h1, h2, h3⟩ := h'
  exact ⟨h1, h2, hh.same (h3.block _ hh.lt (fun e => hne (by injection e))), hB.grown h3 hB.size (fun q hq => by injection hq with hq; omega)⟩
def kAt (ks : List ByteArray) (j : Nat) : ByteArray := ks.getD j ByteArray.empty
theorem StrRow.at_ {w : World} {g : Nat} {ps : List ByteArray} (h : StrRow w g ps) (j : Nat) (hj : j < ps.length) : w.cell? ⟨g, j, none⟩ = some (.string (kAt ps j)) := by
  refine h.cell j _ ?_
  simp [kAt, List.getD_eq_getElem?_getD, hj]
theorem strL16 (f : Nat → Nat) : strOfNums (L16 f) = M.T f := by
  unfold M.T
  rw [← M.strOfNums_cast, List.map_map]
  rfl
theorem conv_L16 {W : World} {g : Nat} {f : Nat → Nat} (h : BY W g 65 (L16 f)) : (convert 66 9 (.slice (some ⟨g, 0, none⟩) 16 16)).run Try.prog W = .ok (.string (M.T f)) W := by
  rw [← strL16]
  exact run_convert_bytes_arg (P := Try.prog) W 66 5 Try.underlying66 Try.underlying5 g 0 16 16 (L16 f) (L16_length f) (fun i hi => by
    rw [Nat.zero_add]
    exact h.cell i (by rw [L16_length]; exact hi)) 9 Try.underlying9
theorem drop_at {ks : List ByteArray} {i : Nat} (h : i < ks.length) : ks.drop i = kAt ks i :: ks.drop (i + 1) := by
  rw [List.drop_eq_getElem_cons h]
  simp [kAt, List.getD_eq_getElem?_getD, h]
set_option maxHeartbeats 4000000 in
set_option maxRecDepth 100000 in
theorem enc_calls (g n : Nat) (ks : List ByteArray) (s : ByteArray) (w : World) (hC : IsC w g n ks) (hs : s.size = 16) (hl : 2 ≤ ks.length) (hl2 : ks.length ≤ 100) (hk : M.all16 ks) :
    Calls Try.prog 106 #[.pointer (some ⟨g, 0, none⟩), .string s] w fun e w' => e = .returned (.tuple #[.string (M.encT ks s), .int .i64 0]) ∧ Below w.heap.size w w' := by
  have HC := Aside0.mk hC
  have HSZ := Aside0.mk hs
  have HKS := Aside0.mk hk
  obtain ⟨gk, cap, gt, c1, c2, hS, hT⟩ := hC.cells
  have HSR := Aside0.mk hS
  have HT := Aside0.mk hT
  have hgk := hS.lt
  have hgt := hT.lt
  have hgl := hC.lt
  have hk0 : M.all16 ks := hk
  have HK0 : Aside0 (∀ j, j < ks.length → (kAt ks j).size = 16) := ⟨fun j hj => by
    unfold kAt
    rw [List.getD_eq_getElem?_getD, List.getElem?_eq_getElem hj]
    exact hk0 _ (List.getElem_mem hj)⟩
  have HC1 := Aside0.mk c1
  have HC2 := Aside0.mk c2
  obtain ⟨W1, hW1⟩ : ∃ W1 : World, W1 = ((w.alloc (.cells #[.int .u8 0, .int .u8 0, .int .u8 0, .int .u8 0, .int .u8 0, .int .u8 0, .int .u8 0, .int .u8 0, .int .u8 0, .int .u8 0, .int .u8 0, .int .u8 0, .int .u8 0, .int .u8 0, .int .u8 0, .int .u8 0] 65)).alloc (.cells #[.int .u8 0, .int .u8 0, .int .u8 0, .int .u8 0, .int .u8 0, .int .u8 0, .int .u8 0, .int .u8 0, .int .u8 0, .int .u8 0, .int .u8 0, .int .u8 0, .int .u8 0, .int .u8 0, .int .u8 0, .int .u8 0] 65)).setRow w.heap.size ((L16 (M.bb s)).map (Value.int .u8)).toArray := ⟨_, rfl⟩
  have hz0 : ((w.alloc (.cells #[.int .u8 0, .int .u8 0, .int .u8 0, .int .u8 0, .int .u8 0, .int .u8 0, .int .u8 0, .int .u8 0, .int .u8 0, .int .u8 0, .int .u8 0, .int .u8 0, .int .u8 0, .int .u8 0, .int .u8 0, .int .u8 0] 65)).alloc (.cells #[.int .u8 0, .int .u8 0, .int .u8 0, .int .u8 0, .int .u8 0, .int .u8 0, .int .u8 0, .int .u8 0, .int .u8 0, .int .u8 0, .int .u8 0, .int .u8 0, .int .u8 0, .int .u8 0, .int .u8 0, .int .u8 0] 65)).heap[w.heap.size]? = some (.cells #[.int .u8 0, .int .u8 0, .int .u8 0, .int .u8 0, .int .u8 0, .int .u8 0, .int .u8 0, .int .u8 0, .int .u8 0, .int .u8 0, .int .u8 0, .int .u8 0, .int .u8 0, .int .u8 0, .int .u8 0, .int .u8 0] 65 (0, 0)) := (heap_alloc_old _ _ (by simp)).trans (heap_alloc_new w _)
  have hcp : ∀ (ty : TypeId), (Builtin.copy_ #[66, 9] ty #[.slice (some ⟨w.heap.size, 0, none⟩) 16 16, .string s]).run Try.prog ((w.alloc (.cells #[.int .u8 0, .int .u8 0, .int .u8 0, .int .u8 0, .int .u8 0, .int .u8 0, .int .u8 0, .int .u8 0, .int .u8 0, .int .u8 0, .int .u8 0, .int .u8 0, .int .u8 0, .int .u8 0, .int .u8 0, .int .u8 0] 65)).alloc (.cells #[.int .u8 0, .int .u8 0, .int .u8 0, .int .u8 0, .int .u8 0, .int .u8 0, .int .u8 0, .int .u8 0, .int .u8 0, .int .u8 0, .int .u8 0, .int .u8 0, .int .u8 0, .int .u8 0, .int .u8 0, .int .u8 0] 65)) = .ok (goInt 16) W1 := fun ty => by
    rw [hW1, ← cells_16 s hs]
    exact run_copy_str (P := Try.prog) _ 66 9 ty 5 w.heap.size 16 16 s #[.int .u8 0, .int .u8 0, .int .u8 0, .int .u8 0, .int .u8 0, .int .u8 0, .int .u8 0, .int .u8 0, .int .u8 0, .int .u8 0, .int .u8 0, .int .u8 0, .int .u8 0, .int .u8 0, .int .u8 0, .int .u8 0] 65 Try.underlying66 (by kernel_rfl) hz0 (by omega) rfl
  have hB1 : Below w.heap.size w W1 := by
    rw [hW1]
    exact below_setRow (((Below.refl _ _).alloc (Nat.le_refl _) _).alloc (by simp) _) (Nat.le_refl _) _
  have hs1 : BY W1 w.heap.size 65 (L16 (M.bb s)) := by
    rw [hW1]
    exact setRow_heap _ _ _ _ _ _ hz0
  have ht1 : BY W1 (w.heap.size + 1) 65 (L16 fun _ => 0) := by
    rw [hW1]
    have h : ((w.alloc (.cells #[.int .u8 0, .int .u8 0, .int .u8 0, .int .u8 0, .int .u8 0, .int .u8 0, .int .u8 0, .int .u8 0, .int .u8 0, .int .u8 0, .int .u8 0, .int .u8 0, .int .u8 0, .int .u8 0, .int .u8 0, .int .u8 0] 65)).alloc (.cells #[.int .u8 0, .int .u8 0, .int .u8 0, .int .u8 0, .int .u8 0, .int .u8 0, .int .u8 0, .int .u8 0, .int .u8 0, .int .u8 0, .int .u8 0, .int .u8 0, .int .u8 0, .int .u8 0, .int .u8 0, .int .u8 0] 65)).heap[w.heap.size + 1]? = some (.cells #[.int .u8 0, .int .u8 0, .int .u8 0, .int .u8 0, .int .u8 0, .int .u8 0, .int .u8 0, .int .u8 0, .int .u8 0, .int .u8 0, .int .u8 0, .int .u8 0, .int .u8 0, .int .u8 0, .int .u8 0, .int .u8 0] 65 (0, 0)) := by
      have := heap_alloc_new (w.alloc (.cells #[.int .u8 0, .int .u8 0, .int .u8 0, .int .u8 0, .int .u8 0, .int .u8 0, .int .u8 0, .int .u8 0, .int .u8 0, .int .u8 0, .int .u8 0, .int .u8 0, .int .u8 0, .int .u8 0, .int .u8 0, .int .u8 0] 65)) (.cells #[.int .u8 0, .int .u8 0, .int .u8 0, .int .u8 0, .int .u8 0, .int .u8 0, .int .u8 0, .int .u8 0, .int .u8 0, .int .u8 0, .int .u8 0, .int .u8 0, .int .u8 0, .int .u8 0, .int .u8 0, .int .u8 0] 65)
      simpa using this
    exact (setRow_other _ _ _ _ (by omega)).trans h
  have HCOP := Aside0.mk hcp
  have HB1 := Aside0.mk hB1
  have HS1 := Aside0.mk hs1
  have HT1 := Aside0.mk ht1
  have d1 : W1.cell? ⟨g, 1, none⟩ = some (.slice (some ⟨gk, 0, none⟩) ks.length cap) := pw_cell_below hB1 c1
  have d2 : W1.cell? ⟨gk, 0, none⟩ = some (.string (kAt ks 0)) := pw_cell_below hB1 (hS.at_ 0 (by omega))
  clear hW1 hz0 hB1 hs1 ht1 hS hT hk hk0 hs c1 c2 hC HCOP
  go_enter Try.func106, Try.ntmps106
  go_wp2_with (first | (go_at_call 193; (with_reducible refine (may_ok g n ks s _ HC.out HSZ.out).mono ?_); rintro e w' ⟨rfl, hw'⟩; have hw2 := hw'.symm; subst hw2) | (go_at_call 194; (with_reducible refine (add_both (w0 := w) _ (M.bb_lt s) HS1.out HT1.out (by omega) HB1.out (Nat.le_refl _) (HK0.out 0 (by omega))).mono ?_); rintro e W2 ⟨rfl, hs2, ht2, hb2⟩; have d3 := pw_cell_below hb2 HC1.out))
  have HS2 := Aside0.mk hs2
  have HT2 := Aside0.mk ht2
  have HB2 := Aside0.mk hb2
  clear hs2 ht2 hb2
  have HF0 : Aside0 (∀ q, (fun q => M.bb s q ^^^ M.bb (kAt ks 0) q) q < 256) := ⟨fun q => xor_lt (M.bb_lt _ _) (M.bb_lt _ _)⟩
  have HE0 : Aside0 (M.fwd (ks.drop 1) (M.T fun q => M.bb s q ^^^ M.bb (kAt ks 0) q) = M.encT ks s) := ⟨by
    cases ks with
    | nil => simp at hl
    | cons k0 kt =>
      show M.fwd kt _ = M.fwd kt (M.kyT s k0)
      rw [M.ky_16 HSZ.out (HKS.out k0 (by simp))]
      rfl⟩
  clear hcp d1 d2 d3 HB1 HS1 HT1
  generalize (fun q => M.bb s q ^^^ M.bb (kAt ks 0) q) = f0 at *
  go_loopw [10] (fun iv wr => ∃ (i : Nat) (f y : Nat → Nat), 1 ≤ i ∧ i < ks.length ∧ iv = .int .i64 i ∧ Aside0 (∀ q, f q < 256) ∧ Aside0 (M.fwd (ks.drop i) (M.T f) = M.encT ks s) ∧ Aside0 (BY wr w.heap.size 65 (L16 f)) ∧ Aside0 (BY wr (w.heap.size + 1) 65 (L16 y)) ∧ Aside0 (Below w.heap.size w wr)) (fun iv _ => ks.length - (intOf iv).toNat)
  case atStart => exact ⟨1, f0, fun _ => 0, by omega, by omega, rfl, HF0, HE0, HS2, HT2, HB2⟩
  case round =>
    clear HF0 HE0 HS2 HT2 HB2
    obtain ⟨i, f, y, hi1, hi2, rfl, HF, HE, HS2, HT2, HB2⟩ := hrel
    go_wp2
    go_loopw [39] (fun kv wr => ∃ k : Nat, k ≤ 16 ∧ kv = .int .i64 k ∧ Aside0 (BY wr w.heap.size 65 (L16 f)) ∧ Aside0 (BY wr (w.heap.size + 1) 65 (mixL k (C16 (M.F1 f)) (C16 y))) ∧ Aside0 (Below w.heap.size w wr)) (fun kv _ => 16 - (intOf kv).toNat)
    case atStart => exact ⟨0, Nat.zero_le _, rfl, HS2, ⟨by rw [mixL_zero]; exact HT2.out⟩, HB2⟩
    case round =>
      clear HS2 HT2 HB2
      obtain ⟨k, hk, rfl, HS2, HT2, HB2⟩ := hrel
      by_cases hlt : k < 16
      · have e2 : wr.cell? ⟨g, 2, none⟩ = some (.pointer (some ⟨gt, 0, none⟩)) := pw_cell_below HB2.out HC2.out
        have hlt5 : 5 * k % 16 < 16 := Nat.mod_lt _ (by omega)
        have e3 := HS2.out.cell (5 * k % 16) (by rw [L16_length]; exact hlt5)
        rw [L16_get f _ hlt5] at e3
        have hfv := HF.out (5 * k % 16)
        have e4 := (HT.out.below HB2.out).cell (f (5 * k % 16)) (by rw [tabR_length]; omega)
        rw [tab_sub _ hfv, show M.sN (f (5 * k % 16)) = M.F1 f k from rfl] at e4
        have e5 := HT2.out.frozen k
        have e6 := HT2.out.cell k (by rw [mixL_length]; exact hlt)
        go_wp2
        go_region
        go_wp2
        have HS3 : Aside0 (BY ((wr.setCell ⟨w.heap.size + 1, k, none⟩ (.int .u8 ((M.F1 f k : Nat) : Int))).drew) w.heap.size 65 (L16 f)) := ⟨HS2.out.same ((grownBy_set wr (w.heap.size + 1) k _).block _ HS2.out.lt (by simp))⟩
        exact ⟨⟨k + 1, hlt, by go_num, HS3, ⟨by rw [← mixL_set]; exact (HT2.out.set k _).drew⟩, ⟨below_drew1 (below_set HB2.out (by omega))⟩⟩, by simp [intOf]; omega⟩
      · obtain rfl : k = 16 := by omega
        have HT3 : Aside0 (BY wr (w.heap.size + 1) 65 (L16 (M.F1 f))) := ⟨by rw [L16_C, ← mixL_all _ (C16 y)]; exact HT2.out⟩
        clear HT2 hlt hk
        have hkl := HK0.out i hi2
        have d1 : wr.cell? ⟨g, 1, none⟩ = some (.slice (some ⟨gk, 0, none⟩) ks.length cap) := pw_cell_below HB2.out HC1.out
        have d2 : wr.cell? ⟨gk, i, none⟩ = some (.string (kAt ks i)) := pw_cell_below HB2.out (HSR.out.at_ i hi2)
        by_cases hlast : i = ks.length - 1
        · have hI : ((i : Int) == ((ks.length : Int) - 1)) = true := beq_iff_eq.mpr (by omega)
          have d3 : wr.cell? ⟨gk, ks.length - 1, none⟩ = some (.string (kAt ks (ks.length - 1))) := by rw [← hlast]; exact d2
          have HEND : Aside0 (M.T (fun q => M.F1 f q ^^^ M.bb (kAt ks (ks.length - 1)) q) = M.encT ks s) := ⟨by
            rw [← hlast, ← M.do_last HF.out hkl, ← HE.out, drop_at hi2, hlast, show ks.length - 1 + 1 = ks.length by omega, List.drop_length]
            rfl⟩
          rw [hlast] at hkl
          have HKL := Aside0.mk hkl
          clear d2 hlast HE hkl
          go_wp2_with (go_at_call 194; (with_reducible refine (add_both (w0 := w) _ (M.F1_lt f) HT3.out HS2.out (by omega) HB2.out (by omega) HKL.out).mono ?_); rintro e W3 ⟨rfl, hs3, ht3, hb3⟩; have hcv := conv_L16 hs3; have HB3 := Aside0.mk hb3; clear hs3 ht3 hb3)
          go_ret2
          exact ⟨by rw [← HEND.out]; simp, HB3.out⟩
        · have hI : ((i : Int) == ((ks.length : Int) - 1)) = false := beq_eq_false_iff_ne.mpr (by omega)
          have hi3 : i + 1 < ks.length := by omega
          clear hlast
          go_wp2
          go_loopw [12] (fun kv wr => ∃ c : Nat, c ≤ 4 ∧ kv = .int .i64 ((4 * c : Nat) : Int) ∧ Aside0 (BY wr w.heap.size 65 (mixL (4 * c) (C16 (M.MX (M.F1 f))) (C16 f))) ∧ Aside0 (BY wr (w.heap.size + 1) 65 (L16 (M.F1 f))) ∧ Aside0 (Below w.heap.size w wr)) (fun kv _ => 16 - (intOf kv).toNat)
          case atStart => exact ⟨0, Nat.zero_le _, rfl, ⟨by rw [Nat.mul_zero, mixL_zero]; exact HS2.out⟩, HT3, HB2⟩
          case round =>
            clear HS2 HT3 HB2 d1 d2
            obtain ⟨c, hc, rfl, HS2, HT2, HB2⟩ := hrel
            by_cases hlc : c < 4
            · have a0 := HT2.out.cell (4 * c) (by rw [L16_length]; omega)
              have a1 := HT2.out.cell (4 * c + 1) (by rw [L16_length]; omega)
              have a2 := HT2.out.cell (4 * c + 2) (by rw [L16_length]; omega)
              have a3 := HT2.out.cell (4 * c + 3) (by rw [L16_length]; omega)
              rw [L16_get _ _ (by omega)] at a0 a1 a2 a3
              have x1 := M.bx (M.F1_lt f (4 * c)) (M.F1_lt f (4 * c + 1))
              have x2 := M.bx (xor_lt (M.F1_lt f (4 * c)) (M.F1_lt f (4 * c + 1))) (M.F1_lt f (4 * c + 2))
              have x3 := M.bx (xor_lt (xor_lt (M.F1_lt f (4 * c)) (M.F1_lt f (4 * c + 1))) (M.F1_lt f (4 * c + 2))) (M.F1_lt f (4 * c + 3))
              go_wp2
              go_region
              clear a0 a1 a2 a3 x1 x2 x3
              have HS3 := Aside0.mk HS2.out.drew
              have HT3 := Aside0.mk HT2.out.drew
              have HB3 := Aside0.mk (below_drew1 HB2.out)
              clear HS2 HT2 HB2
              generalize hA : M.F1 f (4 * c) ^^^ M.F1 f (4 * c + 1) ^^^ M.F1 f (4 * c + 2) ^^^ M.F1 f (4 * c + 3) = A
              have hAl : A < 256 := by rw [← hA]; exact xor_lt (xor_lt (xor_lt (M.F1_lt f _) (M.F1_lt f _)) (M.F1_lt f _)) (M.F1_lt f _)
              have HA := Aside0.mk hA
              clear hA
              go_wp2
              go_loopw [83] (fun jv wr => ∃ j : Nat, j ≤ 4 ∧ jv = .int .i64 j ∧ Aside0 (BY wr w.heap.size 65 (mixL (4 * c + j) (C16 (M.MX (M.F1 f))) (C16 f))) ∧ Aside0 (BY wr (w.heap.size + 1) 65 (L16 (M.F1 f))) ∧ Aside0 (Below w.heap.size w wr)) (fun jv _ => 4 - (intOf jv).toNat)
              case atStart => exact ⟨0, Nat.zero_le _, rfl, HS3, HT3, HB3⟩
              case round =>
                clear HS3 HT3 HB3
                obtain ⟨j, hj, rfl, HS2, HT2, HB2⟩ := hrel
                by_cases hlj : j < 4
                · have hm : (j + 1) % 4 < 4 := Nat.mod_lt _ (by omega)
                  have a0 := HT2.out.cell (4 * c + j) (by rw [L16_length]; omega)
                  have a1 := HT2.out.cell (4 * c + (j + 1) % 4) (by rw [L16_length]; omega)
                  rw [L16_get _ _ (by omega)] at a0 a1
                  have l0 := M.F1_lt f (4 * c + j)
                  have l1 := M.F1_lt f (4 * c + (j + 1) % 4)
                  have x0 := M.bx l0 hAl
                  have x1 := M.bx l0 l1
                  have lx := xor_lt l0 l1
                  have e2 : wr.cell? ⟨g, 2, none⟩ = some (.pointer (some ⟨gt, 0, none⟩)) := pw_cell_below HB2.out HC2.out
                  have e4 := (HT.out.below HB2.out).cell (256 * 2 + (M.F1 f (4 * c + j) ^^^ M.F1 f (4 * c + (j + 1) % 4))) (by rw [tabR_length]; omega)
                  rw [tab_oth 2 _ (by omega) (by omega) lx, show tabF 2 (M.F1 f (4 * c + j) ^^^ M.F1 f (4 * c + (j + 1) % 4)) = xt (M.F1 f (4 * c + j) ^^^ M.F1 f (4 * c + (j + 1) % 4)) from rfl, show 256 * 2 = 512 from rfl] at e4
                  have x2 := M.bx (xor_lt l0 hAl) (xt_lt lx)
                  have hmx := M.mxA_MX (M.F1_lt f) c j hlj
                  unfold M.mxA at hmx
                  rw [HA.out] at hmx
                  rw [hmx] at x2
                  have e5 := HS2.out.frozen (4 * c + j)
                  have e6 := HS2.out.cell (4 * c + j) (by rw [mixL_length]; omega)
                  clear hmx
                  go_wp2
                  go_region
                  go_wp2
                  have HT3 : Aside0 (BY ((wr.setCell ⟨w.heap.size, 4 * c + j, none⟩ (.int .u8 ((M.MX (M.F1 f) (4 * c + j) : Nat) : Int))).drew) (w.heap.size + 1) 65 (L16 (M.F1 f))) := ⟨HT2.out.same ((grownBy_set wr w.heap.size (4 * c + j) _).block _ HT2.out.lt (by simp))⟩
                  exact ⟨⟨j + 1, hlj, by go_num, ⟨by rw [← Nat.add_assoc, ← mixL_set]; exact (HS2.out.set (4 * c + j) _).drew⟩, HT3, ⟨below_drew1 (below_set HB2.out (Nat.le_refl _))⟩⟩, by simp [intOf]; omega⟩
                · obtain rfl : j = 4 := by omega
                  go_wp2
                  exact ⟨⟨c + 1, hlc, by go_num, by rw [Nat.mul_succ]; exact HS2, HT2, HB2⟩, by simp [intOf]; omega⟩
            · obtain rfl : c = 4 := by omega
              have hs4 : BY wr w.heap.size 65 (L16 (M.MX (M.F1 f))) := by rw [L16_C, ← mixL_all _ (C16 f)]; exact HS2.out
              have HS4 := Aside0.mk hs4
              have HE4 : Aside0 (M.fwd (ks.drop (i + 1)) (M.T (fun q => M.MX (M.F1 f) q ^^^ M.bb (kAt ks i) q)) = M.encT ks s) := ⟨by
                rw [← HE.out, drop_at hi2, ← M.do_mid HF.out hkl, drop_at hi3]
                rfl⟩
              have HF4 : Aside0 (∀ q, (fun q => M.MX (M.F1 f) q ^^^ M.bb (kAt ks i) q) q < 256) := ⟨fun q => xor_lt (M.MX_lt (M.F1_lt f) _) (M.bb_lt _ _)⟩
              have HKL := Aside0.mk hkl
              have d1 : wr.cell? ⟨g, 1, none⟩ = some (.slice (some ⟨gk, 0, none⟩) ks.length cap) := pw_cell_below HB2.out HC1.out
              have d2 : wr.cell? ⟨gk, i, none⟩ = some (.string (kAt ks i)) := pw_cell_below HB2.out (HSR.out.at_ i hi2)
              clear hs4 HS2 HE HF hkl
              go_wp2_with (go_at_call 194; (with_reducible refine (add_both (w0 := w) _ (M.MX_lt (M.F1_lt f)) HS4.out HT2.out (by omega) HB2.out (Nat.le_refl _) HKL.out).mono ?_); rintro e W3 ⟨rfl, hs3, ht3, hb3⟩; have HS5 := Aside0.mk hs3; have HT5 := Aside0.mk ht3; have HB5 := Aside0.mk hb3; clear hs3 ht3 hb3)
              exact ⟨⟨i + 1, _, _, by omega, by omega, by go_num, HF4, HE4, HS5, HT5, HB5⟩, by simp [intOf]; omega⟩
end Go.Proofs.Ytokkhnjedmlbhaa.Pr
end
