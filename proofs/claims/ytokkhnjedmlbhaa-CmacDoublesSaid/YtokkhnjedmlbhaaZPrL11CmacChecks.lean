-- several texts in one (by the session's program shake.py)
import Derived.Test.YtokkhnjedmlbhaaZPrg11
import Derived.Test.YtokkhnjedmlbhaaZSchedP
import Derived.Test.YtokkhnjedmlbhaaZPrg01x
import Derived.Test.YtokkhnjedmlbhaaZShelf
import Derived.Laws.BitsAllLaws
section
namespace Go.Proofs.Ytokkhnjedmlbhaa.M
open Go.RowKit Go.Proofs.Ytokkhnjedmlbhaa.Pr Go.Proofs.YtokkhnjedmlbhaaW.PrintWords Go.Proofs.YtokkhnjedmlbhaaW.PrintLast Go.Proofs.YtokkhnjedmlbhaaW.PrintMore Go.Proofs.YtokkhnjedmlbhaaGf
set_option linter.unusedSimpArgs false
theorem bb_ext (s : ByteArray) (a j i : Nat) (_hj : j ≤ s.size) (hi : a + i < j) : bb (s.extract a j) i = bb s (a + i) := by
  rw [bb_nb, bb_nb, extract_nb, nb_mkB (isB_drop (isB_take (isB_nb s) _) _)]
  rw [List.getD_eq_getElem?_getD, List.getD_eq_getElem?_getD, List.getElem?_drop, List.getElem?_take_of_lt hi]
def be8 (g : Nat → Nat) : Nat := ((((((g 0 * 256 + g 1) * 256 + g 2) * 256 + g 3) * 256 + g 4) * 256 + g 5) * 256 + g 6) * 256 + g 7
theorem beT8 (s : ByteArray) : beT s 8 = be8 (bb s) := by simp [beT, be8]
def l8 (u : Nat) : List Nat := [u / 72057594037927936 % 256, u / 281474976710656 % 256, u / 1099511627776 % 256, u / 4294967296 % 256, u / 16777216 % 256, u / 65536 % 256, u / 256 % 256, u % 256]
theorem put8 (u : Nat) : octets_Put.f (u : Int) 8 = some (mkB (l8 u)) := by
  unfold octets_Put.f
  rw [if_neg (by decide), if_neg (by decide)]
  rfl
theorem be8_lt (g : Nat → Nat) (h : ∀ i, g i < 256) : be8 g < 18446744073709551616 := by
  have h0 := h 0; have h1 := h 1; have h2 := h 2; have h3 := h 3; have h4 := h 4; have h5 := h 5; have h6 := h 6; have h7 := h 7
  unfold be8
  omega
/-- The bytes of twice a number of eight bytes, and one bit. -/
theorem l8_twice (g : Nat → Nat) (h : ∀ i, g i < 256) (c : Nat) (hc : c < 2) : l8 (2 * (be8 g % 9223372036854775808) + c) = [2 * g 0 % 256 + g 1 / 128, 2 * g 1 % 256 + g 2 / 128, 2 * g 2 % 256 + g 3 / 128, 2 * g 3 % 256 + g 4 / 128, 2 * g 4 % 256 + g 5 / 128, 2 * g 5 % 256 + g 6 / 128, 2 * g 6 % 256 + g 7 / 128, 2 * g 7 % 256 + c] := by
  have h0 := h 0; have h1 := h 1; have h2 := h 2; have h3 := h 3; have h4 := h 4; have h5 := h 5; have h6 := h 6; have h7 := h 7
  unfold l8 be8
  generalize g 0 = a at *; generalize g 1 = b at *; generalize g 2 = c at *; generalize g 3 = d at *; generalize g 4 = e at *; generalize g 5 = p at *; generalize g 6 = q at *; generalize g 7 = r at *
  simp only [List.cons.injEq, and_true]
  refine ⟨by omega, by omega, by omega, by omega, by omega, by omega, by omega, by omega⟩
theorem be8_top (g : Nat → Nat) (h : ∀ i, g i < 256) : be8 g / 9223372036854775808 = g 0 / 128 := by
  have h0 := h 0; have h1 := h 1; have h2 := h 2; have h3 := h 3; have h4 := h 4; have h5 := h 5; have h6 := h 6; have h7 := h 7
  unfold be8
  generalize g 0 = a at *; generalize g 1 = b at *; generalize g 2 = c at *; generalize g 3 = d at *; generalize g 4 = e at *; generalize g 5 = p at *; generalize g 6 = q at *; generalize g 7 = r at *
  omega
theorem l8_xor (u e : Nat) (he : e < 256) : l8 (u ^^^ e) = [u / 72057594037927936 % 256, u / 281474976710656 % 256, u / 1099511627776 % 256, u / 4294967296 % 256, u / 16777216 % 256, u / 65536 % 256, u / 256 % 256, (u % 256) ^^^ e] := by
  have x (k : Nat) := xor_div_mod u e k
  have h7 := x 56; have h6 := x 48; have h5 := x 40; have h4 := x 32; have h3 := x 24; have h2 := x 16; have h1 := x 8; have h0 := x 0
  simp only [Nat.reducePow, Nat.div_one] at h0 h1 h2 h3 h4 h5 h6 h7
  unfold l8
  rw [h7, h6, h5, h4, h3, h2, h1, h0, Nat.mod_eq_of_lt he, Nat.div_eq_of_lt (show e < 72057594037927936 by omega), Nat.div_eq_of_lt (show e < 281474976710656 by omega), Nat.div_eq_of_lt (show e < 1099511627776 by omega), Nat.div_eq_of_lt (show e < 4294967296 by omega), Nat.div_eq_of_lt (show e < 16777216 by omega), Nat.div_eq_of_lt (show e < 65536 by omega), Nat.div_eq_of_lt he]
  simp only [Nat.zero_mod, Nat.xor_zero]
theorem dbl_c (b : ByteArray) : Ev (fun k => cmac_Double.f k b) (dblT b) := by
  unfold cmac_Double.f dblT
  by_cases hs : b.size = 16
  · rw [if_pos hs]
    have hb := bb_lt b
    have s1 : (b.extract 0 8).size = 8 := by rw [ByteArray.size_extract]; omega
    have s2 : (b.extract 8 b.size).size = 8 := by rw [ByteArray.size_extract]; omega
    have g1 := get_c (b.extract 0 8) (by omega) (by omega)
    have g2 := get_c (b.extract 8 b.size) (by omega) (by omega)
    rw [s1, beT8] at g1
    rw [s2, beT8] at g2
    have e1 : be8 (bb (b.extract 0 8)) = be8 (bb b) := by
      unfold be8
      rw [bb_ext b 0 8 0 (by omega) (by omega), bb_ext b 0 8 1 (by omega) (by omega), bb_ext b 0 8 2 (by omega) (by omega), bb_ext b 0 8 3 (by omega) (by omega), bb_ext b 0 8 4 (by omega) (by omega), bb_ext b 0 8 5 (by omega) (by omega), bb_ext b 0 8 6 (by omega) (by omega), bb_ext b 0 8 7 (by omega) (by omega)]
    have e2 : be8 (bb (b.extract 8 b.size)) = be8 (fun i => bb b (8 + i)) := by
      unfold be8
      rw [bb_ext b 8 b.size 0 (by omega) (by omega), bb_ext b 8 b.size 1 (by omega) (by omega), bb_ext b 8 b.size 2 (by omega) (by omega), bb_ext b 8 b.size 3 (by omega) (by omega), bb_ext b 8 b.size 4 (by omega) (by omega), bb_ext b 8 b.size 5 (by omega) (by omega), bb_ext b 8 b.size 6 (by omega) (by omega), bb_ext b 8 b.size 7 (by omega) (by omega)]
    rw [e1] at g1
    rw [e2] at g2
    have hH := be8_lt (bb b) hb
    have hL := be8_lt (fun i => bb b (8 + i)) (fun i => hb _)
    have t1 := be8_top (bb b) hb
    have t2 := be8_top (fun i => bb b (8 + i)) (fun i => hb _)
    have w1 := l8_twice (bb b) hb (bb b 8 / 128) (by have := hb 8; omega)
    have w2 := l8_twice (fun i => bb b (8 + i)) (fun i => hb _) 0 (by omega)
    simp only [Nat.add_zero] at t2
    have c0 : bb b 0 / 128 < 2 := by have := hb 0; omega
    have c8 : bb b 8 / 128 < 2 := by have := hb 8; omega
    have a1 : Go.bits .or .u64 (IntKind.u64.wrap (((be8 (bb b) : Nat) : Int) * 2)) (((be8 (fun i => bb b (8 + i)) : Nat) : Int) / 9223372036854775808) = ((2 * (be8 (bb b) % 9223372036854775808) + bb b 8 / 128 : Nat) : Int) := by
      rw [show IntKind.u64.wrap (((be8 (bb b) : Nat) : Int) * 2) = ((2 ^ 1 * (be8 (bb b) % 9223372036854775808) : Nat) : Int) by rw [IntKind.wrap_u64]; omega, show (((be8 (fun i => bb b (8 + i)) : Nat) : Int) / 9223372036854775808) = ((bb b 8 / 128 : Nat) : Int) by rw [← t2]; omega, u64_or_nat _ _ (by omega) (by omega), or_add (by omega)]
    have a2 : Go.bits .xor .u64 (IntKind.u64.wrap (((be8 (fun i => bb b (8 + i)) : Nat) : Int) * 2)) (IntKind.u64.wrap ((((be8 (bb b) : Nat) : Int) / 9223372036854775808) * 135)) = (((2 * (be8 (fun i => bb b (8 + i)) % 9223372036854775808) + 0) ^^^ (bb b 0 / 128 * 135) : Nat) : Int) := by
      rw [show IntKind.u64.wrap (((be8 (fun i => bb b (8 + i)) : Nat) : Int) * 2) = ((2 * (be8 (fun i => bb b (8 + i)) % 9223372036854775808) + 0 : Nat) : Int) by rw [IntKind.wrap_u64]; omega, show IntKind.u64.wrap ((((be8 (bb b) : Nat) : Int) / 9223372036854775808) * 135) = ((bb b 0 / 128 * 135 : Nat) : Int) by rw [IntKind.wrap_u64, ← t1]; omega, u64_xor_nat _ _ (by omega) (by omega)]
    refine evp (by omega) (evp (by decide) (evp (by omega) (evb g1 (evb g2 ?_))))
    simp only []
    rw [a1, a2, put8, put8]
    simp only [Option.bind_some]
    rw [if_pos (by rw [mkB_size, mkB_size]; show 8 + 8 ≤ _; omega), mkB_append, l8_xor _ _ (by omega)]
    have w3 := w2
    unfold l8 at w3
    simp only [List.cons.injEq, and_true] at w3
    obtain ⟨q0, q1, q2, q3, q4, q5, q6, q7⟩ := w3
    rw [q0, q1, q2, q3, q4, q5, q6, q7, w1]
    exact Ev.now _
  · rw [if_neg hs]
    exact evn (by omega) (Ev.now _)
theorem ext_ext (s : ByteArray) (a n : Nat) : (s.extract a s.size).extract 0 n = s.extract a (a + n) := by
  rw [extract_nb, extract_nb, extract_nb, nb_mkB (isB_drop (isB_take (isB_nb s) _) _)]
  congr 1
  rw [List.drop_zero, List.take_of_length_le (l := nb s) (by rw [nb_length]; exact Nat.le_refl _), List.drop_take]
  congr 1
  omega
theorem ext_tail (s : ByteArray) (a n : Nat) : (s.extract a s.size).extract n (s.extract a s.size).size = s.extract (a + n) s.size := by
  rw [extract_nb, extract_nb, extract_nb, nb_mkB (isB_drop (isB_take (isB_nb s) _) _)]
  congr 1
  rw [List.take_of_length_le (l := nb s) (by rw [nb_length]; exact Nat.le_refl _), List.take_of_length_le (by rw [mkB_size]; exact Nat.le_refl _), List.drop_drop]
theorem ext_clip (s : ByteArray) (a b : Nat) (h : s.size ≤ b) : s.extract a b = s.extract a s.size := by
  rw [extract_nb, extract_nb]
  congr 2
  rw [List.take_of_length_le (by rw [nb_length]; exact h), List.take_of_length_le (by rw [nb_length]; exact Nat.le_refl _)]
theorem pcs_snoc (n m : Nat) (s : ByteArray) : pcs n (m + 1) s = pcs n m s ++ [s.extract (n * m) (n * m + n)] := by
  unfold pcs; rw [List.range_succ, List.map_append]; rfl
theorem piecesGL (n : Nat) (s : ByteArray) (m : Nat) (h1 : n * m < s.size) (h2 : s.size ≤ n * m + n) (hm : m < 1000000) (d : Nat) : ∀ i, m - i = d → i ≤ m → Ev (fun k => octets_Pieces.l0 k (s.extract (n * i) s.size) (n : Int) (pcs n i s)) (pcs n (m + 1) s) := by
  induction d with
  | zero =>
    intro i hd hi
    obtain rfl : i = m := by omega
    refine Ev.step (f := fun _ => some (pcs n i s ++ [s.extract (n * i) s.size])) (fun k => ?_) ?_
    · simp only [octets_Pieces.l0]
      rw [if_neg (by rw [ByteArray.size_extract]; omega), if_pos (by rw [pcs_length]; omega)]
    · rw [pcs_snoc, ext_clip s _ (n * i + n) h2]
      exact Ev.now _
  | succ d ih =>
    intro i hd hi
    have hh := ih (i + 1) (by omega) (by omega)
    have hle : n * (i + 1) ≤ n * m := Nat.mul_le_mul_left n (by omega)
    rw [Nat.mul_succ] at hle
    rw [pcs_snoc, Nat.mul_succ] at hh
    refine Ev.step (fun k => ?_) hh
    simp only [octets_Pieces.l0]
    rw [if_pos (by rw [ByteArray.size_extract]; omega), if_pos (by omega), if_pos (by rw [ByteArray.size_extract]; omega), if_pos (by rw [pcs_length]; omega), Int.toNat_natCast, ext_ext, ext_tail]
/-- Any text's pieces. -/
theorem piecesG (n : Nat) (hn : 0 < n) (hn2 : n ≤ 1000) (s : ByteArray) (m : Nat) (h1 : n * m < s.size) (h2 : s.size ≤ n * m + n) (hm : m < 1000000) : Ev (fun k => octets_Pieces.f k s (n : Int)) (pcs n (m + 1) s) := by
  have hd : s.size / n ≤ s.size := Nat.div_le_self _ _
  have hb : n * m ≤ 1000 * m := Nat.mul_le_mul_right m hn2
  have e : ((s.size : Int) / (n : Int)) = ((s.size / n : Nat) : Int) := by rw [Int.natCast_ediv]
  unfold octets_Pieces.f
  refine evn (by omega) ?_
  rw [toList_ne (by omega)]
  have hh := piecesGL n s m h1 h2 hm _ 0 rfl (by omega)
  rw [Nat.mul_zero, ext_all] at hh
  refine Ev.step (fun k => ?_) hh
  simp only [octets_Pieces.j0]
  rw [if_neg (by simp), if_neg (by omega), e]
  generalize s.size / n = q at *
  rw [wrap_id (x := (q : Int)) (by omega) (by omega), wrap_id (by omega) (by omega), if_pos (by omega), if_pos (by omega)]
  rfl
theorem pieces0 (n : Int) : Ev (fun k => octets_Pieces.f k ⟨#[]⟩ n) [] := by
  unfold octets_Pieces.f
  by_cases h : n < 1
  · exact evp h (Ev.step (f := fun _ => some []) (fun k => by simp only [octets_Pieces.j0]; rw [if_pos True.intro]) (Ev.now _))
  · exact evn h (Ev.step (f := fun _ => some []) (fun k => by simp only [octets_Pieces.j0]; rw [if_pos (by decide +kernel)]) (Ev.now _))
def zeros (z : Nat) : ByteArray := mkB (List.replicate z 0)
def padT (s : ByteArray) (n : Nat) : ByteArray := s ++ zeros ((n - s.size % n) % n)
theorem zeros_c (z : Nat) (hz : z ≤ 65552) : octets_Zeros.f (z : Int) = some (zeros z) := by
  unfold octets_Zeros.f
  by_cases h : z = 0
  · subst h; rw [if_pos (by decide)]; rfl
  · rw [if_neg (by omega), if_neg (by omega), if_pos (by omega), if_pos (by omega), Int.toNat_natCast]
    unfold zeros
    rw [← strOfNums_cast, List.map_replicate]
    rfl
theorem zeros_size (z : Nat) : (zeros z).size = z := by unfold zeros; rw [mkB_size, List.length_replicate]
theorem pad_c (s : ByteArray) (n : Nat) (h1 : 1 ≤ n) (h2 : n ≤ 65535) (hs : s.size < 1000000000) : octets_Pad.f s (n : Int) = some (padT s n) := by
  have hm : s.size % n < n := Nat.mod_lt _ h1
  have hz : (n - s.size % n) % n < n := Nat.mod_lt _ h1
  have e : Int.tmod (wrap64 ((n : Int) - ((s.size : Int) % (n : Int)))) (n : Int) = (((n - s.size % n) % n : Nat) : Int) := by
    rw [show (s.size : Int) % (n : Int) = ((s.size % n : Nat) : Int) from (Int.natCast_emod _ _).symm]
    generalize s.size % n = q at *
    rw [wrap_id (by omega) (by omega), show ((n : Int) - (q : Int)) = ((n - q : Nat) : Int) by omega, Int.tmod_eq_emod_of_nonneg (by omega), ← Int.natCast_emod]
  unfold octets_Pad.f
  rw [if_neg (by omega), if_neg (by omega), if_neg (by omega), e, zeros_c _ (by omega)]
  simp only [Option.bind_some]
  rw [if_pos (by rw [zeros_size]; omega)]
  rfl
end Go.Proofs.Ytokkhnjedmlbhaa.M
end
section
namespace Go.Proofs.Ytokkhnjedmlbhaa.M
open Go.RowKit Go.Proofs.Ytokkhnjedmlbhaa.Pr Go.Proofs.YtokkhnjedmlbhaaW.PrintWords Go.Proofs.YtokkhnjedmlbhaaW.PrintLast Go.Proofs.YtokkhnjedmlbhaaW.PrintMore Go.Proofs.YtokkhnjedmlbhaaGf
/-- What last blocks are added to. -/
def k1T (ks : List ByteArray) : ByteArray := dblT (encT ks (zeros 16))
def k2T (ks : List ByteArray) : ByteArray := dblT (k1T ks)
/-- The place of the last block. -/
def endI (n : Nat) : Nat := (n - 1) / 16
def lastX (r a b : ByteArray) : ByteArray := if r.size = 16 then xorT r a else xorT (padT (r ++ (⟨#[128]⟩ : ByteArray)) 16) b
def lastT (ks : List ByteArray) (s : ByteArray) : ByteArray := lastX (s.extract (16 * endI s.size) (16 * endI s.size + 16)) (k1T ks) (k2T ks)
def blkT (ks : List ByteArray) (s : ByteArray) (j : Nat) : ByteArray := if j = endI s.size then lastT ks s else s.extract (16 * j) (16 * j + 16)
def zJ (ks : List ByteArray) (s : ByteArray) : Nat → ByteArray
  | 0 => zeros 16
  | j + 1 => encT ks (xorT (zJ ks s j) (blkT ks s j))
def tagT (ks : List ByteArray) (s : ByteArray) : ByteArray := zJ ks s (endI s.size + 1)
theorem dblT_size {b : ByteArray} (h : b.size = 16) : (dblT b).size = 16 := by unfold dblT; rw [if_pos h, T_size]
theorem k1_size {ks : List ByteArray} (h : all16 ks) : (k1T ks).size = 16 := dblT_size (enc_size h (zeros_size 16))
theorem k2_size {ks : List ByteArray} (h : all16 ks) : (k2T ks).size = 16 := dblT_size (k1_size h)
theorem padT_size (s : ByteArray) (h : s.size ≤ 16) (h0 : 0 < s.size) : (padT s 16).size = 16 := by
  unfold padT
  rw [ByteArray.size_append, zeros_size]
  omega
theorem lastX_size {r a b : ByteArray} (hr : r.size ≤ 16) (ha : a.size = 16) (hb : b.size = 16) : (lastX r a b).size = 16 := by
  unfold lastX
  split
  · rw [xorT_size]; omega
  · have h1 : (r ++ (⟨#[128]⟩ : ByteArray)).size = r.size + 1 := by rw [ByteArray.size_append]; rfl
    rw [xorT_size, padT_size _ (by omega) (by omega), hb]; rfl
theorem end_le (n : Nat) : 16 * endI n ≤ n ∧ n ≤ 16 * endI n + 16 := by unfold endI; omega
theorem lastT_size {ks : List ByteArray} (h : all16 ks) (s : ByteArray) : (lastT ks s).size = 16 :=
  lastX_size (by rw [ByteArray.size_extract]; omega) (k1_size h) (k2_size h)
theorem blkT_size {ks : List ByteArray} (h : all16 ks) (s : ByteArray) (j : Nat) (hj : j ≤ endI s.size) : (blkT ks s j).size = 16 := by
  have := end_le s.size
  unfold blkT
  split
  · exact lastT_size h s
  · rw [ByteArray.size_extract]; omega
theorem zJ_size {ks : List ByteArray} (h : all16 ks) (s : ByteArray) : ∀ j, j ≤ endI s.size + 1 → (zJ ks s j).size = 16
  | 0, _ => zeros_size 16
  | j + 1, hj => enc_size h (by rw [xorT_size, zJ_size h s j (by omega), blkT_size h s j (by omega)]; rfl)
theorem pcs_getE (s : ByteArray) : (pcs 16 (endI s.size + 1) s)[endI s.size]? = some (s.extract (16 * endI s.size) (16 * endI s.size + 16)) := by
  generalize endI s.size = n
  simp [pcs]
theorem last_c (r a b : ByteArray) (hr : r.size ≤ 16) (ha : a.size = 16) (hb : b.size = 16) : cmac_last.f r a b = some (lastX r a b) := by
  unfold cmac_last.f lastX
  by_cases h : r.size = 16
  · rw [if_pos (by omega), if_pos h, xor_c _ _ (by omega)]; rfl
  · have h1 : (r ++ (⟨#[128]⟩ : ByteArray)).size = r.size + 1 := by rw [ByteArray.size_append]; rfl
    have h2 := pad_c (r ++ (⟨#[128]⟩ : ByteArray)) 16 (by omega) (by omega) (by omega)
    rw [if_neg (by omega), if_neg h, if_pos (by omega)]
    rw [show octets_Pad.f (r ++ (⟨#[128]⟩ : ByteArray)) 16 = some (padT (r ++ (⟨#[128]⟩ : ByteArray)) 16) from h2]
    simp only [Option.bind_some]
    rw [xor_c _ _ (by omega)]; rfl
end Go.Proofs.Ytokkhnjedmlbhaa.M
namespace Go.Proofs.Ytokkhnjedmlbhaa.Pr
open Go.RowKit Go.Proofs.YtokkhnjedmlbhaaW.PrintWords Go.Proofs.YtokkhnjedmlbhaaW.PrintLast Go.Proofs.YtokkhnjedmlbhaaW.PrintMore Go.Proofs.YtokkhnjedmlbhaaHw Go.Proofs.YtokkhnjedmlbhaaGf
theorem StrRow.set {w : World} {g : Nat} {ps : List ByteArray} (h : StrRow w g ps) (j : Nat) (hj : j < ps.length) (x : ByteArray) : StrRow (w.setCell ⟨g, j, none⟩ (.string x)) g (ps.set j x) := by
  obtain ⟨cur, h1, h2⟩ := h
  have hc : j < cur.size := by
    have := h2 j ps[j] (List.getElem?_eq_getElem hj)
    exact (Array.getElem?_eq_some_iff.1 this).1
  refine ⟨_, blk_set h1 j (.string x), fun i y hi => ?_⟩
  rw [List.getElem?_set] at hi
  rw [Array.getElem?_setIfInBounds]
  by_cases e : j = i
  · subst e
    rw [if_pos rfl, if_pos hj] at hi
    rw [if_pos rfl, if_pos hc]
    rw [Option.some.inj hi]
  · rw [if_neg e] at hi
    rw [if_neg e]
    exact h2 i y hi
theorem StrRow.frozen {w : World} {g : Nat} {ps : List ByteArray} (h : StrRow w g ps) (j : Nat) : w.frozen? ⟨g, j, none⟩ = false := by
  obtain ⟨cur, h1, _⟩ := h
  exact blk_frozen h1 j
theorem subkeys_c (g : Nat) (key : ByteArray) (w : World) (hC : IsK w g key) (hk : M.okN key.size) :
    Calls Try.prog 196 #[.pointer (some ⟨g, 0, none⟩)] w fun e w' => e = .returned (.tuple #[.string (M.k1T (M.ksB key)), .string (M.k2T (M.ksB key))]) ∧ Below w.heap.size w w' := by
  obtain ⟨q1, hq1⟩ := Ev.rounds (M.dbl_c (M.encT (M.ksB key) (M.zeros 16)))
  obtain ⟨q2, hq2⟩ := Ev.rounds (M.dbl_c (M.k1T (M.ksB key)))
  have HQ1 : Aside0 (cmac_Double.f q1 (M.encT (M.ksB key) (M.zeros 16)) = some (M.k1T (M.ksB key))) := ⟨hq1⟩
  have HQ2 : Aside0 (cmac_Double.f q2 (M.k1T (M.ksB key)) = some (M.k2T (M.ksB key))) := ⟨hq2⟩
  have HZ : Aside0 (octets_Zeros.f 16 = some (M.zeros 16)) := ⟨M.zeros_c 16 (by omega)⟩
  have HE : Aside0 (M.encR key (M.zeros 16) = (M.encT (M.ksB key) (M.zeros 16), 0)) := ⟨by unfold M.encR; rw [if_pos (M.zeros_size 16)]⟩
  have HC := Aside0.mk hC
  have HK := Aside0.mk hk
  clear hq1 hq2 hC hk
  go_enter Try.func196, Try.ntmps196
  go_wp2_with (first | (go_at_call 198; (with_reducible refine (octets_Zeros.calls _ _ _ HZ.out).mono ?_); rintro e w1 ⟨rfl, hb1⟩; have HB1 := Aside0.mk hb1; clear hb1) | (go_at_call 106; (with_reducible refine (enc_any g key _ _ (HC.out.below HB1.out) HK.out).mono ?_); rintro e w2 ⟨rfl, hb2⟩; rw [HE.out]; have HB2 := Aside0.mk (below_then HB1.out HB1.out.size hb2); clear hb2))
  go_wp2_with (go_at_call 108; (with_reducible refine (cmac_Double.calls q1 _ _ _ HQ1.out).mono ?_); rintro e w3 ⟨rfl, hb3⟩; have HB3 := Aside0.mk (below_then HB2.out HB2.out.size hb3); clear hb3)
  go_wp2_with (go_at_call 108; (with_reducible refine (cmac_Double.calls q2 _ _ _ HQ2.out).mono ?_); rintro e w4 ⟨rfl, hb4⟩; have HB4 := Aside0.mk (below_then HB3.out HB3.out.size hb4); clear hb4)
  go_ret2
  exact ⟨rfl, HB4.out⟩
theorem bl_get (ks : List ByteArray) (s : ByteArray) (j : Nat) (hj : j ≤ M.endI s.size) : ((M.pcs 16 (M.endI s.size + 1) s).set (M.endI s.size) (M.lastT ks s))[j]? = some (M.blkT ks s j) := by
  rw [List.getElem?_set, M.pcs_length]
  unfold M.blkT
  by_cases e : M.endI s.size = j
  · rw [if_pos e, if_pos (by omega), if_pos e.symm]
  · rw [if_neg e, if_neg (fun h => e h.symm)]
    simp [M.pcs, show j < M.endI s.size + 1 by omega]
def cmac_Tag.f (a0 a1 : ByteArray) : Option (ByteArray × Int) := if a1.size < 1000000 then some (if M.okN a0.size then (M.tagT (M.ksB a0) a1, 0) else (⟨#[]⟩, 2)) else none
set_option maxHeartbeats 4000000 in
set_option maxRecDepth 100000 in
theorem tag_0 (key : ByteArray) (w : World) (hk : M.okN key.size) :
    Calls Try.prog 110 #[.string key, .string (⟨#[]⟩ : ByteArray)] w fun e w' => e = .returned (.tuple #[.string (M.tagT (M.ksB key) (⟨#[]⟩ : ByteArray)), .int .i64 0]) ∧ Below w.heap.size w w' := by
  have HA := Aside0.mk (M.ks_facts hk).2.1
  have HK := Aside0.mk hk
  obtain ⟨kp, hp⟩ := Ev.rounds (M.pieces0 16)
  have HP := Aside0.mk hp
  have HL : Aside0 (cmac_last.f (⟨#[]⟩ : ByteArray) (M.k1T (M.ksB key)) (M.k2T (M.ksB key)) = some (M.lastT (M.ksB key) (⟨#[]⟩ : ByteArray))) := ⟨M.last_c _ _ _ (by decide) (M.k1_size HA.out) (M.k2_size HA.out)⟩
  have HG : Aside0 (∀ j, j ≤ 0 → ([M.lastT (M.ksB key) (⟨#[]⟩ : ByteArray)] : List ByteArray)[j]? = some (M.blkT (M.ksB key) (⟨#[]⟩ : ByteArray) j)) := ⟨fun j hj => by
    obtain rfl : j = 0 := by omega
    rfl⟩
  have HZ : Aside0 (octets_Zeros.f 16 = some (M.zeros 16)) := ⟨M.zeros_c 16 (by omega)⟩
  have HTG : Aside0 (M.tagT (M.ksB key) (⟨#[]⟩ : ByteArray) = M.zJ (M.ksB key) (⟨#[]⟩ : ByteArray) 1) := ⟨rfl⟩
  have HZS : Aside0 (∀ j, j ≤ 1 → (M.zJ (M.ksB key) (⟨#[]⟩ : ByteArray) j).size = 16) := ⟨M.zJ_size HA.out (⟨#[]⟩ : ByteArray)⟩
  have HBS : Aside0 (∀ j, j ≤ 0 → (M.blkT (M.ksB key) (⟨#[]⟩ : ByteArray) j).size = 16) := ⟨M.blkT_size HA.out (⟨#[]⟩ : ByteArray)⟩
  clear hp hk
  go_enter Try.func110, Try.ntmps110
  go_wp2_with (first | (go_at_call 104; (with_reducible refine (new_ok _ _ HK.out).mono ?_); rintro e w1 ⟨g, rfl, hC, hb1⟩; have HC := Aside0.mk hC; have HB1 := Aside0.mk hb1; clear hC hb1) | (go_at_call 196; (with_reducible refine (subkeys_c g key _ HC.out HK.out).mono ?_); rintro e w2 ⟨rfl, hb2⟩; have HB2 := Aside0.mk hb2; clear hb2))
  go_wp2_with (go_at_call 186; (with_reducible refine (octets_Pieces.calls kp _ 16 _ _ HP.out).mono ?_); rintro e w3 ⟨v0, rfl, hR, hb3⟩; obtain ⟨A, c, rfl, _⟩ := SR.of_R hR; have HB3 := Aside0.mk (below_then HB2.out HB2.out.size hb3); clear hb3 hR)
  have hS : StrRow (w3.alloc (.cells #[.string (⟨#[]⟩ : ByteArray)] 9)) w3.heap.size [(⟨#[]⟩ : ByteArray)] := by
    refine ⟨_, heap_alloc_new w3 _, fun j x hj => ?_⟩
    cases j with
    | zero => simpa using hj
    | succ j => simp at hj
  have hb4 : Below w1.heap.size w1 (w3.alloc (.cells #[.string (⟨#[]⟩ : ByteArray)] 9)) := below_alloc HB3.out _
  have hgb := HB3.out.size
  generalize w3.alloc (.cells #[.string (⟨#[]⟩ : ByteArray)] 9) = w4 at *
  generalize w3.heap.size = gb at *
  have HS4 := Aside0.mk hS
  have HB4 := Aside0.mk hb4
  clear hS hb4 HB3 HB2
  have hc4 := HS4.out.cell 0 _ rfl
  have hf4 := HS4.out.frozen 0
  go_wp2_with (first | (go_at_call 197; (with_reducible refine (cmac_last.calls _ _ _ _ _ HL.out).mono ?_); rintro e w5 ⟨rfl, hb5⟩; have HS5 := Aside0.mk (HS4.out.below hb5); have hf5 := HS5.out.frozen 0; have hc5 := HS5.out.cell 0 _ rfl; have HB5 := Aside0.mk (below_then HB4.out HB4.out.size hb5); clear hb5) | (go_at_call 198; (with_reducible refine (octets_Zeros.calls _ _ _ HZ.out).mono ?_); rintro e w6 ⟨rfl, hb6⟩; have HS6 := Aside0.mk ((HS5.out.set 0 (by simp) (M.lastT (M.ksB key) (⟨#[]⟩ : ByteArray))).below hb6); have HB6 := Aside0.mk (below_then (below_set HB5.out hgb) (below_set HB5.out hgb).size hb6); clear hb6))
  clear hc4 hf4 hf5 hc5 HS4 HB4 HS5 HB5 HL HZ HP
  go_loopw [12, 50] (fun xv i wr => ∃ (j : Nat), j ≤ 1 ∧ xv = .string (M.zJ (M.ksB key) (⟨#[]⟩ : ByteArray) j) ∧ i = .int .i64 j ∧ Aside0 (StrRow wr gb [M.lastT (M.ksB key) (⟨#[]⟩ : ByteArray)]) ∧ Aside0 (Below w1.heap.size w1 wr)) (fun _ i _ => 1 - (intOf i).toNat)
  case atStart => exact ⟨0, Nat.zero_le _, rfl, rfl, HS6, HB6⟩
  case round =>
    clear HS6 HB6
    obtain ⟨j, hj, rfl, rfl, HS, HB⟩ := hrel
    by_cases hlt : j < 1
    · have hcell := HS.out.cell j _ (HG.out j (by omega))
      have HX : Aside0 (octets_Xor.f (M.zJ (M.ksB key) (⟨#[]⟩ : ByteArray) j) (M.blkT (M.ksB key) (⟨#[]⟩ : ByteArray) j) = some (M.xorT (M.zJ (M.ksB key) (⟨#[]⟩ : ByteArray) j) (M.blkT (M.ksB key) (⟨#[]⟩ : ByteArray) j))) := ⟨M.xor_c _ _ (by rw [HZS.out j (by omega)]; omega)⟩
      have HE : Aside0 (M.encR key (M.xorT (M.zJ (M.ksB key) (⟨#[]⟩ : ByteArray) j) (M.blkT (M.ksB key) (⟨#[]⟩ : ByteArray) j)) = (M.zJ (M.ksB key) (⟨#[]⟩ : ByteArray) (j + 1), 0)) := ⟨by unfold M.encR; rw [if_pos (by rw [M.xorT_size, HZS.out j (by omega), HBS.out j (by omega)]; rfl)]; rfl⟩
      go_wp2_with (first | (go_at_call 170; (with_reducible refine (octets_Xor.calls _ _ _ _ HX.out).mono ?_); rintro e w7 ⟨rfl, hb7⟩; have HB7 := Aside0.mk (below_then HB.out HB.out.size hb7); have HS7 := Aside0.mk (HS.out.below hb7); clear hb7) | (go_at_call 106; (with_reducible refine (enc_any g key _ _ (HC.out.below HB7.out) HK.out).mono ?_); rintro e w8 ⟨rfl, hb8⟩; rw [HE.out]; have HB8 := Aside0.mk (below_then HB7.out HB7.out.size hb8); have HS8 := Aside0.mk (HS7.out.below hb8); clear hb8))
      exact ⟨⟨j + 1, hlt, rfl, by go_num, HS8, HB8⟩, by simp [intOf]; omega⟩
    · obtain rfl : j = 1 := by omega
      go_wp2
      go_ret2
      exact ⟨by rw [HTG.out]; rfl, HB1.out.trans (HB.out.mono HB1.out.size)⟩
set_option maxHeartbeats 4000000 in
set_option maxRecDepth 100000 in
theorem tag_n (key s : ByteArray) (w : World) (hk : M.okN key.size) (he : 0 < s.size) (hb : s.size < 1000000) :
    Calls Try.prog 110 #[.string key, .string s] w fun e w' => e = .returned (.tuple #[.string (M.tagT (M.ksB key) s), .int .i64 0]) ∧ Below w.heap.size w w' := by
  have hE := M.end_le s.size
  have HA := Aside0.mk (M.ks_facts hk).2.1
  have HK := Aside0.mk hk
  obtain ⟨kp, hp⟩ := Ev.rounds (M.piecesG 16 (by omega) (by omega) s (M.endI s.size) (by have := hE; unfold M.endI at *; omega) hE.2 (by omega))
  have HP : Aside0 (octets_Pieces.f kp s 16 = some (M.pcs 16 (M.endI s.size + 1) s)) := ⟨hp⟩
  have hpl := M.pcs_length 16 (M.endI s.size + 1) s
  have HL : Aside0 (cmac_last.f (s.extract (16 * M.endI s.size) (16 * M.endI s.size + 16)) (M.k1T (M.ksB key)) (M.k2T (M.ksB key)) = some (M.lastT (M.ksB key) s)) := ⟨M.last_c _ _ _ (by rw [ByteArray.size_extract]; omega) (M.k1_size HA.out) (M.k2_size HA.out)⟩
  have HG := Aside0.mk (bl_get (M.ksB key) s)
  have HG0 : Aside0 ((M.pcs 16 (M.endI s.size + 1) s)[M.endI s.size]? = some (s.extract (16 * M.endI s.size) (16 * M.endI s.size + 16))) := ⟨M.pcs_getE s⟩
  have HZ : Aside0 (octets_Zeros.f 16 = some (M.zeros 16)) := ⟨M.zeros_c 16 (by omega)⟩
  have HTG : Aside0 (M.tagT (M.ksB key) s = M.zJ (M.ksB key) s (M.endI s.size + 1)) := ⟨rfl⟩
  have HZS := Aside0.mk (M.zJ_size HA.out s)
  have HBS := Aside0.mk (M.blkT_size HA.out s)
  have hnb : M.endI s.size < 1000000 := by omega
  generalize M.endI s.size = n at *
  have hwn : wrap64 (n : Int) = (n : Int) := by unfold wrap64; omega
  clear hp hk he hE
  go_enter Try.func110, Try.ntmps110
  go_wp2_with (first | (go_at_call 104; (with_reducible refine (new_ok _ _ HK.out).mono ?_); rintro e w1 ⟨g, rfl, hC, hb1⟩; have HC := Aside0.mk hC; have HB1 := Aside0.mk hb1; clear hC hb1) | (go_at_call 196; (with_reducible refine (subkeys_c g key _ HC.out HK.out).mono ?_); rintro e w2 ⟨rfl, hb2⟩; have HB2 := Aside0.mk hb2; clear hb2))
  go_wp2_with (first | (go_at_call 186; (with_reducible refine (octets_Pieces.calls kp s 16 _ _ HP.out).mono ?_); rintro e w4 ⟨v0, rfl, hR, hb4⟩; obtain ⟨gb, c, rfl, hgb2, hS⟩ := StrRow.of_R hR (by rw [hpl]; omega); have hgb := Nat.le_trans HB2.out.size hgb2; have hc4 := hS.cell n _ HG0.out; have hf4 := hS.frozen n; have HS4 := Aside0.mk hS; have HB4 := Aside0.mk (below_then HB2.out HB2.out.size hb4); clear hb4 hR hS hgb2) | (go_at_call 197; (with_reducible refine (cmac_last.calls _ _ _ _ _ HL.out).mono ?_); rintro e w5 ⟨rfl, hb5⟩; have HS5 := Aside0.mk (HS4.out.below hb5); have hf5 := HS5.out.frozen n; have hc5 := HS5.out.cell n _ HG0.out; have HB5 := Aside0.mk (below_then HB4.out HB4.out.size hb5); clear hb5) | (go_at_call 198; (with_reducible refine (octets_Zeros.calls _ _ _ HZ.out).mono ?_); rintro e w6 ⟨rfl, hb6⟩; have HS6 := Aside0.mk ((HS5.out.set n (by rw [hpl]; omega) (M.lastT (M.ksB key) s)).below hb6); have HB6 := Aside0.mk (below_then (below_set HB5.out hgb) (below_set HB5.out hgb).size hb6); clear hb6))
  clear hc4 hf4 hf5 hc5 HS4 HB4 HS5 HB5 HL HG0 HZ HP HB2
  go_loopw [12, 50] (fun xv i wr => ∃ (j : Nat), j ≤ n + 1 ∧ xv = .string (M.zJ (M.ksB key) s j) ∧ i = .int .i64 j ∧ Aside0 (StrRow wr gb ((M.pcs 16 (n + 1) s).set n (M.lastT (M.ksB key) s))) ∧ Aside0 (Below w1.heap.size w1 wr)) (fun _ i _ => n + 1 - (intOf i).toNat)
  case atStart => exact ⟨0, Nat.zero_le _, rfl, rfl, HS6, HB6⟩
  case round =>
    clear HS6 HB6
    obtain ⟨j, hj, rfl, rfl, HS, HB⟩ := hrel
    by_cases hlt : j < n + 1
    · have hcell := HS.out.cell j _ (HG.out j (by omega))
      have HX : Aside0 (octets_Xor.f (M.zJ (M.ksB key) s j) (M.blkT (M.ksB key) s j) = some (M.xorT (M.zJ (M.ksB key) s j) (M.blkT (M.ksB key) s j))) := ⟨M.xor_c _ _ (by rw [HZS.out j (by omega)]; omega)⟩
      have HE : Aside0 (M.encR key (M.xorT (M.zJ (M.ksB key) s j) (M.blkT (M.ksB key) s j)) = (M.zJ (M.ksB key) s (j + 1), 0)) := ⟨by unfold M.encR; rw [if_pos (by rw [M.xorT_size, HZS.out j (by omega), HBS.out j (by omega)]; rfl)]; rfl⟩
      go_wp2_with (first | (go_at_call 170; (with_reducible refine (octets_Xor.calls _ _ _ _ HX.out).mono ?_); rintro e w7 ⟨rfl, hb7⟩; have HB7 := Aside0.mk (below_then HB.out HB.out.size hb7); have HS7 := Aside0.mk (HS.out.below hb7); clear hb7) | (go_at_call 106; (with_reducible refine (enc_any g key _ _ (HC.out.below HB7.out) HK.out).mono ?_); rintro e w8 ⟨rfl, hb8⟩; rw [HE.out]; have HB8 := Aside0.mk (below_then HB7.out HB7.out.size hb8); have HS8 := Aside0.mk (HS7.out.below hb8); clear hb8))
      exact ⟨⟨j + 1, hlt, rfl, by go_num, HS8, HB8⟩, by simp [intOf]; omega⟩
    · obtain rfl : j = n + 1 := by omega
      go_wp2
      go_ret2
      exact ⟨by rw [HTG.out]; rfl, HB1.out.trans (HB.out.mono HB1.out.size)⟩
theorem cmac_Tag.calls (a0 a1 : ByteArray) (r0 : ByteArray) (r1 : Int) (w : World) (h : cmac_Tag.f a0 a1 = some (r0, r1)) :
    Calls Try.prog 110 #[.string a0, .string a1] w fun e w' => e = .returned (.tuple #[.string r0, .int .i64 r1]) ∧ Below w.heap.size w w' := by
  unfold cmac_Tag.f at h
  split at h
  case isFalse => cases h
  case isTrue hb =>
  by_cases hk : M.okN a0.size
  · rw [if_pos hk] at h
    obtain ⟨rfl, rfl⟩ := Prod.mk.inj (Option.some.inj h)
    by_cases he : 0 < a1.size
    · exact tag_n a0 a1 w hk he hb
    · obtain rfl : a1 = ⟨#[]⟩ := by rw [← M.ext_all a1, show a1.size = 0 by omega, M.extract_nb]; rfl
      exact tag_0 a0 w hk
  · rw [if_neg hk] at h
    obtain ⟨rfl, rfl⟩ := Prod.mk.inj (Option.some.inj h)
    have HK := Aside0.mk hk
    clear h hk hb
    go_enter Try.func110, Try.ntmps110
    go_wp2_with (go_at_call 104; (with_reducible refine (new_bad _ _ HK.out).mono ?_); rintro e w1 ⟨rfl, hb1⟩; have HB := Aside0.mk hb1; clear hb1)
    go_ret2
    exact ⟨rfl, HB.out⟩
def cmac_Subkeys.f (a0 : ByteArray) : Option (ByteArray × ByteArray × Int) := some (if M.okN a0.size then (M.k1T (M.ksB a0), M.k2T (M.ksB a0), 0) else (⟨#[]⟩, ⟨#[]⟩, 2))
end Go.Proofs.Ytokkhnjedmlbhaa.Pr
end
section
namespace Go.Proofs.Ytokkhnjedmlbhaa.M
open Go.RowKit Go.Proofs.Ytokkhnjedmlbhaa.Pr Go.Proofs.YtokkhnjedmlbhaaW.PrintWords Go.Proofs.YtokkhnjedmlbhaaW.PrintLast Go.Proofs.YtokkhnjedmlbhaaW.PrintMore Go.Proofs.YtokkhnjedmlbhaaGf
set_option linter.unusedSimpArgs false
/-- A number, written out ahead of what is made of it. -/
def fN {α : Type} (n : Nat) (f : Nat → α) : α := match n with
  | 0 => f 0
  | m + 1 => f (m + 1)
theorem fN_eq {α : Type} (n : Nat) (f : Nat → α) : fN n f = f n := by cases n <;> rfl
def fL {α : Type} : List Nat → (List Nat → α) → α
  | [], f => f []
  | a :: l, f => fN a fun a => fL l fun l => f (a :: l)
theorem fL_eq {α : Type} : ∀ (l : List Nat) (f : List Nat → α), fL l f = f l
  | [], _ => rfl
  | a :: l, f => by simp only [fL]; rw [fN_eq, fL_eq l]
def lf (l : List Nat) : Nat → Nat := fun i => l.getD i 0
theorem lf_lt {l : List Nat} (h : isB l) (i : Nat) : lf l i < 256 := isB_get h i
theorem lf_rng (g : Nat → Nat) (q : Nat) (hq : q < 16) : lf ((List.range 16).map g) q = g q := by simp [lf, hq]
theorem lf_T {l : List Nat} (hl : l.length = 16) : T (lf l) = mkB l := by
  unfold T
  congr 1
  apply List.ext_getElem (by simp [hl])
  intro i h1 h2
  simp [lf, h2]
theorem nb_T {g : Nat → Nat} (h : ∀ i, g i < 256) : nb (T g) = (List.range 16).map g := nb_mkB (isB_map h _)
def stepF {α : Type} (l k : List Nat) (last : Bool) (c : List Nat → α) : α :=
  fL ((List.range 16).map (F1 (lf l))) fun m => bif last then fL ((List.range 16).map fun q => lf m q ^^^ lf k q) c else fL ((List.range 16).map fun q => MX (lf m) q ^^^ lf k q) c
theorem stepF_eq {α : Type} {l k : List Nat} (hl : isB l) (hk : isB k) (hl2 : l.length = 16) (hk2 : k.length = 16) (last : Bool) (c : List Nat → α) : stepF l k last c = c (nb (doT (mkB l) (mkB k) last)) := by
  have hks : (mkB k).size = 16 := by rw [mkB_size, hk2]
  have e : ∀ q, bb (mkB k) q = lf k q := fun q => bb_mkB hk q
  unfold stepF
  rw [fL_eq, ← lf_T hl2]
  cases last
  · rw [do_mid (lf_lt hl) hks, cond_false, fL_eq, nb_T (fun i => xor_lt (MX_lt (F1_lt _) _) (bb_lt _ _))]
    congr 1
    refine List.map_congr_left (fun q hq => ?_)
    have hq := List.mem_range.1 hq
    rw [e, MX_congr (fun i hi => lf_rng (F1 (lf l)) i hi) hq]
  · rw [do_last (lf_lt hl) hks, cond_true, fL_eq, nb_T (fun i => xor_lt (F1_lt _ _) (bb_lt _ _))]
    congr 1
    refine List.map_congr_left (fun q hq => ?_)
    have hq := List.mem_range.1 hq
    rw [e, lf_rng _ q hq]
def fwdF {α : Type} : List (List Nat) → List Nat → (List Nat → α) → α
  | [], l, c => c l
  | k :: ks, l, c => stepF l k ks.isEmpty fun l => fwdF ks l c
def ok16 (k : List Nat) : Prop := isB k ∧ k.length = 16
theorem fwdF_eq {α : Type} : ∀ (ks : List (List Nat)) (l : List Nat) (c : List Nat → α), (∀ k ∈ ks, ok16 k) → ok16 l → fwdF ks l c = c (nb (fwd (ks.map mkB) (mkB l)))
  | [], l, c, _, hl => by simp only [fwdF, fwd, List.map_nil]; rw [nb_mkB hl.1]
  | k :: ks, l, c, h, hl => by
    have hk := h k (by simp)
    have hd : ok16 (nb (doT (mkB l) (mkB k) ks.isEmpty)) := ⟨isB_nb _, by rw [nb_length]; exact do_size (by rw [mkB_size, hl.2]) (by rw [mkB_size, hk.2]) _⟩
    simp only [fwdF, fwd, List.map_cons]
    rw [stepF_eq hl.1 hk.1 hl.2 hk.2, fwdF_eq ks _ c (fun x hx => h x (by simp [hx])) hd, mkB_nb, List.isEmpty_map]
def encF {α : Type} (ks : List (List Nat)) (l : List Nat) (c : List Nat → α) : α := match ks with
  | [] => c l
  | k :: ks => fL ((List.range 16).map fun q => lf l q ^^^ lf k q) fun l => fwdF ks l c
theorem encF_eq {α : Type} (ks : List (List Nat)) (l : List Nat) (c : List Nat → α) (h : ∀ k ∈ ks, ok16 k) (hl : ok16 l) : encF ks l c = c (nb (encT (ks.map mkB) (mkB l))) := by
  cases ks with
  | nil => simp only [encF, encT, List.map_nil]; rw [nb_mkB hl.1]
  | cons k ks =>
    have hk := h k (by simp)
    have e : kyT (mkB l) (mkB k) = mkB ((List.range 16).map fun q => lf l q ^^^ lf k q) := by
      rw [ky_16 (by rw [mkB_size, hl.2]) (by rw [mkB_size, hk.2])]
      unfold T
      congr 1
      exact List.map_congr_left (fun q _ => by rw [bb_mkB hl.1, bb_mkB hk.1]; rfl)
    simp only [encF, encT, List.map_cons]
    rw [fL_eq, fwdF_eq ks _ c (fun x hx => h x (by simp [hx])) ⟨isB_map (fun a => xor_lt (lf_lt hl.1 a) (lf_lt hk.1 a)) _, by simp⟩, e]
def goR {α : Type} (n : Nat) : Nat → Nat → List (List Nat) → (List (List Nat) → α) → α
  | 0, _, ws, c => c ws
  | d + 1, i, ws, c => fL (nb (stepB n i (mkB (ws.getD (n - 1) [])) (mkB (ws.getD 0 [])))) fun w => goR n d (i + 1) (w :: ws) c
theorem getD_rev (l : List (List Nat)) (j i : Nat) (hi : l.length = i) (hj : j < i) : mkB (l.getD j []) = (l.reverse.map mkB).getD (i - 1 - j) ByteArray.empty := by
  have h1 : j < l.length := by omega
  have h2 : l.length - 1 - j < l.reverse.length := by rw [List.length_reverse]; omega
  subst hi
  rw [List.getD_eq_getElem?_getD, List.getD_eq_getElem?_getD, List.getElem?_map, List.getElem?_eq_getElem h1, List.getElem?_eq_getElem h2]
  simp only [Option.getD_some, Option.map_some]
  rw [List.getElem_reverse]
  congr 2
  omega
theorem goR_eq {α : Type} (n : Nat) (hn : 0 < n) : ∀ (d i : Nat) (ws : List (List Nat)) (c : List (List Nat) → α), ws.length = i → n ≤ i → ∃ vs, goR n d i ws c = c vs ∧ vs.reverse.map mkB = goB n d i (ws.reverse.map mkB) ∧ ((∀ v ∈ ws, isB v) → ∀ v ∈ vs, isB v)
  | 0, _, ws, c, _, _ => ⟨ws, rfl, rfl, id⟩
  | d + 1, i, ws, c, hl, hi => by
    simp only [goR, goB]
    rw [fL_eq, getD_rev ws (n - 1) i hl (by omega), getD_rev ws 0 i hl (by omega), show i - 1 - (n - 1) = i - n by omega, show i - 1 - 0 = i - 1 by omega]
    obtain ⟨vs, h1, h2, h3⟩ := goR_eq n hn d (i + 1) (nb (stepB n i ((ws.reverse.map mkB).getD (i - n) ByteArray.empty) ((ws.reverse.map mkB).getD (i - 1) ByteArray.empty)) :: ws) c (by simp [hl]) (by omega)
    refine ⟨vs, h1, ?_, fun h => h3 (fun v hv => ?_)⟩
    · rw [h2, List.reverse_cons, List.map_append, List.map_singleton, mkB_nb]
    · rcases List.mem_cons.1 hv with rfl | hv
      · exact isB_nb _
      · exact h v hv
def quadL : List (List Nat) → List (List Nat)
  | a :: b :: c :: d :: l => (a ++ (b ++ (c ++ d))) :: quadL l
  | _ => []
theorem quadL_eq : ∀ l : List (List Nat), (quadL l).map mkB = quads (l.map mkB)
  | a :: b :: c :: d :: l => by simp only [quadL, quads, List.map_cons]; rw [quadL_eq l, mkB_append, mkB_append, mkB_append]
  | [] => rfl
  | [_] => rfl
  | [_, _] => rfl
  | [_, _, _] => rfl
/-- A key's words as lists, the last one first. -/
def fourL : List Nat → List (List Nat)
  | a :: b :: c :: d :: l => [a, b, c, d] :: fourL l
  | _ => []
def keysF {α : Type} (n : Nat) (key : List Nat) (c : List (List Nat) → α) : α := goR n (3 * n + 28) n (fourL key).reverse fun ws => c (quadL ws.reverse)
theorem keysF_eq {α : Type} (n : Nat) (hn : n = 4 ∨ n = 6 ∨ n = 8) (key : List Nat) (hkl : key.length = 4 * n) (hf : (fourL key).map mkB = pcs 4 n (mkB key)) (hf2 : ∀ v ∈ fourL key, isB v) (c : List (List Nat) → α) :
    ∃ ks, keysF n key c = c ks ∧ ks.map mkB = ksB (mkB key) ∧ ∀ k ∈ ks, ok16 k := by
  have hs : (mkB key).size = 4 * n := by rw [mkB_size, hkl]
  have hok : okN (mkB key).size := by unfold okN; omega
  have hl : (fourL key).length = n := by have := congrArg List.length hf; rw [List.length_map, pcs_length] at this; exact this
  obtain ⟨vs, h1, h2, h3⟩ := goR_eq n (by omega) (3 * n + 28) n (fourL key).reverse (fun ws => c (quadL ws.reverse)) (by simp [hl]) (Nat.le_refl _)
  have e : (quadL vs.reverse).map mkB = ksB (mkB key) := by
    rw [quadL_eq, h2, List.reverse_reverse, hf]
    unfold ksB wordsB
    rw [hs, show 4 * n / 4 = n by omega]
  have hb := h3 (fun v hv => hf2 v (List.mem_reverse.1 hv))
  refine ⟨_, h1, e, fun k hk => ?_⟩
  have ha := (ks_facts hok).2.1
  rw [← e] at ha
  have hz := ha (mkB k) (List.mem_map_of_mem hk)
  rw [mkB_size] at hz
  refine ⟨?_, hz⟩
  have : ∀ l : List (List Nat), (∀ v ∈ l, isB v) → ∀ k ∈ quadL l, isB k := by
    intro l
    induction l using quadL.induct with
    | case1 a b c d l ih =>
      intro h k hk
      rcases List.mem_cons.1 hk with rfl | hk
      · exact isB_append.2 ⟨h a (by simp), isB_append.2 ⟨h b (by simp), isB_append.2 ⟨h c (by simp), h d (by simp)⟩⟩⟩
      · exact ih (fun v hv => h v (by simp [hv])) k hk
    | case2 t h => intro _ k hk; rw [quadL] at hk; cases hk; exact h
  exact this _ (fun v hv => hb v (List.mem_reverse.1 hv)) k hk
end Go.Proofs.Ytokkhnjedmlbhaa.M
end
section
namespace Go.Proofs.Ytokkhnjedmlbhaa.M
open Go.RowKit Go.Proofs.Ytokkhnjedmlbhaa.Pr Go.Proofs.YtokkhnjedmlbhaaW.PrintWords Go.Proofs.YtokkhnjedmlbhaaW.PrintLast Go.Proofs.YtokkhnjedmlbhaaW.PrintMore Go.Proofs.YtokkhnjedmlbhaaGf
set_option linter.unusedSimpArgs false
theorem run_enc (n : Nat) (hn : n = 4 ∨ n = 6 ∨ n = 8) {key l r : List Nat} (hkl : key.length = 4 * n) (hf : (fourL key).map mkB = pcs 4 n (mkB key)) (hf2 : (fourL key).all (fun v => v.all fun x => Nat.blt x 256) = true) (hl : l.all (fun x => Nat.blt x 256) = true) (hl2 : l.length = 16) (h : keysF n key (fun ks => encF ks l id) = r) :
    encT (ksB (mkB key)) (mkB l) = mkB r := by
  have lt_of : ∀ v : List Nat, v.all (fun x => Nat.blt x 256) = true → isB v := fun v hv x hx => by
    have := List.all_eq_true.1 hv x hx
    simpa using this
  obtain ⟨ks, h1, h2, h3⟩ := keysF_eq n hn key hkl hf (fun v hv => lt_of v (List.all_eq_true.1 hf2 v hv)) (fun ks => encF ks l id)
  rw [h1, encF_eq ks l id h3 ⟨lt_of l hl, hl2⟩, h2] at h
  rw [← h]
  exact (mkB_nb _).symm
end Go.Proofs.Ytokkhnjedmlbhaa.M
end
section
namespace Go.Proofs.Ytokkhnjedmlbhaa.M
open Go.RowKit Go.Proofs.Ytokkhnjedmlbhaa.Pr Go.Proofs.YtokkhnjedmlbhaaW.PrintWords Go.Proofs.YtokkhnjedmlbhaaW.PrintLast Go.Proofs.YtokkhnjedmlbhaaW.PrintMore Go.Proofs.YtokkhnjedmlbhaaGf
set_option linter.unusedSimpArgs false
def tagX (key s : ByteArray) : ByteArray × Int := if okN key.size then (tagT (ksB key) s, 0) else (⟨#[]⟩, 2)
theorem ctag_x (key s : ByteArray) (h : s.size < 1000000) : cmac_Tag.f key s = some (tagX key s) := by
  unfold cmac_Tag.f; rw [if_pos h]; rfl
end Go.Proofs.Ytokkhnjedmlbhaa.M
end
section
namespace Go.Proofs.Ytokkhnjedmlbhaa.Pr
open Go.RowKit Go.Proofs.YtokkhnjedmlbhaaW.PrintWords Go.Proofs.YtokkhnjedmlbhaaW.PrintLast Go.Proofs.YtokkhnjedmlbhaaW.PrintMore
def at0 (s : ByteArray) (i : Int) : Int := if i < (s.size : Int) then bt s i else 0
def at1 (s : ByteArray) (i : Int) : Int := if i < (s.size : Int) then 1 else 0
end Go.Proofs.Ytokkhnjedmlbhaa.Pr
end
section
namespace Go.Proofs.Ytokkhnjedmlbhaa.Pr
open Go.RowKit Go.Proofs.YtokkhnjedmlbhaaW.PrintWords Go.Proofs.YtokkhnjedmlbhaaW.PrintLast Go.Proofs.YtokkhnjedmlbhaaW.PrintMore
attribute [local go_sem] max2_int min2_int max_two min_two max_three min_three max_four min_four
def scanTo (a b : ByteArray) : Nat → Int
  | 0 => 0
  | k + 1 => Go.bits .or .u8 (scanTo a b k) (Go.bits .or .u8 (Go.bits .xor .u8 (at0 a k) (at0 b k)) (Go.bits .xor .u8 (at1 a k) (at1 b k)))
def equal_Scan.f (a b : ByteArray) : Option (Bool × Int) := if a.size ≤ 9223372036854775807 then if b.size ≤ 9223372036854775807 then some (scanTo a b (max a.size b.size) == 0, mx (a.size : Int) (b.size : Int)) else none else none
end Go.Proofs.Ytokkhnjedmlbhaa.Pr
end
section
namespace Go.Proofs.Ytokkhnjedmlbhaa.M
open Go.RowKit Go.Proofs.Ytokkhnjedmlbhaa.Pr Go.Proofs.YtokkhnjedmlbhaaW.PrintWords Go.Proofs.YtokkhnjedmlbhaaW.PrintLast Go.Proofs.YtokkhnjedmlbhaaW.PrintMore Go.Proofs.YtokkhnjedmlbhaaGf
def n1 (s : ByteArray) (i : Nat) : Nat := if i < s.size then 1 else 0
theorem same_of {a b : ByteArray} (hs : a.size = b.size) (h : ∀ j, j < a.size → bb a j = bb b j) : a = b := by
  rw [← mkB_nb a, ← mkB_nb b]
  congr 1
  apply List.ext_getElem (by rw [nb_length, nb_length, hs])
  intro i h1 h2
  have := h i (by rw [nb_length] at h1; exact h1)
  rw [bb_nb, bb_nb, List.getD_eq_getElem?_getD, List.getD_eq_getElem?_getD, List.getElem?_eq_getElem h1, List.getElem?_eq_getElem h2] at this
  exact this
end Go.Proofs.Ytokkhnjedmlbhaa.M
end
section
namespace Go.Proofs.Ytokkhnjedmlbhaa.Pr
open Go.RowKit Go.Proofs.YtokkhnjedmlbhaaW.PrintWords Go.Proofs.YtokkhnjedmlbhaaW.PrintLast Go.Proofs.YtokkhnjedmlbhaaW.PrintMore
attribute [local go_sem] max2_int min2_int max_two min_two max_three min_three max_four min_four   -- for this text's walks alone
set_option linter.unusedVariables false
set_option linter.unusedSimpArgs false

def cmac_Check.f (a0 : ByteArray) (a1 : ByteArray) (a2 : ByteArray) : Option (Bool × Int) := (cmac_Tag.f a0 a1).bind fun bt1 => (if bt1.2 = 0 then ((equal_Scan.f bt1.1 a2).bind fun bt2 => (some (bt2.1, 0))) else (some (false, bt1.2)))
def cmac_Blocks.f (a0 : Int) : Option (Int) := if a0 < 0 then (some 0) else (some (mx 1 (wrap64 ((wrap64 (Int.tdiv a0 16)) + (mn 1 (Int.tmod a0 16))))))
set_option maxHeartbeats 8000000 in
set_option maxRecDepth 100000 in
theorem cmac_Blocks.calls (a0 : Int) (r : Int) (w : World) (h : cmac_Blocks.f a0 = some r) :
  Calls Try.prog 114 #[.int .i64 a0] w fun e w' => e = .returned (.int .i64 r) ∧ Below w.heap.size w w' := by
 have HB := Aside0.mk (Below.refl w.heap.size w)
 have H : (if a0 < 0 then (some 0) else (some (mx 1 (wrap64 ((wrap64 (Int.tdiv a0 16)) + (mn 1 (Int.tmod a0 16))))))) = some r := h
 clear h
 by_cases c2 : a0 < 0
 ·rw [if_pos c2] at H
  have c2b0 : decide (a0 < 0) = true := decide_eq_true c2
  clear c2
  obtain rfl := Option.some.inj H
  go_enter Try.func114, Try.ntmps114
  go_wp2
  go_ret
  exact ⟨by first | rfl | (simp [*, errW_none, errW_some] <;> rfl), by repeat first | with_reducible (first | exact HB.out | apply bA | apply bN | apply bD) | exact HB.out⟩
 ·rw [if_neg c2] at H
  have c2b0 : decide (a0 < 0) = false := decide_eq_false c2
  clear c2
  obtain ⟨ji3, hji3⟩ : ∃ j_ : Int, (mn 1 (Int.tmod a0 16)) = j_ := ⟨_, rfl⟩
  replace H : (some (mx 1 (wrap64 ((wrap64 (Int.tdiv a0 16)) + (ji3))))) = some r := by first | (rw [hji3] at H; exact H) | (simp only [hji3] at H ⊢; exact H)
  (try (have hji3h : ji3 ≤ 1 := by (rw [← hji3]; unfold mn; (repeat' split) <;> omega)))
  (try (have hji3g : ji3 ≤ 64 := by omega))
  have hji3_ : (if (Int.tmod a0 16) < 1 then (Int.tmod a0 16) else 1) = ji3 := hji3
  obtain ⟨ji4, hji4⟩ : ∃ j_ : Int, (mx 1 (wrap64 ((wrap64 (Int.tdiv a0 16)) + (ji3)))) = j_ := ⟨_, rfl⟩
  replace H : (some ji4) = some r := by first | (rw [hji4] at H; exact H) | (simp only [hji4] at H ⊢; exact H)
  have hji4_ : (if 1 < (wrap64 ((wrap64 (Int.tdiv a0 16)) + (ji3))) then (wrap64 ((wrap64 (Int.tdiv a0 16)) + (ji3))) else 1) = ji4 := hji4
  obtain rfl := Option.some.inj H
  go_enter Try.func114, Try.ntmps114
  go_wp2
  go_ret
  exact ⟨by first | rfl | (simp [errW_none, errW_some] <;> rfl) | (simp only [← hji3, ← hji4]; first | rfl | (simp [errW_none, errW_some] <;> rfl)) | (simp [*, errW_none, errW_some] <;> rfl), by repeat first | with_reducible (first | exact HB.out | apply bA | apply bN | apply bD) | exact HB.out⟩

def clavigerref11_Blocks.f (a0 : Int) : Option (Int) := if a0 < 0 then (some 0) else (if a0 = 0 then (some 1) else (some (wrap64 ((wrap64 (Int.tdiv (wrap64 (a0 - 1)) 16)) + 1))))
end Go.Proofs.Ytokkhnjedmlbhaa.Pr
end
section
namespace Go.Proofs.Ytokkhnjedmlbhaa.Pr
open Go.RowKit Go.Proofs.YtokkhnjedmlbhaaW.PrintWords Go.Proofs.YtokkhnjedmlbhaaW.PrintLast Go.Proofs.YtokkhnjedmlbhaaW.PrintMore
attribute [local go_sem] max2_int min2_int max_two min_two max_three min_three max_four min_four   -- for this text's walks alone
set_option linter.unusedVariables false
set_option linter.unusedSimpArgs false

def clavigerlaw11_awake.f  : Option (Bool) := (cmac_Tag.f (⟨#[43, 126, 21, 22, 40, 174, 210, 166, 171, 247, 21, 136, 9, 207, 79, 60]⟩ : ByteArray) (⟨#[]⟩ : ByteArray)).bind fun bt1 => (if bt1.1.toList = ([187, 29, 105, 41, 233, 89, 55, 40, 127, 163, 125, 18, 155, 117, 103, 70] : List UInt8) then (if bt1.2 = 0 then ((cmac_Blocks.f 17).bind fun t2 => (some (t2 == 2))) else (some false)) else (some false))
set_option maxHeartbeats 8000000 in
set_option maxRecDepth 100000 in
theorem clavigerlaw11_awake.calls  (r : Bool) (w : World) (h : clavigerlaw11_awake.f  = some r) :
  Calls Try.prog 109 #[] w fun e w' => e = .returned (.bool r) ∧ Below w.heap.size w w' := by
 have HB := Aside0.mk (Below.refl w.heap.size w)
 have H : ((cmac_Tag.f (⟨#[43, 126, 21, 22, 40, 174, 210, 166, 171, 247, 21, 136, 9, 207, 79, 60]⟩ : ByteArray) (⟨#[]⟩ : ByteArray)).bind fun bt1 => (if bt1.1.toList = ([187, 29, 105, 41, 233, 89, 55, 40, 127, 163, 125, 18, 155, 117, 103, 70] : List UInt8) then (if bt1.2 = 0 then ((cmac_Blocks.f 17).bind fun t2 => (some (t2 == 2))) else (some false)) else (some false))) = some r := h
 clear h
 replace H := Option.bind_eq_some_iff.mp H
 obtain ⟨⟨t1, t3⟩, A10, H⟩ := H
 try dsimp only at H
 have A1 := Aside0.mk A10
 clear A10
 by_cases c2 : t1.toList = ([187, 29, 105, 41, 233, 89, 55, 40, 127, 163, 125, 18, 155, 117, 103, 70] : List UInt8)
 ·rw [if_pos c2] at H
  have c2b0 : (t1.toList == ([187, 29, 105, 41, 233, 89, 55, 40, 127, 163, 125, 18, 155, 117, 103, 70] : List UInt8)) = true := beq_iff_eq.mpr c2
  have c2b1 : (t1.toList != ([187, 29, 105, 41, 233, 89, 55, 40, 127, 163, 125, 18, 155, 117, 103, 70] : List UInt8)) = false := bne_eq_false_iff_eq.mpr c2
  clear c2
  by_cases c3 : t3 = 0
  ·rw [if_pos c3] at H
   have c3b0 : (t3 == 0) = true := beq_iff_eq.mpr c3
   have c3b1 : (t3 != 0) = false := bne_eq_false_iff_eq.mpr c3
   clear c3
   replace H := Option.bind_eq_some_iff.mp H
   obtain ⟨t2, A40, H⟩ := H
   replace H : (some (t2 == 2)) = some r := H
   have A4 := Aside0.mk A40
   clear A40
   obtain rfl := Option.some.inj H
   go_enter Try.func109, Try.ntmps109
   go_wp2_with (first | ((with_reducible refine gate_callee (f := 110) rfl ?_); refine goesL_ (some 4) rfl rfl Try.func110 (by kernel_rfl) rfl #[.string (⟨#[43, 126, 21, 22, 40, 174, 210, 166, 171, 247, 21, 136, 9, 207, 79, 60]⟩ : ByteArray), .string (⟨#[]⟩ : ByteArray)] rfl (by (try simp only [lT, lC, lN]); first | done | rfl) ?_; (with_reducible refine (cmac_Tag.calls (⟨#[43, 126, 21, 22, 40, 174, 210, 166, 171, 247, 21, 136, 9, 207, 79, 60]⟩ : ByteArray) (⟨#[]⟩ : ByteArray) t1 t3 _ A1.out).mono ?_); rintro e w5 ⟨rfl, hb⟩; refine ⟨_, rfl, ?_⟩; have n0_ := Aside0.mk (below_step (by repeat first | with_reducible (first | exact HB.out | apply bA | apply bN | apply bD) | exact HB.out) hb); clear HB; have HB := n0_; clear n0_; (try clear hb); (try clear hb2); (try clear hk); (try clear hi)) | (go_at_call 114; (with_reducible refine (cmac_Blocks.calls 17 t2 _ A4.out).mono ?_); rintro e w6 ⟨rfl, hb⟩; have n0_ := Aside0.mk (below_step (by repeat first | with_reducible (first | exact HB.out | apply bA | apply bN | apply bD) | exact HB.out) hb); clear HB; have HB := n0_; clear n0_; (try clear hb); (try clear hb2); (try clear hk); (try clear hi)))
   go_ret
   exact ⟨by first | rfl | (simp [*, errW_none, errW_some] <;> rfl), by repeat first | with_reducible (first | exact HB.out | apply bA | apply bN | apply bD) | exact HB.out⟩
  ·rw [if_neg c3] at H
   have c3b0 : (t3 == 0) = false := beq_eq_false_iff_ne.mpr c3
   have c3b1 : (t3 != 0) = true := bne_iff_ne.mpr c3
   obtain rfl := Option.some.inj H
   go_enter Try.func109, Try.ntmps109
   go_wp2_with (first | ((with_reducible refine gate_callee (f := 110) rfl ?_); refine goesL_ (some 4) rfl rfl Try.func110 (by kernel_rfl) rfl #[.string (⟨#[43, 126, 21, 22, 40, 174, 210, 166, 171, 247, 21, 136, 9, 207, 79, 60]⟩ : ByteArray), .string (⟨#[]⟩ : ByteArray)] rfl (by (try simp only [lT, lC, lN]); first | done | rfl) ?_; (with_reducible refine (cmac_Tag.calls (⟨#[43, 126, 21, 22, 40, 174, 210, 166, 171, 247, 21, 136, 9, 207, 79, 60]⟩ : ByteArray) (⟨#[]⟩ : ByteArray) t1 t3 _ A1.out).mono ?_); rintro e w7 ⟨rfl, hb⟩; refine ⟨_, rfl, ?_⟩; have n0_ := Aside0.mk (below_step (by repeat first | with_reducible (first | exact HB.out | apply bA | apply bN | apply bD) | exact HB.out) hb); clear HB; have HB := n0_; clear n0_; (try clear hb); (try clear hb2); (try clear hk); (try clear hi)))
   go_ret
   exact ⟨by first | rfl | (simp [*, errW_none, errW_some] <;> rfl), by repeat first | with_reducible (first | exact HB.out | apply bA | apply bN | apply bD) | exact HB.out⟩
 ·rw [if_neg c2] at H
  have c2b0 : (t1.toList == ([187, 29, 105, 41, 233, 89, 55, 40, 127, 163, 125, 18, 155, 117, 103, 70] : List UInt8)) = false := beq_eq_false_iff_ne.mpr c2
  have c2b1 : (t1.toList != ([187, 29, 105, 41, 233, 89, 55, 40, 127, 163, 125, 18, 155, 117, 103, 70] : List UInt8)) = true := bne_iff_ne.mpr c2
  obtain rfl := Option.some.inj H
  go_enter Try.func109, Try.ntmps109
  go_wp2_with (first | ((with_reducible refine gate_callee (f := 110) rfl ?_); refine goesL_ (some 4) rfl rfl Try.func110 (by kernel_rfl) rfl #[.string (⟨#[43, 126, 21, 22, 40, 174, 210, 166, 171, 247, 21, 136, 9, 207, 79, 60]⟩ : ByteArray), .string (⟨#[]⟩ : ByteArray)] rfl (by (try simp only [lT, lC, lN]); first | done | rfl) ?_; (with_reducible refine (cmac_Tag.calls (⟨#[43, 126, 21, 22, 40, 174, 210, 166, 171, 247, 21, 136, 9, 207, 79, 60]⟩ : ByteArray) (⟨#[]⟩ : ByteArray) t1 t3 _ A1.out).mono ?_); rintro e w8 ⟨rfl, hb⟩; refine ⟨_, rfl, ?_⟩; have n0_ := Aside0.mk (below_step (by repeat first | with_reducible (first | exact HB.out | apply bA | apply bN | apply bD) | exact HB.out) hb); clear HB; have HB := n0_; clear n0_; (try clear hb); (try clear hb2); (try clear hk); (try clear hi)))
  go_ret
  exact ⟨by first | rfl | (simp [*, errW_none, errW_some] <;> rfl), by repeat first | with_reducible (first | exact HB.out | apply bA | apply bN | apply bD) | exact HB.out⟩

end Go.Proofs.Ytokkhnjedmlbhaa.Pr
end
section
namespace Go.Proofs.Ytokkhnjedmlbhaa.Pr
open Go.RowKit Go.Proofs.YtokkhnjedmlbhaaW.PrintWords Go.Proofs.YtokkhnjedmlbhaaW.PrintLast Go.Proofs.YtokkhnjedmlbhaaW.PrintMore
attribute [local go_sem] max2_int min2_int max_two min_two max_three min_three max_four min_four   -- for this text's walks alone
set_option linter.unusedVariables false
set_option linter.unusedSimpArgs false

def clavigerlaw11_CmacChecks.j0 : Nat → ByteArray → ByteArray → ByteArray → Bool → Option (Bool)
 | 0, _, _, _, _ => none
 | k + 1, x0, x1, x2, x25 => if x25 = true then ((clavigerlaw11_awake.f).bind fun t1 => (some t1)) else ((clavigerref11_Tag.f k x0 x1).bind fun bt2 => ((cmac_Check.f x0 x1 x2).bind fun bt3 => ((cmac_Check.f x0 x1 bt2.1).bind fun bt4 => (if bt2.2 = bt3.2 then (if bt2.2 = bt4.2 then (if bt2.2 = 0 then (if (bt3.1 == (x2.toList == bt2.1.toList)) = true then (if (bt4.1 == (bt2.2 == 0)) = true then ((clavigerlaw11_awake.f).bind fun t5 => (some t5)) else (some false)) else (some false)) else (if (bt3.1 == false) = true then (if (bt4.1 == (bt2.2 == 0)) = true then ((clavigerlaw11_awake.f).bind fun t6 => (some t6)) else (some false)) else (some false))) else (some false)) else (some false)))))
def clavigerlaw11_CmacChecks.f (k : Nat) (a0 : ByteArray) (a1 : ByteArray) (a2 : ByteArray) : Option (Bool) := if (a0.size : Int) > 100 then (clavigerlaw11_CmacChecks.j0 k a0 a1 a2 true) else (if (a1.size : Int) > 160 then (clavigerlaw11_CmacChecks.j0 k a0 a1 a2 true) else (clavigerlaw11_CmacChecks.j0 k a0 a1 a2 (decide ((a2.size : Int) > 100))))
theorem clavigerlaw11_CmacChecks.mono_l : ∀ k, (∀ y7 y8 y9 y10, LeO (clavigerlaw11_CmacChecks.j0 k y7 y8 y9 y10) (clavigerlaw11_CmacChecks.j0 (k + 1) y7 y8 y9 y10))
 | 0 => fun _ _ _ _ r h => by simp [clavigerlaw11_CmacChecks.j0] at h
 | k + 1 => by
  have ih0 := clavigerlaw11_CmacChecks.mono_l k
  ·intro y7 y8 y9 y10
   unfold clavigerlaw11_CmacChecks.j0
   repeat' first
   | (with_reducible exact ih0 _ _ _ _)
   | (with_reducible exact clavigerref11_Tag.mono _ _ _)
   | (with_reducible exact LeO.refl _)
   | (with_reducible exact LeO.none _)
   | (with_reducible refine LeO.ite ?_ ?_)
   | (with_reducible refine LeO.bind ?_ (fun _ => ?_))
theorem clavigerlaw11_CmacChecks.mono : ∀ a0 a1 a2 k, LeO (clavigerlaw11_CmacChecks.f k a0 a1 a2) (clavigerlaw11_CmacChecks.f (k + 1) a0 a1 a2) := by
 intro a0 a1 a2 k
 have ih0 := clavigerlaw11_CmacChecks.mono_l k
 unfold clavigerlaw11_CmacChecks.f
 repeat' first
   | (with_reducible exact ih0 _ _ _ _)
   | (with_reducible exact clavigerref11_Tag.mono _ _ _)
   | (with_reducible exact LeO.refl _)
   | (with_reducible exact LeO.none _)
   | (with_reducible refine LeO.ite ?_ ?_)
   | (with_reducible refine LeO.bind ?_ (fun _ => ?_))
end Go.Proofs.Ytokkhnjedmlbhaa.Pr
end
