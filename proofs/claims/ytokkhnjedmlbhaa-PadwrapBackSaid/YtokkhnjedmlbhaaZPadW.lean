-- several texts in one (by the session's program shake.py)
import Derived.Test.YtokkhnjedmlbhaaZXor
import Derived.Test.YtokkhnjedmlbhaaZPrg01
import Derived.Test.YtokkhnjedmlbhaaZPrg05
import Derived.Test.YtokkhnjedmlbhaaZWrapM
import Derived.Test.YtokkhnjedmlbhaaZAesD
import Derived.Deep.QuietTactic
import Derived.BigQuiet
import Derived.Deep.RegionHeld3
import Derived.Deep.DrawnRows
import Derived.Test.YtokkhnjedmlbhaaZAesAdd
import Derived.Test.YtokkhnjedmlbhaaZPrg13
import Derived.Test.YtokkhnjedmlbhaaZFieldP
section
namespace Go.Proofs.Ytokkhnjedmlbhaa.M
open Go.RowKit Go.Proofs.Ytokkhnjedmlbhaa.Pr Go.Proofs.YtokkhnjedmlbhaaW.PrintWords Go.Proofs.YtokkhnjedmlbhaaW.PrintLast Go.Proofs.YtokkhnjedmlbhaaW.PrintMore Go.Proofs.YtokkhnjedmlbhaaGf
set_option linter.unusedSimpArgs false
/-- The lowest bytes of a number, the greatest first. -/
def lowL (u : Nat) : Nat → List Nat
  | 0 => []
  | i + 1 => u / 256 ^ i % 256 :: lowL u i
theorem lowL_length (u : Nat) : ∀ i, (lowL u i).length = i
  | 0 => rfl
  | i + 1 => by simp [lowL, lowL_length u i]
theorem put_4 (u : Nat) : octets_Put.f (u : Int) 4 = some (mkB (lowL u 4)) := by
  unfold octets_Put.f
  rw [if_neg (by decide), if_neg (by decide)]
  show some (strOfNums [(u : Int) / 16777216 % 256, (u : Int) / 65536 % 256, (u : Int) / 256 % 256, (u : Int) % 256]) = some (mkB [u / 16777216 % 256, u / 65536 % 256, u / 256 % 256, u / 1 % 256])
  rw [Nat.div_one, ← strOfNums_cast]
  rfl
theorem rputL (u wd : Nat) (hu : u < 18446744073709551616) (hw : wd ≤ 8) (d : Nat) : ∀ i, wd - i = d → i ≤ wd → Ev (fun k => clavigerref01_Put.l0 k ((u / 256 ^ i : Nat) : Int) (wd : Int) (mkB (lowL u i)) (i : Int)) (mkB (lowL u wd)) := by
  induction d with
  | zero =>
    intro i hd hi
    obtain rfl : i = wd := by omega
    refine Ev.step (f := fun _ => some (mkB (lowL u i))) (fun k => ?_) (Ev.now _)
    simp only [clavigerref01_Put.l0]
    rw [if_neg (by omega)]
  | succ d ih =>
    intro i hd hi
    have hh := ih (i + 1) (by omega) (by omega)
    have hq : u / 256 ^ i ≤ u := Nat.div_le_self _ _
    have e1 : u / 256 ^ (i + 1) = u / 256 ^ i / 256 := by rw [Nat.pow_succ, Nat.div_div_eq_div_mul]
    have e2 : lowL u (i + 1) = u / 256 ^ i % 256 :: lowL u i := rfl
    rw [e1, e2] at hh
    generalize u / 256 ^ i = q at *
    have e3 : (Int.tmod (q : Int) 256) % 256 = ((q % 256 : Nat) : Int) := by rw [Int.tmod_eq_emod_of_nonneg (by omega)]; omega
    have e4 : IntKind.u64.wrap (Int.tdiv (q : Int) 256) = ((q / 256 : Nat) : Int) := by rw [Int.tdiv_eq_ediv_of_nonneg (by omega), IntKind.wrap_u64]; omega
    refine Ev.step (fun k => ?_) hh
    simp only [clavigerref01_Put.l0, e3, e4, Option.bind_some]
    rw [if_pos (by omega), sNs1, mkB_append, if_pos (by rw [mkB_size, mkB_size, lowL_length]; show 1 + i ≤ _; omega), wrap_id (by omega) (by omega)]
    rfl
theorem rput_c (u wd : Nat) (hu : u < 18446744073709551616) (hw : 1 ≤ wd) (hw2 : wd ≤ 8) : Ev (fun k => clavigerref01_Put.f k (u : Int) (wd : Int)) (mkB (lowL u wd)) := by
  unfold clavigerref01_Put.f
  refine evn (by omega) ?_
  have hh := rputL u wd hu hw2 _ 0 rfl (by omega)
  rw [Nat.pow_zero, Nat.div_one] at hh
  refine Ev.step (fun k => ?_) hh
  simp only [clavigerref01_Put.j0]
  rw [if_neg (by simp; omega)]
  rfl
end Go.Proofs.Ytokkhnjedmlbhaa.M
end
section
namespace Go.Proofs.Ytokkhnjedmlbhaa.M
open Go.RowKit Go.Proofs.Ytokkhnjedmlbhaa.Pr Go.Proofs.YtokkhnjedmlbhaaW.PrintWords Go.Proofs.YtokkhnjedmlbhaaW.PrintLast Go.Proofs.YtokkhnjedmlbhaaW.PrintMore Go.Proofs.YtokkhnjedmlbhaaGf
set_option linter.unusedSimpArgs false
theorem low8 (t : Nat) : lowL t 8 = l8 t := by
  simp only [lowL, l8, Nat.reducePow, Nat.div_one]
theorem l8_xor8 (u v : Nat) : l8 (u ^^^ v) = [(u / 72057594037927936 % 256) ^^^ (v / 72057594037927936 % 256), (u / 281474976710656 % 256) ^^^ (v / 281474976710656 % 256), (u / 1099511627776 % 256) ^^^ (v / 1099511627776 % 256), (u / 4294967296 % 256) ^^^ (v / 4294967296 % 256), (u / 16777216 % 256) ^^^ (v / 16777216 % 256), (u / 65536 % 256) ^^^ (v / 65536 % 256), (u / 256 % 256) ^^^ (v / 256 % 256), (u % 256) ^^^ (v % 256)] := by
  have x (k : Nat) := xor_div_mod u v k
  have h7 := x 56; have h6 := x 48; have h5 := x 40; have h4 := x 32; have h3 := x 24; have h2 := x 16; have h1 := x 8; have h0 := x 0
  simp only [Nat.reducePow, Nat.div_one] at h0 h1 h2 h3 h4 h5 h6 h7
  unfold l8
  rw [h7, h6, h5, h4, h3, h2, h1, h0]
theorem xorT_8 {a b : ByteArray} (ha : a.size = 8) (hb : b.size = 8) : xorT a b = mkB [bb a 0 ^^^ bb b 0, bb a 1 ^^^ bb b 1, bb a 2 ^^^ bb b 2, bb a 3 ^^^ bb b 3, bb a 4 ^^^ bb b 4, bb a 5 ^^^ bb b 5, bb a 6 ^^^ bb b 6, bb a 7 ^^^ bb b 7] := by
  unfold xorT; rw [ha, hb]; rfl
theorem l8_size (t : Nat) : (mkB (l8 t)).size = 8 := by rw [mkB_size]; rfl
theorem xor_cnt (x : ByteArray) (t : Nat) (hx : x.size = 8) : xorT x (mkB (l8 t)) = cntX x t := by
  rw [xorT_8 hx (l8_size t)]
  unfold cntX
  have h1 := l8_be8 (bb x) (bb_lt x)
  rw [← beT8] at h1
  rw [l8_xor8]
  unfold l8 at h1
  simp only [List.cons.injEq, and_true] at h1
  obtain ⟨g0, g1, g2, g3, g4, g5, g6, g7⟩ := h1
  rw [g0, g1, g2, g3, g4, g5, g6, g7]
  simp only [bb_mkB (isB_l8 t)]
  rfl
/-- The pieces as the reference has them behind t steps. -/
def rotL (n t : Nat) (l : List ByteArray) : List ByteArray := l.drop (t % n) ++ l.take (t % n)
theorem mod_next {n t : Nat} (hn : 0 < n) : (t + 1) % n = if t % n + 1 < n then t % n + 1 else 0 := by
  have h := Nat.mod_add_div t n
  have hl := Nat.mod_lt t hn
  have e : t + 1 = (t % n + 1) + n * (t / n) := by omega
  split
  · next h2 => rw [e, Nat.add_mul_mod_self_left, Nat.mod_eq_of_lt h2]
  · next h2 =>
    rw [e, Nat.add_mul_mod_self_left, show t % n + 1 = n by omega, Nat.mod_self]
theorem set_at {l : List ByteArray} {i : Nat} (h : i < l.length) (x : ByteArray) : l.set i x = l.take i ++ x :: l.drop (i + 1) := by
  rw [List.set_eq_take_append_cons_drop, if_pos h]
theorem set_same {l : List ByteArray} {i : Nat} (h : i < l.length) : l.set i (l.getD i ⟨#[]⟩) = l := by
  have e : l.getD i ⟨#[]⟩ = l[i] := by rw [List.getD_eq_getElem?_getD, List.getElem?_eq_getElem h]; rfl
  rw [e, List.set_getElem_self]
/-- What is left of the round without its i-th piece. -/
def midL (i : Nat) (l : List ByteArray) : List ByteArray := l.drop (i + 1) ++ l.take i
theorem rot_set {n t : Nat} {l : List ByteArray} (hn : 0 < n) (hl : l.length = n) (x : ByteArray) : rotL n t (l.set (t % n) x) = x :: midL (t % n) l := by
  have hi := Nat.mod_lt t hn
  unfold rotL midL
  generalize t % n = i at *
  have h1 : (l.take i).length = i := by rw [List.length_take]; omega
  rw [set_at (by omega) x, List.drop_left' h1, List.take_left' h1]
  rfl
theorem rot_next {n t : Nat} {l : List ByteArray} (hn : 0 < n) (hl : l.length = n) (x : ByteArray) : rotL n (t + 1) (l.set (t % n) x) = midL (t % n) l ++ [x] := by
  have hi := Nat.mod_lt t hn
  unfold rotL midL
  rw [mod_next hn]
  generalize t % n = i at *
  have h1 : (l.take i ++ [x]).length = i + 1 := by rw [List.length_append, List.length_take, List.length_singleton]; omega
  rw [set_at (by omega) x]
  split
  · rw [List.append_cons, List.drop_left' h1, List.take_left' h1, List.append_assoc]
  · rw [List.drop_zero, List.take_zero, List.append_nil, List.drop_of_length_le (show l.length ≤ i + 1 by omega), List.nil_append]
theorem rot_at {n t : Nat} {l : List ByteArray} (hn : 0 < n) (hl : l.length = n) : rotL n t l = l.getD (t % n) ⟨#[]⟩ :: midL (t % n) l := by
  have h := rot_set (t := t) hn hl (l.getD (t % n) ⟨#[]⟩)
  rwa [set_same (by rw [hl]; exact Nat.mod_lt t hn)] at h
theorem rot_last {n t : Nat} {l : List ByteArray} (hn : 0 < n) (hl : l.length = n) : rotL n (t + 1) l = midL (t % n) l ++ [l.getD (t % n) ⟨#[]⟩] := by
  have h := rot_next (t := t) hn hl (l.getD (t % n) ⟨#[]⟩)
  rwa [set_same (by rw [hl]; exact Nat.mod_lt t hn)] at h
theorem rot_0 (n : Nat) (l : List ByteArray) : rotL n 0 l = l := by
  unfold rotL
  rw [Nat.zero_mod, List.drop_zero, List.take_zero, List.append_nil]
theorem rot_6 (n : Nat) (l : List ByteArray) : rotL n (6 * n) l = l := by
  unfold rotL
  rw [Nat.mul_mod_left, List.drop_zero, List.take_zero, List.append_nil]
theorem getD_8 {n t : Nat} {l : List ByteArray} (hn : 0 < n) (hl : l.length = n) (ha : allS 8 l) : (l.getD (t % n) ⟨#[]⟩).size = 8 := by
  have hi := Nat.mod_lt t hn
  have e : l.getD (t % n) ⟨#[]⟩ = l[t % n] := by rw [List.getD_eq_getElem?_getD, List.getElem?_eq_getElem (by omega)]; rfl
  rw [e]
  exact ha _ (List.getElem_mem _)
theorem mid_8 {i : Nat} {l : List ByteArray} (ha : allS 8 l) : allS 8 (midL i l) := by
  intro x hx
  rcases List.mem_append.1 hx with h | h
  · exact ha x (List.mem_of_mem_drop h)
  · exact ha x (List.mem_of_mem_take h)
theorem mid_len {i n : Nat} {l : List ByteArray} (hl : l.length = n) (hi : i < n) : (midL i l).length = n - 1 := by
  unfold midL
  rw [List.length_append, List.length_drop, List.length_take]
  omega
theorem mid_size {n t : Nat} {l : List ByteArray} (hn : 0 < n) (hl : l.length = n) (ha : allS 8 l) : (catB (midL (t % n) l)).size = 8 * (n - 1) := by
  rw [cat_size 8 _ (mid_8 ha), mid_len hl (Nat.mod_lt t hn)]
end Go.Proofs.Ytokkhnjedmlbhaa.M
end
section
namespace Go.Proofs.Ytokkhnjedmlbhaa.Pr
open Go.RowKit Go.Proofs.YtokkhnjedmlbhaaW.PrintWords Go.Proofs.YtokkhnjedmlbhaaW.PrintLast Go.Proofs.YtokkhnjedmlbhaaW.PrintMore
def wrap_Value.f : Option ByteArray := some ⟨#[166, 166, 166, 166, 166, 166, 166, 166]⟩
end Go.Proofs.Ytokkhnjedmlbhaa.Pr
end
section
namespace Go.Proofs.Ytokkhnjedmlbhaa.M
open Go.RowKit Go.Proofs.Ytokkhnjedmlbhaa.Pr Go.Proofs.YtokkhnjedmlbhaaW.PrintWords Go.Proofs.YtokkhnjedmlbhaaW.PrintLast Go.Proofs.YtokkhnjedmlbhaaW.PrintMore Go.Proofs.YtokkhnjedmlbhaaGf
/-- How many blocks are encrypted. -/
def stpN (n : Int) : Nat := if 16 ≤ n ∧ n ≤ 65536 ∧ n % 8 = 0 then 6 * (n / 8).toNat else 0
theorem steps_c (n : Int) : wrap_Steps.f n = some ((stpN n : Nat) : Int) := by
  unfold wrap_Steps.f stpN
  by_cases h1 : n < 16
  · rw [if_pos h1, if_neg (by omega)]; rfl
  · rw [if_neg h1]
    by_cases h2 : n > 65536
    · rw [if_pos h2, if_neg (by omega)]; rfl
    · rw [if_neg h2, and7]
      by_cases h3 : n % 8 = 0
      · have e : wrap64 (n / 8) = n / 8 := wrap_id (by omega) (by omega)
        rw [if_pos h3, if_pos ⟨by omega, by omega, h3⟩, Int.tdiv_eq_ediv_of_nonneg (by omega), e, wrap_id (by omega) (by omega)]
        congr 1
        omega
      · rw [if_neg h3, if_neg (by omega)]; rfl
theorem steps_8 {m : Nat} (h1 : 2 ≤ m) (h2 : m ≤ 8192) : stpN ((8 * m : Nat) : Int) = 6 * m := by
  unfold stpN
  rw [if_pos (by omega)]
  omega
/-- A text that was wrapped behind a value. -/
def rawT (ks : List ByteArray) (iv s : ByteArray) (m : Nat) : ByteArray := (runW ks m (iv, pcs 8 m s) (6 * m)).1 ++ catB (runW ks m (iv, pcs 8 m s) (6 * m)).2
theorem ok_0 {iv s : ByteArray} {m : Nat} (hi : iv.size = 8) (hs : s.size = 8 * m) : okW m (iv, pcs 8 m s) := ⟨hi, pcs_length 8 m s, pcs_size (by omega)⟩
theorem getD_some {l : List ByteArray} {i : Nat} (h : i < l.length) : l[i]? = some (l.getD i ⟨#[]⟩) := by
  rw [List.getD_eq_getElem?_getD, List.getElem?_eq_getElem h]; rfl
/-- What one step of wrapping does, piece by piece. -/
theorem step_facts {key : ByteArray} (ok : okN key.size) {m q i : Nat} (hm : 0 < m) {p : ByteArray × List ByteArray} (hp : okW m p) (hi : i < m) (hq : q % m = i) (hqb : q < 1000000) :
    p.2[i]? = some (p.2.getD i ⟨#[]⟩) ∧ (p.1 ++ p.2.getD i ⟨#[]⟩).size = 16 ∧ p.1.size = 8 ∧ (p.2.getD i ⟨#[]⟩).size = 8 ∧
    encR key (p.1 ++ p.2.getD i ⟨#[]⟩) = (encT (ksB key) (p.1 ++ p.2.getD i ⟨#[]⟩), 0) ∧ (encT (ksB key) (p.1 ++ p.2.getD i ⟨#[]⟩)).size = 16 ∧
    Ev (fun k => wrap_counted.f k ((encT (ksB key) (p.1 ++ p.2.getD i ⟨#[]⟩)).extract 0 8) ((q + 1 : Nat) : Int)) (stW (ksB key) m q p).1 ∧
    (stW (ksB key) m q p).2 = p.2.set i ((encT (ksB key) (p.1 ++ p.2.getD i ⟨#[]⟩)).extract 8 16) := by
  obtain ⟨h1, hl, ha⟩ := hp
  have h8 := getD_8 (t := q) hm hl ha
  rw [hq] at h8
  have hs : (p.1 ++ p.2.getD i ⟨#[]⟩).size = 16 := by rw [ByteArray.size_append]; omega
  have hb := enc_size (ks_facts ok).2.1 hs
  refine ⟨getD_some (by omega), hs, h1, h8, by unfold encR; rw [if_pos hs], hb, ?_, ?_⟩
  · unfold stW
    rw [hq]
    exact cnt_c _ _ (by rw [ByteArray.size_extract]; omega) (by omega)
  · unfold stW
    rw [hq]
end Go.Proofs.Ytokkhnjedmlbhaa.M
namespace Go.Proofs.Ytokkhnjedmlbhaa.Pr
open Go.RowKit Go.Proofs.YtokkhnjedmlbhaaW.PrintWords Go.Proofs.YtokkhnjedmlbhaaW.PrintLast Go.Proofs.YtokkhnjedmlbhaaW.PrintMore Go.Proofs.YtokkhnjedmlbhaaHw Go.Proofs.YtokkhnjedmlbhaaGf
theorem StrRow.C {w : World} {g : Nat} {ps : List ByteArray} (h : StrRow w g ps) (o : Nat) (l : List ByteArray) (hl : l.length ≤ 1000000000) (hg : ∀ (j : Nat) x, l[j]? = some x → ps[o + j]? = some x) : Kd.C Kd.string w (some ⟨g, o, none⟩) l.length l := by
  refine Kd.C_of_reads (d := ByteArray.empty) (h1 := fun _ => rfl) ⟨rfl, by omega, fun _ => ⟨_, rfl, fun j hj => ?_⟩⟩
  have := h.cell (o + j) _ (hg j _ (List.getElem?_eq_getElem hj))
  rw [add_at, this, List.getD_eq_getElem?_getD, List.getElem?_eq_getElem hj]
  rfl
attribute [local go_sem ↓] Go.wp_at_zero Go.wp_at_succ
set_option maxHeartbeats 4000000 in
set_option maxRecDepth 100000 in
theorem raw_ok (key iv s : ByteArray) (m : Nat) (w : World) (hk : M.okN key.size) (hi : iv.size = 8) (hs : s.size = 8 * m) (h2 : 2 ≤ m) (h3 : m ≤ 8192) :
    Calls Try.prog 154 #[.string key, .string iv, .string s] w fun e w' => e = .returned (.tuple #[.string (M.rawT (M.ksB key) iv s m), .int .i64 0]) ∧ Below w.heap.size w w' := by
  have HK := Aside0.mk hk
  have hst := M.steps_c (s.size : Int)
  rw [hs, M.steps_8 h2 h3, ← hs] at hst
  have HS : Aside0 (wrap_Steps.f (s.size : Int) = some ((6 * m : Nat) : Int)) := ⟨hst⟩
  obtain ⟨kp, hp⟩ := Ev.rounds (M.pieces_m (n := 8) (by omega) (by omega) (by omega) hs)
  have HP : Aside0 (octets_Pieces.f kp s 8 = some (M.pcs 8 m s)) := ⟨hp⟩
  have HO : Aside0 (∀ t, M.okW m (M.runW (M.ksB key) m (iv, M.pcs 8 m s) t)) := ⟨M.runW_ok (M.ks_facts hk).2.1 (by omega) (M.ok_0 hi hs)⟩
  have HR : Aside0 (∀ t, M.runW (M.ksB key) m (iv, M.pcs 8 m s) (t + 1) = M.stW (M.ksB key) m t (M.runW (M.ksB key) m (iv, M.pcs 8 m s) t)) := ⟨fun _ => rfl⟩
  have HT : Aside0 (M.rawT (M.ksB key) iv s m = (M.runW (M.ksB key) m (iv, M.pcs 8 m s) (6 * m)).1 ++ M.catB (M.runW (M.ksB key) m (iv, M.pcs 8 m s) (6 * m)).2) := ⟨rfl⟩
  have HZ : Aside0 (∀ t, (M.runW (M.ksB key) m (iv, M.pcs 8 m s) t).2.length = m) := ⟨fun t => (HO.out t).2.1⟩
  have H0 : Aside0 (M.runW (M.ksB key) m (iv, M.pcs 8 m s) 0 = (iv, M.pcs 8 m s)) := ⟨rfl⟩
  have hpl := M.pcs_length 8 m s
  generalize M.runW (M.ksB key) m (iv, M.pcs 8 m s) = R at *
  generalize M.rawT (M.ksB key) iv s m = RT at *
  generalize M.pcs 8 m s = l0 at *
  have e1 : (((iv.size : Nat) : Int) != 8) = false := by rw [hi]; rfl
  have e2 : (((6 * m : Nat) : Int) == 0) = false := beq_eq_false_iff_ne.mpr (by omega)
  clear hp hk hst hi hs
  go_enter Try.func154, Try.ntmps154
  go_wp2_with (first
    | (go_at_call 104; (with_reducible refine (new_ok _ _ HK.out).mono ?_); rintro e w1 ⟨g, rfl, hC, hb1⟩; have HC := Aside0.mk hC; have HB1 := Aside0.mk hb1; clear hC hb1)
    | (go_at_call 162; (with_reducible refine (wrap_Steps.calls _ _ _ HS.out).mono ?_); rintro e w2 ⟨rfl, hd⟩; obtain ⟨n1, rfl⟩ := hd.out; clear hd)
    | (go_at_call 186; (with_reducible refine (octets_Pieces.calls kp s 8 _ _ HP.out).mono ?_); rintro e w3 ⟨v0, rfl, hR, hb3⟩; obtain ⟨gb, c, rfl, hgb2, hS⟩ := StrRow.of_R hR (by rw [hpl]; omega); have hcap := (Kd.R_reads' hR).2.1; have HG := Aside0.mk hgb2; have HS3 := Aside0.mk hS; have HB3 := Aside0.mk (below_then (pw_below_drewN (Below.refl _ _) n1) (Nat.le_refl _) hb3); clear hb3 hR hS hgb2))
  have hgb : w1.heap.size ≤ gb := HG.out
  have HB3 : Aside0 (Below w1.heap.size w1 w3) := ⟨HB3.out⟩
  clear HG HP HS e1 e2
  go_loopw [1, 11, 35] (fun xv tv cv wr => ∃ (j q : Nat), j ≤ 6 ∧ q = j * m ∧ xv = .string (R q).1 ∧ tv = .int .u64 (q : Int) ∧ cv = .int .i64 (j : Int) ∧ Aside0 (StrRow wr gb (R q).2) ∧ Aside0 (Below w1.heap.size w1 wr)) (fun _ _ cv _ => 6 - (intOf cv).toNat)
  case atStart => exact ⟨0, 0, Nat.zero_le _, (Nat.zero_mul _).symm, by rw [H0.out], rfl, rfl, ⟨by rw [H0.out]; exact HS3.out⟩, HB3⟩
  case round =>
    clear HS3 HB3
    obtain ⟨j, q, hj, hq, rfl, rfl, rfl, HS, HB⟩ := hrel
    by_cases hlt : j < 6
    · have HQ := Aside0.mk hq
      have hqb : q ≤ 50000 := by rw [hq]; exact Nat.le_trans (Nat.mul_le_mul (show j ≤ 6 by omega) h3) (by decide)
      clear hq
      have hd6 : decide ((j : Int) < 6) = true := decide_eq_true (by omega)
      go_wp2
      go_loopw [1, 11, 39] (fun xv tv cv wr => ∃ (i : Nat), i ≤ m ∧ xv = .string (R (q + i)).1 ∧ tv = .int .u64 ((q + i : Nat) : Int) ∧ cv = .int .i64 (i : Int) ∧ Aside0 (StrRow wr gb (R (q + i)).2) ∧ Aside0 (Below w1.heap.size w1 wr)) (fun _ _ cv _ => m - (intOf cv).toNat)
      case atStart => exact ⟨0, Nat.zero_le _, rfl, rfl, rfl, HS, HB⟩
      case round =>
        clear HS HB
        obtain ⟨i, hi, rfl, rfl, rfl, HS, HB⟩ := hrel
        by_cases hli : i < m
        · have hF := M.step_facts HK.out (by omega) (HO.out (q + i)) hli (by rw [HQ.out, Nat.mul_comm, Nat.mul_add_mod, Nat.mod_eq_of_lt hli]) (show q + i < 1000000 by omega)
          rw [← HR.out (q + i)] at hF
          generalize (R (q + i)).2.getD i ⟨#[]⟩ = x at hF
          generalize M.encT (M.ksB key) ((R (q + i)).1 ++ x) = b at hF
          obtain ⟨f1, f2, f3, f4, f5, f6, f7, f8⟩ := hF
          obtain ⟨kc, hc⟩ := Ev.rounds f7
          have hdm : decide ((i : Int) < (m : Int)) = true := decide_eq_true (by omega)
          have HN : Aside0 (wrap_counted.f kc (b.extract 0 8) ((q : Int) + (i : Int) + 1) = some (R (q + i + 1)).1) := ⟨by rw [show (q : Int) + (i : Int) + 1 = ((q + i + 1 : Nat) : Int) by omega]; exact hc⟩
          have HE := Aside0.mk f5
          have HX := Aside0.mk f8
          have HL : Aside0 (i < (R (q + i)).2.length) := ⟨by rw [HZ.out]; exact hli⟩
          have hcell := HS.out.cell i _ f1
          have hcat : (R (q + i)).1.size + x.size ≤ 9223372036854775807 := by omega
          have F1 := Aside0.mk f1
          clear f1 f2 f3 f4 f5 f7 f8 hc
          go_wp2_with (go_at_call 106; (with_reducible refine (enc_any g key _ _ (HC.out.below HB.out) HK.out).mono ?_); rintro e w5 ⟨rfl, hb5⟩; rw [HE.out]; have HS5 := Aside0.mk (HS.out.below hb5); have HB5 := Aside0.mk (below_then HB.out HB.out.size hb5); clear hb5)
          clear hcell hcat HS HB HE
          have HS5 : Aside0 (StrRow w5.drew gb (R (q + i)).2) := ⟨HS5.out⟩
          have HB5 := Aside0.mk (below_drew1 HB5.out)
          go_region_law (first | (go_simp; go_at_call 209; (with_reducible refine (wrap_counted.calls kc _ _ _ _ HN.out).mono ?_); rintro e w6 ⟨rfl, hb6⟩; have HS6 := Aside0.mk (HS5.out.below hb6); have hf6 := HS6.out.frozen i; have hc6 := HS6.out.cell i _ F1.out; have HB6 := Aside0.mk (below_then HB5.out HB5.out.size hb6); clear hb6))
          go_wp2_with fail
          refine ⟨⟨i + 1, hli, rfl, by go_num, by go_num, ?_, ?_⟩, by simp [intOf]; omega⟩
          · exact ⟨by rw [show q + (i + 1) = q + i + 1 by omega, HX.out]; exact HS6.out.set i HL.out _⟩
          · exact ⟨below_set HB6.out hgb⟩
        · obtain rfl : i = m := by omega
          go_wp2
          exact ⟨⟨j + 1, q + i, hlt, by rw [HQ.out, Nat.succ_mul], rfl, rfl, by go_num, HS, HB⟩, by simp [intOf]; omega⟩
    · obtain rfl : j = 6 := by omega
      subst hq
      have hC := HS.out.C 0 (R (6 * m)).2 (by rw [HZ.out]; omega) (fun j x h => by rw [Nat.zero_add]; exact h)
      have hsz : (M.catB (R (6 * m)).2).size = 8 * m := by rw [M.cat_size 8 _ (HO.out (6 * m)).2.2, HZ.out]
      have hca : (R (6 * m)).1.size + (M.catB (R (6 * m)).2).size ≤ 9223372036854775807 := by have := (HO.out (6 * m)).1; omega
      have hJ := octets_Join.calls (some ⟨gb, 0, none⟩) c (R (6 * m)).2 (M.catB (R (6 * m)).2) wr hC (by rw [HZ.out]; omega) (M.join_c _ (by rw [HZ.out]; omega) (by omega))
      rw [HZ.out] at hJ
      have HJ := Aside0.mk hJ
      have hRT := HT.out
      clear hC hsz hJ
      go_wp2_with (go_at_call 89; (with_reducible refine HJ.out.mono ?_); rintro e w9 ⟨rfl, hb9⟩; have HB9 := Aside0.mk (below_then HB.out HB.out.size hb9); clear hb9)
      go_ret2
      exact ⟨by rw [hRT]; rfl, HB1.out.trans (HB9.out.mono HB1.out.size)⟩
end Go.Proofs.Ytokkhnjedmlbhaa.Pr
end
section
namespace Go.Proofs.Ytokkhnjedmlbhaa.Pr
open Go.RowKit Go.Proofs.YtokkhnjedmlbhaaW.PrintWords Go.Proofs.YtokkhnjedmlbhaaW.PrintLast Go.Proofs.YtokkhnjedmlbhaaW.PrintMore Go.Proofs.YtokkhnjedmlbhaaHw Go.Proofs.YtokkhnjedmlbhaaGf
theorem raw_bad (key iv s : ByteArray) (w : World) (hk : ¬ M.okN key.size) :
    Calls Try.prog 154 #[.string key, .string iv, .string s] w fun e w' => e = .returned (.tuple #[.string ⟨#[]⟩, .int .i64 2]) ∧ Below w.heap.size w w' := by
  have HK := Aside0.mk hk
  clear hk
  go_enter Try.func154, Try.ntmps154
  go_wp2_with (go_at_call 104; (with_reducible refine (new_bad _ _ HK.out).mono ?_); rintro e w1 ⟨rfl, hb1⟩; have HB := Aside0.mk hb1; clear hb1)
  go_ret2
  exact ⟨rfl, HB.out⟩
theorem raw_arg (key iv s : ByteArray) (w : World) (hk : M.okN key.size) (hi : iv.size ≠ 8) :
    Calls Try.prog 154 #[.string key, .string iv, .string s] w fun e w' => e = .returned (.tuple #[.string ⟨#[]⟩, .int .i64 1]) ∧ Below w.heap.size w w' := by
  have HK := Aside0.mk hk
  have e1 : (((iv.size : Nat) : Int) != 8) = true := by simp; omega
  clear hk hi
  go_enter Try.func154, Try.ntmps154
  go_wp2_with (go_at_call 104; (with_reducible refine (new_ok _ _ HK.out).mono ?_); rintro e w1 ⟨g, rfl, hC, hb1⟩; have HB := Aside0.mk hb1; clear hb1)
  go_ret2
  exact ⟨rfl, HB.out⟩
theorem raw_size (key iv s : ByteArray) (w : World) (hk : M.okN key.size) (hi : iv.size = 8) (hs : wrap_Steps.f (s.size : Int) = some 0) :
    Calls Try.prog 154 #[.string key, .string iv, .string s] w fun e w' => e = .returned (.tuple #[.string ⟨#[]⟩, .int .i64 4]) ∧ Below w.heap.size w w' := by
  have HK := Aside0.mk hk
  have HS := Aside0.mk hs
  have e1 : (((iv.size : Nat) : Int) != 8) = false := by simp; omega
  clear hk hi hs
  go_enter Try.func154, Try.ntmps154
  go_wp2_with (first
    | (go_at_call 104; (with_reducible refine (new_ok _ _ HK.out).mono ?_); rintro e w1 ⟨g, rfl, hC, hb1⟩; have HB := Aside0.mk hb1; clear hb1)
    | (go_at_call 162; (with_reducible refine (wrap_Steps.calls _ _ _ HS.out).mono ?_); rintro e w2 ⟨rfl, hd⟩; obtain ⟨n1, rfl⟩ := hd.out; clear hd))
  go_ret2
  exact ⟨rfl, pw_below_drewN HB.out n1⟩
end Go.Proofs.Ytokkhnjedmlbhaa.Pr
end
section
namespace Go.Proofs.Ytokkhnjedmlbhaa.M
open Go.RowKit Go.Proofs.Ytokkhnjedmlbhaa.Pr Go.Proofs.YtokkhnjedmlbhaaW.PrintWords Go.Proofs.YtokkhnjedmlbhaaW.PrintLast Go.Proofs.YtokkhnjedmlbhaaW.PrintMore Go.Proofs.YtokkhnjedmlbhaaGf
/-- The state behind all steps back but t. -/
def bkW (ks : List ByteArray) (n : Nat) (p : ByteArray × List ByteArray) (T : Nat) : Nat → ByteArray × List ByteArray
  | 0 => p
  | d + 1 => unW ks n (T - (d + 1)) (bkW ks n p T d)
theorem bkW_back (ks : List ByteArray) (n : Nat) (p : ByteArray × List ByteArray) (T : Nat) : ∀ d, d ≤ T → backW ks n (bkW ks n p T d) (T - d) = backW ks n p T
  | 0, _ => rfl
  | d + 1, h => by
    rw [← bkW_back ks n p T d (by omega), show T - d = (T - (d + 1)) + 1 by omega]
    rfl
theorem bkW_all (ks : List ByteArray) (n : Nat) (p : ByteArray × List ByteArray) (T : Nat) : bkW ks n p T T = backW ks n p T := by
  have := bkW_back ks n p T T (Nat.le_refl _)
  rwa [Nat.sub_self] at this
theorem bkW_ok {ks : List ByteArray} (hk : all16 ks) {n : Nat} (hn : 0 < n) {p : ByteArray × List ByteArray} (T : Nat) (h : okW n p) : ∀ d, okW n (bkW ks n p T d)
  | 0 => h
  | d + 1 => unW_ok hk hn (bkW_ok hk hn T h d)
/-- A text and the value ahead of it. -/
def uwT (ks : List ByteArray) (c : ByteArray) (m : Nat) : ByteArray × List ByteArray := backW ks m (c.extract 0 8, (pcs 8 (m + 1) c).drop 1) (6 * m)
theorem pcs_cons (m : Nat) (c : ByteArray) : pcs 8 (m + 1) c = c.extract 0 8 :: (pcs 8 (m + 1) c).drop 1 := by
  unfold pcs
  rw [List.range_succ_eq_map]
  rfl
theorem ok_1 {c : ByteArray} {m : Nat} (hs : c.size = 8 * (m + 1)) : okW m (c.extract 0 8, (pcs 8 (m + 1) c).drop 1) := by
  refine ⟨?_, ?_, fun x hx => pcs_size (show 8 * (m + 1) ≤ c.size by omega) x (List.mem_of_mem_drop hx)⟩
  · show (c.extract 0 8).size = 8
    rw [ByteArray.size_extract]; omega
  · show ((pcs 8 (m + 1) c).drop 1).length = m
    rw [List.length_drop, pcs_length]; omega
/-- What one step back does, piece by piece: v is the step's number, less one. -/
theorem back_facts {key : ByteArray} (ok : okN key.size) {m v i : Nat} (hm : 0 < m) {p : ByteArray × List ByteArray} (hp : okW m p) (hi : i < m) (hq : v % m = i) (hqb : v < 1000000) :
    ∃ a b : ByteArray, Ev (fun k => wrap_counted.f k p.1 ((v + 1 : Nat) : Int)) a ∧ a.size = 8 ∧ p.2[i]? = some (p.2.getD i ⟨#[]⟩) ∧ (p.2.getD i ⟨#[]⟩).size = 8 ∧ b.size = 16 ∧
    decR key (a ++ p.2.getD i ⟨#[]⟩) = (b, 0) ∧ (unW (ksB key) m v p).1 = b.extract 0 8 ∧ (unW (ksB key) m v p).2 = p.2.set i (b.extract 8 16) := by
  obtain ⟨h1, hl, ha⟩ := hp
  have h8 := getD_8 (t := v) hm hl ha
  rw [hq] at h8
  have hc := cntX_size p.1 (v + 1)
  have hs : (cntX p.1 (v + 1) ++ p.2.getD i ⟨#[]⟩).size = 16 := by rw [ByteArray.size_append]; omega
  refine ⟨cntX p.1 (v + 1), decT (ksB key) (cntX p.1 (v + 1) ++ p.2.getD i ⟨#[]⟩), cnt_c _ _ h1 (by omega), hc, getD_some (by omega), h8, dec_size (ks_facts ok).2.1 hs, by unfold decR; rw [if_pos hs], ?_, ?_⟩
  · unfold unW; rw [hq]
  · unfold unW; rw [hq]
end Go.Proofs.Ytokkhnjedmlbhaa.M
namespace Go.Proofs.Ytokkhnjedmlbhaa.Pr
open Go.RowKit Go.Proofs.YtokkhnjedmlbhaaW.PrintWords Go.Proofs.YtokkhnjedmlbhaaW.PrintLast Go.Proofs.YtokkhnjedmlbhaaW.PrintMore Go.Proofs.YtokkhnjedmlbhaaHw Go.Proofs.YtokkhnjedmlbhaaGf
attribute [local go_sem ↓] Go.wp_at_zero Go.wp_at_succ
set_option maxHeartbeats 4000000 in
set_option maxRecDepth 100000 in
theorem unraw_ok (key cc : ByteArray) (m : Nat) (w : World) (hk : M.okN key.size) (hs : cc.size = 8 * (m + 1)) (h2 : 2 ≤ m) (h3 : m ≤ 8192) :
    Calls Try.prog 156 #[.string key, .string cc] w fun e w' => e = .returned (.tuple #[.string (M.uwT (M.ksB key) cc m).1, .string (M.catB (M.uwT (M.ksB key) cc m).2), .int .i64 0]) ∧ Below w.heap.size w w' := by
  have HK := Aside0.mk hk
  have hst := M.steps_c ((cc.size : Int) - 8)
  rw [show ((cc.size : Int) - 8) = ((8 * m : Nat) : Int) by omega, M.steps_8 h2 h3, show ((8 * m : Nat) : Int) = (cc.size : Int) - 8 by omega] at hst
  have HS : Aside0 (wrap_Steps.f ((cc.size : Int) - 8) = some ((6 * m : Nat) : Int)) := ⟨hst⟩
  obtain ⟨kp, hp⟩ := Ev.rounds (M.pieces_m (n := 8) (by omega) (by omega) (by omega) hs)
  rw [M.pcs_cons] at hp
  have HO : Aside0 (∀ d, M.okW m (M.bkW (M.ksB key) m (cc.extract 0 8, (M.pcs 8 (m + 1) cc).drop 1) (6 * m) d)) := ⟨M.bkW_ok (M.ks_facts hk).2.1 (by omega) _ (M.ok_1 hs)⟩
  have HR : Aside0 (∀ d, M.bkW (M.ksB key) m (cc.extract 0 8, (M.pcs 8 (m + 1) cc).drop 1) (6 * m) (d + 1) = M.unW (M.ksB key) m (6 * m - (d + 1)) (M.bkW (M.ksB key) m (cc.extract 0 8, (M.pcs 8 (m + 1) cc).drop 1) (6 * m) d)) := ⟨fun _ => rfl⟩
  have HT : Aside0 (M.uwT (M.ksB key) cc m = M.bkW (M.ksB key) m (cc.extract 0 8, (M.pcs 8 (m + 1) cc).drop 1) (6 * m) (6 * m)) := ⟨(M.bkW_all _ _ _ _).symm⟩
  have H0 : Aside0 (M.bkW (M.ksB key) m (cc.extract 0 8, (M.pcs 8 (m + 1) cc).drop 1) (6 * m) 0 = (cc.extract 0 8, (M.pcs 8 (m + 1) cc).drop 1)) := ⟨rfl⟩
  have hpl : ((M.pcs 8 (m + 1) cc).drop 1).length = m := by rw [List.length_drop, M.pcs_length]; omega
  generalize M.bkW (M.ksB key) m (cc.extract 0 8, (M.pcs 8 (m + 1) cc).drop 1) (6 * m) = R at *
  generalize M.uwT (M.ksB key) cc m = RT at *
  generalize (M.pcs 8 (m + 1) cc).drop 1 = l0 at *
  generalize cc.extract 0 8 = a0 at *
  have HP : Aside0 (octets_Pieces.f kp cc 8 = some (a0 :: l0)) := ⟨hp⟩
  have HZ : Aside0 (∀ t, (R t).2.length = m) := ⟨fun t => (HO.out t).2.1⟩
  have e2 : (((6 * m : Nat) : Int) == 0) = false := beq_eq_false_iff_ne.mpr (by omega)
  have hlp : (a0 :: l0).length = m + 1 := by rw [List.length_cons, hpl]
  have hb1 : 8 ≤ cc.size := by omega
  have hb2 : cc.size < 1000000 := by omega
  clear hp hk hst hs
  go_enter Try.func156, Try.ntmps156
  go_wp2_with (first
    | (go_at_call 104; (with_reducible refine (new_ok _ _ HK.out).mono ?_); rintro e w1 ⟨g, rfl, hC, hb1⟩; have HC := Aside0.mk hC; have HB1 := Aside0.mk hb1; clear hC hb1)
    | (go_at_call 162; (with_reducible refine (wrap_Steps.calls _ _ _ HS.out).mono ?_); rintro e w2 ⟨rfl, hd⟩; obtain ⟨n1, rfl⟩ := hd.out; clear hd)
    | (go_at_call 186; (with_reducible refine (octets_Pieces.calls kp cc 8 _ _ HP.out).mono ?_); rintro e w3 ⟨v0, rfl, hR, hb3⟩; obtain ⟨gb, c, rfl, hgb2, hS⟩ := StrRow.of_R hR (by rw [hlp]; omega); have hcap := (Kd.R_reads' hR).2.1; have HG := Aside0.mk hgb2; have HS3 := Aside0.mk hS; have HB3 := Aside0.mk (below_then (pw_below_drewN (Below.refl _ _) n1) (Nat.le_refl _) hb3); clear hb3 hR hS hgb2))
  have hgb : w1.heap.size ≤ gb := HG.out
  have hB3 : Below w1.heap.size w1 w3 := HB3.out
  have hc0 := HS3.out.cell 0 a0 rfl
  have hd0 : w3.drew.cell? ⟨gb, 0, none⟩ = some (.string a0) := hc0
  have hcap1 : (1 : Int) ≤ (c : Int) := by omega
  clear HG HP HS e2 hb1 hb2 HB3
  go_region
  go_wp2
  clear hc0 hd0
  go_loopw [10, 12] (fun av tv wr => ∃ (j q d : Nat), j ≤ 6 ∧ q = j * m ∧ d + q = 6 * m ∧ av = .string (R d).1 ∧ tv = .int .u64 (q : Int) ∧ Aside0 (StrRow wr gb (a0 :: (R d).2)) ∧ Aside0 (Below w1.heap.size w1 wr)) (fun _ tv _ => (intOf tv).toNat)
  case atStart => exact ⟨6, 6 * m, 0, Nat.le_refl _, rfl, Nat.zero_add _, by rw [H0.out], by go_num, ⟨by rw [H0.out]; exact HS3.out⟩, ⟨below_drew1 hB3⟩⟩
  case round =>
    clear HS3 hB3
    obtain ⟨j, q, d, hj, hq, hdq, rfl, rfl, HS, HB⟩ := hrel
    by_cases hlt : 0 < j
    · obtain ⟨j, rfl⟩ : ∃ j', j = j' + 1 := ⟨j - 1, by omega⟩
      obtain ⟨qq, hqq⟩ : ∃ qq, qq = j * m := ⟨_, rfl⟩
      have hq2 : q = qq + m := by rw [hq, hqq, Nat.succ_mul]
      have HQ := Aside0.mk hqq
      clear hq hqq
      subst hq2
      have hd7 : decide ((0 : Int) < (qq : Int) + (m : Int)) = true := decide_eq_true (by omega)
      rw [show ((qq + m : Nat) : Int) = (qq : Int) + (m : Int) by omega]
      go_wp2
      go_loopw [10, 12, 13] (fun av tv cv wr => ∃ (i : Nat), i ≤ m ∧ av = .string (R (d + (m - i))).1 ∧ tv = .int .u64 ((qq : Int) + (i : Int)) ∧ cv = .int .i64 ((i : Int) - 1) ∧ Aside0 (StrRow wr gb (a0 :: (R (d + (m - i))).2) ) ∧ Aside0 (Below w1.heap.size w1 wr)) (fun _ _ cv _ => (intOf cv + 1).toNat)
      case atStart => exact ⟨m, Nat.le_refl _, by rw [Nat.sub_self, Nat.add_zero], by go_num, rfl, by rw [Nat.sub_self, Nat.add_zero]; exact HS, HB⟩
      case round =>
        clear HS HB
        obtain ⟨i, hi, rfl, rfl, rfl, HS, HB⟩ := hrel
        by_cases hli : 0 < i
        · obtain ⟨i, rfl⟩ : ∃ i', i = i' + 1 := ⟨i - 1, by omega⟩
          have hF := M.back_facts HK.out (by omega) (HO.out (d + (m - (i + 1)))) (show i < m by omega) (v := qq + i) (by rw [HQ.out, Nat.mul_comm, Nat.mul_add_mod, Nat.mod_eq_of_lt (by omega)]) (by omega)
          have hr := HR.out (d + (m - (i + 1)))
          rw [show 6 * m - (d + (m - (i + 1)) + 1) = qq + i by omega] at hr
          rw [← hr, show d + (m - (i + 1)) + 1 = d + (m - i) by omega] at hF
          clear hr
          generalize hx : (R (d + (m - (i + 1)))).2.getD i ⟨#[]⟩ = x at hF
          clear hx
          obtain ⟨a, b, f1, f2, f3, f4, f5, f6, f7, f8⟩ := hF
          obtain ⟨kc, hc⟩ := Ev.rounds f1
          have HN : Aside0 (wrap_counted.f kc (R (d + (m - (i + 1)))).1 ((qq : Int) + (i : Int) + 1) = some a) := ⟨by rw [show (qq : Int) + (i : Int) + 1 = ((qq + i + 1 : Nat) : Int) by omega]; exact hc⟩
          have HE := Aside0.mk f6
          have HX := Aside0.mk f7
          have HY := Aside0.mk f8
          have F3 : Aside0 ((a0 :: (R (d + (m - (i + 1)))).2)[i + 1]? = some x) := ⟨f3⟩
          have HL : Aside0 (i + 1 < (a0 :: (R (d + (m - (i + 1)))).2).length) := ⟨by rw [List.length_cons, HZ.out]; omega⟩
          have hcat : a.size + x.size ≤ 9223372036854775807 := by omega
          have hdm : decide ((0 : Int) ≤ (i : Int)) = true := decide_eq_true (by omega)
          clear f1 f2 f3 f4 f6 f7 f8 hc
          generalize hp1 : R (d + (m - (i + 1))) = p1 at *
          rw [show (((i + 1 : Nat) : Int) - 1) = (i : Int) by omega, show (qq : Int) + ((i + 1 : Nat) : Int) = (qq : Int) + (i : Int) + 1 by omega]
          go_wp2
          have HS : Aside0 (StrRow wr.drew gb (a0 :: p1.2)) := ⟨HS.out⟩
          have HB := Aside0.mk (below_drew1 HB.out)
          have him : i < m := by omega
          have hcat2 : ¬ 9223372036854775807 < a.size + x.size := by omega
          have hc1 := HS.out.cell (i + 1) _ F3.out
          have hc2 : wr.drew.cell? ⟨gb, 1 + i, none⟩ = some (.string x) := by rw [Nat.add_comm]; exact hc1
          go_region_law (first
            | (go_simp; go_at_call 209; (with_reducible refine (wrap_counted.calls kc _ _ _ _ HN.out).mono ?_); rintro e w6 ⟨rfl, hb6⟩; have HS6 := Aside0.mk (HS.out.below hb6); have HB6 := Aside0.mk (below_then HB.out HB.out.size hb6); have hc6 : w6.cell? ⟨gb, 1 + i, none⟩ = some (.string x) := (by rw [Nat.add_comm]; exact HS6.out.cell (i + 1) _ F3.out); clear hb6)
            | (go_simp; go_at_call 107; (with_reducible refine (dec_any g key _ _ (HC.out.below HB6.out) HK.out).mono ?_); rintro e w5 ⟨rfl, hb5⟩; rw [HE.out]; have HS5 := Aside0.mk (HS6.out.below hb5); have HB5 := Aside0.mk (below_then HB6.out HB6.out.size hb5); clear hb5))
          all_goals
            go_wp2
            have hf5 := HS5.out.frozen (1 + i)
            have hc5 : w5.cell? ⟨gb, 1 + i, none⟩ = some (.string x) := by rw [Nat.add_comm]; exact HS5.out.cell (i + 1) _ F3.out
            go_region
            go_wp2
            refine ⟨⟨i, by omega, by rw [HX.out], rfl, rfl, ⟨?_⟩, ⟨below_drew1 (below_set HB5.out hgb)⟩⟩, by simp [intOf]⟩
            have hz := HS5.out.set (1 + i) (by have := HL.out; omega) (b.extract 8 16)
            rw [show (a0 :: p1.2).set (1 + i) (b.extract 8 16) = a0 :: p1.2.set i (b.extract 8 16) by rw [Nat.add_comm]; rfl, ← HY.out] at hz
            exact hz
        · obtain rfl : i = 0 := by omega
          go_wp2
          exact ⟨⟨j, qq, d + m, by omega, HQ.out, by omega, rfl, by go_num, HS, HB⟩, by simp [intOf]; omega⟩
    · obtain rfl : j = 0 := by omega
      obtain rfl : q = 0 := by rw [hq, Nat.zero_mul]
      obtain rfl : d = 6 * m := by omega
      clear hq hdq hj hlt
      have hC := HS.out.C 1 (R (6 * m)).2 (by rw [HZ.out]; omega) (fun j x h => by rw [Nat.add_comm]; exact h)
      have hsz : (M.catB (R (6 * m)).2).size = 8 * m := by rw [M.cat_size 8 _ (HO.out (6 * m)).2.2, HZ.out]
      have hJ := octets_Join.calls (some ⟨gb, 1, none⟩) (c - 1) (R (6 * m)).2 (M.catB (R (6 * m)).2) wr hC (by rw [HZ.out]; omega) (M.join_c _ (by rw [HZ.out]; omega) (by omega))
      rw [HZ.out] at hJ
      have HJ := Aside0.mk hJ
      clear hC hsz hJ
      go_wp2_with (go_at_call 89; (with_reducible refine HJ.out.mono ?_); rintro e w9 ⟨rfl, hb9⟩; have HB9 := Aside0.mk (below_then HB.out HB.out.size hb9); clear hb9)
      refine bodyPost_ret (v := .tuple #[.string (R (6 * m)).1, .string (M.catB (R (6 * m)).2), .int .i64 0]) (by simp [results, Try.results156, go_sem]) rfl ⟨by rw [HT.out], HB1.out.trans (HB9.out.mono HB1.out.size)⟩
theorem unraw_bad (key cc : ByteArray) (w : World) (hk : ¬ M.okN key.size) :
    Calls Try.prog 156 #[.string key, .string cc] w fun e w' => e = .returned (.tuple #[.string ⟨#[]⟩, .string ⟨#[]⟩, .int .i64 2]) ∧ Below w.heap.size w w' := by
  have HK := Aside0.mk hk
  clear hk
  go_enter Try.func156, Try.ntmps156
  go_wp2_with (go_at_call 104; (with_reducible refine (new_bad _ _ HK.out).mono ?_); rintro e w1 ⟨rfl, hb1⟩; have HB := Aside0.mk hb1; clear hb1)
  refine bodyPost_ret (v := .tuple #[.string ⟨#[]⟩, .string ⟨#[]⟩, .int .i64 2]) (by simp [results, Try.results156, go_sem]) rfl ⟨rfl, HB.out⟩
theorem unraw_size (key cc : ByteArray) (w : World) (hk : M.okN key.size) (hb : cc.size < 9223372036854775807) (hs : M.stpN ((cc.size : Int) - 8) = 0) :
    Calls Try.prog 156 #[.string key, .string cc] w fun e w' => e = .returned (.tuple #[.string ⟨#[]⟩, .string ⟨#[]⟩, .int .i64 4]) ∧ Below w.heap.size w w' := by
  have HK := Aside0.mk hk
  have hst := M.steps_c ((cc.size : Int) - 8)
  rw [hs] at hst
  have HS : Aside0 (wrap_Steps.f ((cc.size : Int) - 8) = some 0) := ⟨hst⟩
  have hw : wrap64 ((cc.size : Int) - 8) = (cc.size : Int) - 8 := M.wrap_id (by omega) (by omega)
  clear hk hs hst
  go_enter Try.func156, Try.ntmps156
  go_wp2_with (first
    | (go_at_call 104; (with_reducible refine (new_ok _ _ HK.out).mono ?_); rintro e w1 ⟨g, rfl, hC, hb1⟩; have HB := Aside0.mk hb1; clear hb1)
    | (go_at_call 162; (with_reducible refine (wrap_Steps.calls _ _ _ HS.out).mono ?_); rintro e w2 ⟨rfl, hd⟩; obtain ⟨n1, rfl⟩ := hd.out; clear hd))
  refine bodyPost_ret (v := .tuple #[.string ⟨#[]⟩, .string ⟨#[]⟩, .int .i64 4]) (by simp [results, Try.results156, go_sem]) rfl ⟨rfl, pw_below_drewN HB.out n1⟩
end Go.Proofs.Ytokkhnjedmlbhaa.Pr
namespace Go.Proofs.Ytokkhnjedmlbhaa.M
def rawX (key iv s : ByteArray) : ByteArray × Int := if okN key.size then if iv.size = 8 then if stpN (s.size : Int) = 0 then (⟨#[]⟩, 4) else (rawT (ksB key) iv s (s.size / 8), 0) else (⟨#[]⟩, 1) else (⟨#[]⟩, 2)
def unX (key c : ByteArray) : ByteArray × ByteArray × Int := if okN key.size then if stpN ((c.size : Int) - 8) = 0 then (⟨#[]⟩, ⟨#[]⟩, 4) else ((uwT (ksB key) c (c.size / 8 - 1)).1, catB (uwT (ksB key) c (c.size / 8 - 1)).2, 0) else (⟨#[]⟩, ⟨#[]⟩, 2)
theorem stp_ne {n : Int} (h : ¬ stpN n = 0) : 16 ≤ n ∧ n ≤ 65536 ∧ n % 8 = 0 := by
  unfold stpN at h
  by_cases e : 16 ≤ n ∧ n ≤ 65536 ∧ n % 8 = 0
  · exact e
  · rw [if_neg e] at h; exact absurd rfl h
end Go.Proofs.Ytokkhnjedmlbhaa.M
namespace Go.Proofs.Ytokkhnjedmlbhaa.Pr
open Go.RowKit Go.Proofs.YtokkhnjedmlbhaaW.PrintWords Go.Proofs.YtokkhnjedmlbhaaW.PrintLast Go.Proofs.YtokkhnjedmlbhaaW.PrintMore Go.Proofs.YtokkhnjedmlbhaaHw Go.Proofs.YtokkhnjedmlbhaaGf
def wrap_Raw.f (a0 a1 a2 : ByteArray) : Option (ByteArray × Int) := some (M.rawX a0 a1 a2)
theorem wrap_Raw.calls (a0 a1 a2 : ByteArray) (r0 : ByteArray) (r1 : Int) (w : World) (h : wrap_Raw.f a0 a1 a2 = some (r0, r1)) :
    Calls Try.prog 154 #[.string a0, .string a1, .string a2] w fun e w' => e = .returned (.tuple #[.string r0, .int .i64 r1]) ∧ Below w.heap.size w w' := by
  unfold wrap_Raw.f M.rawX at h
  by_cases hk : M.okN a0.size
  · rw [if_pos hk] at h
    by_cases hi : a1.size = 8
    · rw [if_pos hi] at h
      by_cases hs : M.stpN (a2.size : Int) = 0
      · rw [if_pos hs] at h
        obtain ⟨rfl, rfl⟩ := Prod.mk.inj (Option.some.inj h)
        exact raw_size a0 a1 a2 w hk hi (by rw [M.steps_c, hs]; rfl)
      · rw [if_neg hs] at h
        obtain ⟨rfl, rfl⟩ := Prod.mk.inj (Option.some.inj h)
        have hn := M.stp_ne hs
        exact raw_ok a0 a1 a2 (a2.size / 8) w hk hi (by omega) (by omega) (by omega)
    · rw [if_neg hi] at h
      obtain ⟨rfl, rfl⟩ := Prod.mk.inj (Option.some.inj h)
      exact raw_arg a0 a1 a2 w hk hi
  · rw [if_neg hk] at h
    obtain ⟨rfl, rfl⟩ := Prod.mk.inj (Option.some.inj h)
    exact raw_bad a0 a1 a2 w hk
def wrap_Unraw.f (a0 a1 : ByteArray) : Option (ByteArray × ByteArray × Int) := if a1.size < 1000000 then some (M.unX a0 a1) else none
theorem wrap_Unraw.calls (a0 a1 : ByteArray) (r0 r1 : ByteArray) (r2 : Int) (w : World) (h : wrap_Unraw.f a0 a1 = some (r0, r1, r2)) :
    Calls Try.prog 156 #[.string a0, .string a1] w fun e w' => e = .returned (.tuple #[.string r0, .string r1, .int .i64 r2]) ∧ Below w.heap.size w w' := by
  unfold wrap_Unraw.f at h
  split at h
  case isFalse => cases h
  case isTrue hb =>
  unfold M.unX at h
  by_cases hk : M.okN a0.size
  · rw [if_pos hk] at h
    by_cases hs : M.stpN ((a1.size : Int) - 8) = 0
    · rw [if_pos hs] at h
      obtain ⟨rfl, h2⟩ := Prod.mk.inj (Option.some.inj h)
      obtain ⟨rfl, rfl⟩ := Prod.mk.inj h2
      exact unraw_size a0 a1 w hk (by omega) hs
    · rw [if_neg hs] at h
      obtain ⟨rfl, h2⟩ := Prod.mk.inj (Option.some.inj h)
      obtain ⟨rfl, rfl⟩ := Prod.mk.inj h2
      have hn := M.stp_ne hs
      exact unraw_ok a0 a1 (a1.size / 8 - 1) w hk (by omega) (by omega) (by omega)
  · rw [if_neg hk] at h
    obtain ⟨rfl, h2⟩ := Prod.mk.inj (Option.some.inj h)
    obtain ⟨rfl, rfl⟩ := Prod.mk.inj h2
    exact unraw_bad a0 a1 w hk
end Go.Proofs.Ytokkhnjedmlbhaa.Pr
end
section
namespace Go.Proofs.Ytokkhnjedmlbhaa.M
open Go.RowKit Go.Proofs.Ytokkhnjedmlbhaa.Pr Go.Proofs.YtokkhnjedmlbhaaW.PrintWords Go.Proofs.YtokkhnjedmlbhaaW.PrintLast Go.Proofs.YtokkhnjedmlbhaaW.PrintMore Go.Proofs.YtokkhnjedmlbhaaGf
/-- What comes ahead of so many bytes. -/
def vlT (n : Nat) : ByteArray := (⟨#[166, 89, 89, 166]⟩ : ByteArray) ++ mkB (lowL n 4)
theorem low4z (u : Nat) : (mkB (lowL u 4)).size = 4 := by rw [mkB_size, lowL_length]
theorem vl_size (n : Nat) : (vlT n).size = 8 := by
  unfold vlT
  rw [ByteArray.size_append, low4z]
  rfl
theorem wrap_u (n : Nat) (h : n < 18446744073709551616) : IntKind.u64.wrap (n : Int) = (n : Int) := by rw [IntKind.wrap_u64]; omega
theorem vl_c (n : Nat) (h1 : 1 ≤ n) (h2 : n ≤ 65535) : padwrap_Value.f (n : Int) = some (vlT n) := by
  unfold padwrap_Value.f
  rw [if_neg (by omega), if_neg (by omega), wrap_u n (by omega), put_4]
  show (if 4 + (mkB (lowL n 4)).size ≤ 9223372036854775807 then some _ else none) = _
  rw [if_pos (by rw [low4z]; omega)]
  rfl
theorem vl_n (n : Int) (h : ¬ (1 ≤ n ∧ n ≤ 65535)) : padwrap_Value.f n = some ⟨#[]⟩ := by
  unfold padwrap_Value.f
  by_cases h1 : n < 1
  · rw [if_pos h1]
  · rw [if_neg h1, if_pos (by omega)]
/-- A text made longer takes whole pieces. -/
theorem pad_8 (s : ByteArray) : (padT s 8).size = 8 * ((s.size + 7) / 8) := by
  unfold padT
  rw [ByteArray.size_append, zeros_size]
  omega
def padX (key s : ByteArray) : ByteArray × Int :=
  if okN key.size then if 1 ≤ s.size ∧ s.size ≤ 65535 then if s.size ≤ 8 then (encT (ksB key) (vlT s.size ++ padT s 8), 0) else (rawT (ksB key) (vlT s.size) (padT s 8) ((s.size + 7) / 8), 0) else (⟨#[]⟩, 4) else (⟨#[]⟩, 2)
def ptX (key c : ByteArray) : ByteArray × ByteArray × Int :=
  if okN key.size then if c.size = 16 then ((decT (ksB key) c).extract 0 8, (decT (ksB key) c).extract 8 16, 0) else unX key c else (⟨#[]⟩, ⟨#[]⟩, 2)
end Go.Proofs.Ytokkhnjedmlbhaa.M
namespace Go.Proofs.Ytokkhnjedmlbhaa.Pr
open Go.RowKit Go.Proofs.YtokkhnjedmlbhaaW.PrintWords Go.Proofs.YtokkhnjedmlbhaaW.PrintLast Go.Proofs.YtokkhnjedmlbhaaW.PrintMore Go.Proofs.YtokkhnjedmlbhaaHw Go.Proofs.YtokkhnjedmlbhaaGf
theorem emp8 {s : ByteArray} (h : s.size = 8) : s.toList.isEmpty = false := by
  rw [M.tl_eq]
  cases e : s.data.toList with
  | nil => exact absurd (by have := congrArg List.length e; rw [Array.length_toList] at this; exact this) (show ¬ s.size = 0 by omega)
  | cons _ _ => rfl
theorem padw_bad (key s : ByteArray) (w : World) (hk : ¬ M.okN key.size) :
    Calls Try.prog 137 #[.string key, .string s] w fun e w' => e = .returned (.tuple #[.string ⟨#[]⟩, .int .i64 2]) ∧ Below w.heap.size w w' := by
  have HK := Aside0.mk hk
  clear hk
  go_enter Try.func137, Try.ntmps137
  go_wp2_with (go_at_call 104; (with_reducible refine (new_bad _ _ HK.out).mono ?_); rintro e w1 ⟨rfl, hb1⟩; have HB := Aside0.mk hb1; clear hb1)
  go_ret2
  exact ⟨rfl, HB.out⟩
theorem padw_size (key s : ByteArray) (w : World) (hk : M.okN key.size) (hb : s.size < 1000000) (hs : ¬ (1 ≤ s.size ∧ s.size ≤ 65535)) :
    Calls Try.prog 137 #[.string key, .string s] w fun e w' => e = .returned (.tuple #[.string ⟨#[]⟩, .int .i64 4]) ∧ Below w.heap.size w w' := by
  have HK := Aside0.mk hk
  have HV := Aside0.mk (M.vl_n (s.size : Int) (by omega))
  have HP : Aside0 (octets_Pad.f s 8 = some (M.padT s 8)) := ⟨M.pad_c s 8 (by omega) (by omega) (by omega)⟩
  clear hk hs hb
  go_enter Try.func137, Try.ntmps137
  go_wp2_with (first
    | (go_at_call 104; (with_reducible refine (new_ok _ _ HK.out).mono ?_); rintro e w1 ⟨g, rfl, hC, hb1⟩; have HB := Aside0.mk hb1; clear hb1)
    | (go_at_call 143; (with_reducible refine (padwrap_Value.calls _ _ _ HV.out).mono ?_); rintro e w2 ⟨rfl, hb2⟩; have HB2 := Aside0.mk (below_then HB.out HB.out.size hb2); clear hb2)
    | (go_at_call 204; (with_reducible refine (octets_Pad.calls _ _ _ _ HP.out).mono ?_); rintro e w3 ⟨rfl, hb3⟩; have HB3 := Aside0.mk (below_then HB2.out HB2.out.size hb3); clear hb3))
  go_ret2
  exact ⟨rfl, HB3.out⟩
theorem padw_ok (key s v p r : ByteArray) (x : Int) (w : World) (hk : M.okN key.size) (hv : padwrap_Value.f (s.size : Int) = some v) (hp : octets_Pad.f s 8 = some p) (hvs : v.size = 8)
    (h : (p.size = 8 ∧ M.encR key (v ++ p) = (r, x)) ∨ (p.size ≠ 8 ∧ wrap_Raw.f key v p = some (r, x))) :
    Calls Try.prog 137 #[.string key, .string s] w fun e w' => e = .returned (.tuple #[.string r, .int .i64 x]) ∧ Below w.heap.size w w' := by
  have HK := Aside0.mk hk
  have HV := Aside0.mk hv
  have HP := Aside0.mk hp
  have hne : v.toList.isEmpty = false := emp8 hvs
  rcases h with ⟨h8, he⟩ | ⟨h8, he⟩
  · have HE := Aside0.mk he
    have e1 : (((p.size : Nat) : Int) == 8) = true := by rw [h8]; rfl
    have hcat : v.size + p.size ≤ 9223372036854775807 := by omega
    clear hk hv hp hvs he h8
    go_enter Try.func137, Try.ntmps137
    go_wp2_with (first
      | (go_at_call 104; (with_reducible refine (new_ok _ _ HK.out).mono ?_); rintro e w1 ⟨g, rfl, hC, hb1⟩; have HC := Aside0.mk hC; have HB := Aside0.mk hb1; clear hb1 hC)
      | (go_at_call 143; (with_reducible refine (padwrap_Value.calls _ _ _ HV.out).mono ?_); rintro e w2 ⟨rfl, hb2⟩; have HC2 := Aside0.mk (HC.out.below hb2); have HB2 := Aside0.mk (below_then HB.out HB.out.size hb2); clear hb2)
      | (go_at_call 204; (with_reducible refine (octets_Pad.calls _ _ _ _ HP.out).mono ?_); rintro e w3 ⟨rfl, hb3⟩; have HC3 := Aside0.mk (HC2.out.below hb3); have HB3 := Aside0.mk (below_then HB2.out HB2.out.size hb3); clear hb3)
      | (go_at_call 106; (with_reducible refine (enc_any g key _ _ HC3.out HK.out).mono ?_); rintro e w4 ⟨rfl, hb4⟩; rw [HE.out]; have HB4 := Aside0.mk (below_then HB3.out HB3.out.size hb4); clear hb4))
    go_ret2
    exact ⟨rfl, HB4.out⟩
  · have HE := Aside0.mk he
    have e1 : (((p.size : Nat) : Int) == 8) = false := beq_eq_false_iff_ne.mpr (by omega)
    clear hk hv hp hvs he h8
    go_enter Try.func137, Try.ntmps137
    go_wp2_with (first
      | (go_at_call 104; (with_reducible refine (new_ok _ _ HK.out).mono ?_); rintro e w1 ⟨g, rfl, hC, hb1⟩; have HB := Aside0.mk hb1; clear hb1 hC)
      | (go_at_call 143; (with_reducible refine (padwrap_Value.calls _ _ _ HV.out).mono ?_); rintro e w2 ⟨rfl, hb2⟩; have HB2 := Aside0.mk (below_then HB.out HB.out.size hb2); clear hb2)
      | (go_at_call 204; (with_reducible refine (octets_Pad.calls _ _ _ _ HP.out).mono ?_); rintro e w3 ⟨rfl, hb3⟩; have HB3 := Aside0.mk (below_then HB2.out HB2.out.size hb3); clear hb3)
      | (go_at_call 154; (with_reducible refine (wrap_Raw.calls _ _ _ _ _ _ HE.out).mono ?_); rintro e w4 ⟨rfl, hb4⟩; have HB4 := Aside0.mk (below_then HB3.out HB3.out.size hb4); clear hb4))
    go_ret2
    exact ⟨rfl, HB4.out⟩
theorem parted_bad (key cc : ByteArray) (w : World) (hk : ¬ M.okN key.size) :
    Calls Try.prog 206 #[.string key, .string cc] w fun e w' => e = .returned (.tuple #[.string ⟨#[]⟩, .string ⟨#[]⟩, .int .i64 2]) ∧ Below w.heap.size w w' := by
  have HK := Aside0.mk hk
  clear hk
  go_enter Try.func206, Try.ntmps206
  go_wp2_with (go_at_call 104; (with_reducible refine (new_bad _ _ HK.out).mono ?_); rintro e w1 ⟨rfl, hb1⟩; have HB := Aside0.mk hb1; clear hb1)
  refine bodyPost_ret (v := .tuple #[.string ⟨#[]⟩, .string ⟨#[]⟩, .int .i64 2]) (by simp [results, Try.results206, go_sem]) rfl ⟨rfl, HB.out⟩
theorem parted_un (key cc r0 r1 : ByteArray) (r2 : Int) (w : World) (hk : M.okN key.size) (hs : cc.size ≠ 16) (h : wrap_Unraw.f key cc = some (r0, r1, r2)) :
    Calls Try.prog 206 #[.string key, .string cc] w fun e w' => e = .returned (.tuple #[.string r0, .string r1, .int .i64 r2]) ∧ Below w.heap.size w w' := by
  have HK := Aside0.mk hk
  have HE := Aside0.mk h
  have e1 : (((cc.size : Nat) : Int) != 16) = true := bne_iff_ne.mpr (by omega)
  clear hk h hs
  go_enter Try.func206, Try.ntmps206
  go_wp2_with (first
    | (go_at_call 104; (with_reducible refine (new_ok _ _ HK.out).mono ?_); rintro e w1 ⟨g, rfl, hC, hb1⟩; have HB := Aside0.mk hb1; clear hb1 hC)
    | (go_at_call 156; (with_reducible refine (wrap_Unraw.calls _ _ _ _ _ _ HE.out).mono ?_); rintro e w4 ⟨rfl, hb4⟩; have HB4 := Aside0.mk (below_then HB.out HB.out.size hb4); clear hb4))
  refine bodyPost_ret (v := .tuple #[.string r0, .string r1, .int .i64 r2]) (by simp [results, Try.results206, go_sem]) rfl ⟨rfl, HB4.out⟩
theorem parted_one (key cc : ByteArray) (w : World) (hk : M.okN key.size) (hs : cc.size = 16) :
    Calls Try.prog 206 #[.string key, .string cc] w fun e w' => e = .returned (.tuple #[.string ((M.decT (M.ksB key) cc).extract 0 8), .string ((M.decT (M.ksB key) cc).extract 8 16), .int .i64 0]) ∧ Below w.heap.size w w' := by
  have HK := Aside0.mk hk
  have hd := M.dec_size (M.ks_facts hk).2.1 hs
  have HE : Aside0 (M.decR key cc = (M.decT (M.ksB key) cc, 0)) := ⟨by unfold M.decR; rw [if_pos hs]⟩
  generalize M.decT (M.ksB key) cc = b at *
  have e1 : (((cc.size : Nat) : Int) != 16) = false := by rw [hs]; rfl
  clear hk hs
  go_enter Try.func206, Try.ntmps206
  go_wp2_with (first
    | (go_at_call 104; (with_reducible refine (new_ok _ _ HK.out).mono ?_); rintro e w1 ⟨g, rfl, hC, hb1⟩; have HC := Aside0.mk hC; have HB := Aside0.mk hb1; clear hb1 hC)
    | (go_at_call 107; (with_reducible refine (dec_any g key _ _ HC.out HK.out).mono ?_); rintro e w4 ⟨rfl, hb4⟩; rw [HE.out]; have HB4 := Aside0.mk (below_then HB.out HB.out.size hb4); clear hb4))
  go_region
  go_wp2
  refine bodyPost_ret (v := .tuple #[.string (b.extract 0 8), .string (b.extract 8 16), .int .i64 0]) (by simp [results, Try.results206, go_sem]) rfl ⟨rfl, below_drew1 HB4.out⟩
def padwrap_Wrap.f (a0 a1 : ByteArray) : Option (ByteArray × Int) := if a1.size < 1000000 then some (M.padX a0 a1) else none
theorem padwrap_Wrap.calls (a0 a1 : ByteArray) (r0 : ByteArray) (r1 : Int) (w : World) (h : padwrap_Wrap.f a0 a1 = some (r0, r1)) :
    Calls Try.prog 137 #[.string a0, .string a1] w fun e w' => e = .returned (.tuple #[.string r0, .int .i64 r1]) ∧ Below w.heap.size w w' := by
  unfold padwrap_Wrap.f at h
  split at h
  case isFalse => cases h
  case isTrue hb =>
  unfold M.padX at h
  by_cases hk : M.okN a0.size
  · rw [if_pos hk] at h
    by_cases hs : 1 ≤ a1.size ∧ a1.size ≤ 65535
    · rw [if_pos hs] at h
      have hz := M.pad_8 a1
      have hvz := M.vl_size a1.size
      refine padw_ok a0 a1 (M.vlT a1.size) (M.padT a1 8) r0 r1 w hk (M.vl_c _ hs.1 hs.2) (M.pad_c a1 8 (by omega) (by omega) (by omega)) hvz ?_
      by_cases h8 : a1.size ≤ 8
      · rw [if_pos h8] at h
        refine .inl ⟨by omega, ?_⟩
        rw [← Option.some.inj h]
        unfold M.encR
        rw [if_pos (by rw [ByteArray.size_append]; omega)]
      · rw [if_neg h8] at h
        refine .inr ⟨by omega, ?_⟩
        rw [← h]
        unfold wrap_Raw.f M.rawX
        have hp2 : ((M.padT a1 8).size : Int) = ((8 * ((a1.size + 7) / 8) : Nat) : Int) := by rw [hz]
        rw [if_pos hk, if_pos hvz, hp2, M.steps_8 (by omega) (by omega), if_neg (by omega), hz, Nat.mul_div_cancel_left _ (by omega)]
    · rw [if_neg hs] at h
      obtain ⟨rfl, rfl⟩ := Prod.mk.inj (Option.some.inj h)
      exact padw_size a0 a1 w hk hb hs
  · rw [if_neg hk] at h
    obtain ⟨rfl, rfl⟩ := Prod.mk.inj (Option.some.inj h)
    exact padw_bad a0 a1 w hk
def padwrap_parted.f (a0 a1 : ByteArray) : Option (ByteArray × ByteArray × Int) := if a1.size < 1000000 then some (M.ptX a0 a1) else none
theorem padwrap_parted.calls (a0 a1 : ByteArray) (r0 r1 : ByteArray) (r2 : Int) (w : World) (h : padwrap_parted.f a0 a1 = some (r0, r1, r2)) :
    Calls Try.prog 206 #[.string a0, .string a1] w fun e w' => e = .returned (.tuple #[.string r0, .string r1, .int .i64 r2]) ∧ Below w.heap.size w w' := by
  unfold padwrap_parted.f at h
  split at h
  case isFalse => cases h
  case isTrue hb =>
  unfold M.ptX at h
  by_cases hk : M.okN a0.size
  · rw [if_pos hk] at h
    by_cases hs : a1.size = 16
    · rw [if_pos hs] at h
      obtain ⟨rfl, h2⟩ := Prod.mk.inj (Option.some.inj h)
      obtain ⟨rfl, rfl⟩ := Prod.mk.inj h2
      exact parted_one a0 a1 w hk hs
    · rw [if_neg hs] at h
      exact parted_un a0 a1 r0 r1 r2 w hk hs (by unfold wrap_Unraw.f; rw [if_pos hb]; exact h)
  · rw [if_neg hk] at h
    obtain ⟨rfl, h2⟩ := Prod.mk.inj (Option.some.inj h)
    obtain ⟨rfl, rfl⟩ := Prod.mk.inj h2
    exact parted_bad a0 a1 w hk
end Go.Proofs.Ytokkhnjedmlbhaa.Pr
end
