-- several texts in one (by the session's program shake.py)
import Derived.Test.YtokkhnjedmlbhaaZWordM
import Derived.Test.YtokkhnjedmlbhaaZPut
import Derived.Test.YtokkhnjedmlbhaaZHx
import Derived.Test.YtokkhnjedmlbhaaZPrk
section
namespace Go.Proofs.Ytokkhnjedmlbhaa.M
open Go.RowKit Go.Proofs.Ytokkhnjedmlbhaa.Pr Go.Proofs.YtokkhnjedmlbhaaW.PrintWords Go.Proofs.YtokkhnjedmlbhaaW.PrintLast Go.Proofs.YtokkhnjedmlbhaaW.PrintMore Go.Proofs.YtokkhnjedmlbhaaGf
set_option linter.unusedSimpArgs false
theorem xt_pw (m : Nat) : xt (pw 2 m) = pw 2 (m + 1) := by
  show _ = gm (pw 2 m) 2
  rw [gm_two (pw_lt m)]
theorem map_snoc (us : List Nat) (u : Nat) : us.map Int.ofNat ++ [((u : Nat) : Int)] = (us ++ [u]).map Int.ofNat := by rw [List.map_append]; rfl
theorem expL2_c (n : Nat) (hn : n = 4 ∨ n = 6 ∨ n = 8) (d : Nat) : ∀ (i : Nat) (us : List Nat), us.length = i → n ≤ i → i + d ≤ 60 → (∀ u ∈ us, u < 4294967296) →
    ∃ vs : List Nat, expL2 (mkB sT) n d i ((pw 2 ((i - 1) / n) : Nat) : Int) (us.map Int.ofNat) = some (vs.map Int.ofNat) ∧ vs.map wB = goB n d i (us.map wB) ∧ (∀ u ∈ vs, u < 4294967296) ∧ vs.length = i + d := by
  induction d with
  | zero => intro i us hl hi hb hu; exact ⟨us, rfl, rfl, hu, hl⟩
  | succ d ih =>
    intro i us hl hi hb hu
    have h1 : ((i : Int) - 1) = ((i - 1 : Nat) : Int) := by omega
    have h2 : ((i : Int) - n) = ((i - n : Nat) : Int) := by omega
    have p1 := getD_lt hu (i - 1)
    have p2 := getD_lt hu (i - n)
    have hc := pw_lt (a := 2) ((i - 1) / n)
    have e1 := getD_map_wB us (show i - 1 < us.length by omega)
    have e2 := getD_map_wB us (show i - n < us.length by rcases hn with rfl | rfl | rfl <;> omega)
    simp only [expL2, goB]
    rw [h1, h2, rd_cast, rd_cast, if_pos (by omega), if_pos (by omega), e1, e2]
    have fin : ∀ (v c' : Nat), v < 4294967296 → c' = (i + 1 - 1) / n → wB v = stepB n i (wB (us.getD (i - n) 0)) (wB (us.getD (i - 1) 0)) →
        ∃ vs : List Nat, expL2 (mkB sT) n d (i + 1) ((pw 2 c' : Nat) : Int) (us.map Int.ofNat ++ [((v : Nat) : Int)]) = some (vs.map Int.ofNat) ∧ vs.map wB = goB n d (i + 1) (us.map wB ++ [stepB n i (wB (us.getD (i - n) 0)) (wB (us.getD (i - 1) 0))]) ∧ (∀ u ∈ vs, u < 4294967296) ∧ vs.length = i + (d + 1) := by
      intro v c' hv hc' hw
      obtain ⟨vs, q1, q2, q3, q4⟩ := ih (i + 1) (us ++ [v]) (by simp [hl]) (by omega) (by omega) (fun u h => by
        rcases List.mem_append.1 h with h | h
        · exact hu u h
        · have : u = v := by simpa using h
          subst this; exact hv)
      refine ⟨vs, ?_, ?_, q3, by omega⟩
      · rw [map_snoc, hc']; exact q1
      · rw [q2, List.map_append, ← hw]; rfl
    generalize us.getD (i - 1) 0 = t at *
    generalize us.getD (i - n) 0 = q at *
    by_cases hm : i % n = 0
    · rw [if_pos hm]
      have hk : (i + 1 - 1) / n = (i - 1) / n + 1 := by rcases hn with rfl | rfl | rfl <;> omega
      have hk2 : i / n - 1 = (i - 1) / n := by rcases hn with rfl | rfl | rfl <;> omega
      rw [show (((pw 2 ((i - 1) / n) : Nat) : Int) % 256) = ((pw 2 ((i - 1) / n) : Nat) : Int) by omega, twice_c hc]
      simp only [Option.bind_some]
      rw [xt_pw, show (((pw 2 ((i - 1) / n + 1) : Nat) : Int) % 4294967296) = ((pw 2 ((i - 1) / n + 1) : Nat) : Int) by have := pw_lt (a := 2) ((i - 1) / n + 1); omega,
        rotw_n p1, subW_n (rotW_lt p1), show (((pw 2 ((i - 1) / n) : Nat) : Int) * 16777216 % 4294967296) = ((pw 2 ((i - 1) / n) * 16777216 : Nat) : Int) by omega,
        u32_xor_nat _ _ (subWN_lt _) (by omega), u32_xor_nat _ _ p2 (Nat.xor_lt_two_pow (n := 32) (subWN_lt _) (by omega))]
      refine fin _ _ (Nat.xor_lt_two_pow (n := 32) p2 (Nat.xor_lt_two_pow (n := 32) (subWN_lt _) (by omega))) hk.symm ?_
      unfold stepB
      rw [if_pos hm, ← wB_rot p1, ← wB_sub, hk2, ← wB_top hc, wB_xor, wB_xor]
    · rw [if_neg hm]
      have hk : (i + 1 - 1) / n = (i - 1) / n := by rcases hn with rfl | rfl | rfl <;> omega
      by_cases h8 : n = 8 ∧ i % 8 = 4
      · rw [if_pos h8, subW_n p1, u32_xor_nat _ _ p2 (subWN_lt _)]
        refine fin _ _ (Nat.xor_lt_two_pow (n := 32) p2 (subWN_lt _)) hk.symm ?_
        unfold stepB
        rw [if_neg hm, if_pos h8, ← wB_sub, wB_xor]
      · rw [if_neg h8, u32_xor_nat _ _ p2 p1]
        refine fin _ _ (Nat.xor_lt_two_pow (n := 32) p2 p1) hk.symm ?_
        unfold stepB
        rw [if_neg hm, if_neg h8, wB_xor]
/-- The number of the first i bytes. -/
def beT (s : ByteArray) : Nat → Nat
  | 0 => 0
  | i + 1 => beT s i * 256 + bb s i
theorem beT_lt (s : ByteArray) (i : Nat) : beT s i < 256 ^ i := by
  induction i with
  | zero => show 0 < 1; omega
  | succ i ih =>
    have := bb_lt s i
    simp only [beT, Nat.pow_succ]
    omega
theorem getL (s : ByteArray) (hs : s.size ≤ 8) (d : Nat) : ∀ i, s.size - i = d → i ≤ s.size → Ev (fun k => octets_Get.l0 k s ((beT s i : Nat) : Int) ((s.size : Nat) : Int) (i : Int)) (((beT s s.size : Nat) : Int), true) := by
  induction d with
  | zero =>
    intro i hd hi
    obtain rfl : i = s.size := by omega
    exact Ev.step (f := fun _ => some (((beT s s.size : Nat) : Int), true)) (fun k => by simp only [octets_Get.l0]; rw [if_neg (by omega)]) (Ev.now _)
  | succ d ih =>
    intro i hd hi
    have h1 := beT_lt s i
    have h2 := bb_lt s i
    have h3 : 256 ^ i ≤ 256 ^ 7 := Nat.pow_le_pow_right (by omega) (by omega)
    refine Ev.step (fun k => ?_) (ih (i + 1) (by omega) (by omega))
    simp only [octets_Get.l0]
    rw [if_pos (by omega), if_pos (by omega), if_pos (by omega), bt_bb, wrap_id (x := (i : Int) + 1) (by omega) (by omega)]
    rw [show IntKind.u64.wrap (((beT s i : Nat) : Int) * 256) = ((2 ^ 8 * beT s i : Nat) : Int) by rw [IntKind.wrap_u64]; omega, show IntKind.u64.wrap ((bb s i : Nat) : Int) = ((bb s i : Nat) : Int) by rw [IntKind.wrap_u64]; omega,
      u64_or_nat _ _ (by omega) (by omega), or_add (by omega)]
    simp only [beT]
    rw [Nat.mul_comm (beT s i)]
    rfl
theorem get_c (s : ByteArray) (h0 : 0 < s.size) (h8 : s.size ≤ 8) : Ev (fun k => octets_Get.f k s) (((beT s s.size : Nat) : Int), true) := by
  unfold octets_Get.f
  refine evn (by omega) ?_
  refine Ev.step (f := fun k => octets_Get.l0 k s 0 (s.size : Int) 0) (fun k => by simp only [octets_Get.j0]; rw [if_neg (by simp; omega)]) ?_
  exact getL s h8 _ 0 rfl (by omega)
/-- Texts, one behind the other. -/
def catB : List ByteArray → ByteArray
  | [] => ⟨#[]⟩
  | a :: l => a ++ catB l
theorem nb_append (a b : ByteArray) : nb (a ++ b) = nb a ++ nb b := by
  conv => lhs; rw [← mkB_nb a, ← mkB_nb b, mkB_append]
  rw [nb_mkB (isB_append.2 ⟨isB_nb a, isB_nb b⟩)]
theorem ext_left (a b : ByteArray) : (a ++ b).extract 0 a.size = a := by
  rw [extract_nb, nb_append, List.drop_zero, List.take_left' (nb_length a), mkB_nb]
theorem ext_right (a b : ByteArray) : (a ++ b).extract a.size (a ++ b).size = b := by
  rw [extract_nb, nb_append, List.take_of_length_le (by rw [List.length_append, nb_length, nb_length, ByteArray.size_append]; exact Nat.le_refl _), List.drop_left' (nb_length a), mkB_nb]
theorem piecesL (n : Nat) (hn : 0 < n) : ∀ (l : List ByteArray) (a : ByteArray) (out : List ByteArray), (∀ x ∈ a :: l, x.size = n) → out.length + l.length < 8796093022207 → Ev (fun k => octets_Pieces.l0 k (catB (a :: l)) (n : Int) out) (out ++ a :: l)
  | [], a, out, h, ho => by
    have ha := h a (by simp)
    have e : catB [a] = a := by show a ++ (⟨#[]⟩ : ByteArray) = a; rw [show (⟨#[]⟩ : ByteArray) = mkB [] from rfl, ← mkB_nb a, mkB_append, List.append_nil]
    refine Ev.step (f := fun _ => some (out ++ [a])) (fun k => ?_) (Ev.now _)
    simp only [octets_Pieces.l0]
    rw [e, if_neg (by omega), if_pos (by omega)]
  | b :: l, a, out, h, ho => by
    have ha := h a (by simp)
    have hb := h b (by simp)
    have hh := piecesL n hn l b (out ++ [a]) (fun x hx => h x (by simp at hx ⊢; exact .inr hx)) (by simp at ho ⊢; omega)
    rw [List.append_assoc] at hh
    have hs : (catB (a :: b :: l)).size = n + (catB (b :: l)).size := by show (a ++ catB (b :: l)).size = _; rw [ByteArray.size_append, ha]
    have hs2 : (catB (b :: l)).size = n + (catB l).size := by show (b ++ catB l).size = _; rw [ByteArray.size_append, hb]
    refine Ev.step (fun k => ?_) hh
    simp only [octets_Pieces.l0]
    rw [if_pos (by omega), if_pos (by omega), if_pos (by omega), if_pos (by simp at ho; omega), Int.toNat_natCast]
    have h1 : (catB (a :: b :: l)).extract 0 n = a := by rw [← ha]; exact ext_left a _
    have h2 : (catB (a :: b :: l)).extract n (catB (a :: b :: l)).size = catB (b :: l) := by rw [← ha]; exact ext_right a _
    rw [h1, h2]
theorem tl_loop (s : ByteArray) : ∀ (d i : Nat) (r : List UInt8), s.size - i = d → ByteArray.toList.loop s i r = r.reverse ++ s.data.toList.drop i := by
  intro d
  induction d with
  | zero =>
    intro i r h
    rw [ByteArray.toList.loop, if_neg (by omega), List.drop_of_length_le (by rw [Array.length_toList]; show s.size ≤ i; omega), List.append_nil]
  | succ d ih =>
    intro i r h
    have hi : i < s.size := by omega
    rw [ByteArray.toList.loop, if_pos hi, ih (i + 1) _ (by omega), List.reverse_cons, List.append_assoc]
    have hi' : i < s.data.toList.length := by rw [Array.length_toList]; exact hi
    rw [List.drop_eq_getElem_cons hi']
    congr 1
    simp [ByteArray.get!, hi]
theorem tl_eq (s : ByteArray) : s.toList = s.data.toList := by
  unfold ByteArray.toList
  rw [tl_loop s _ 0 [] rfl]
  rfl
theorem toList_ne {s : ByteArray} (h : 0 < s.size) : (s.toList == ([] : List UInt8)) = false := by
  refine beq_eq_false_iff_ne.mpr (fun e => ?_)
  rw [tl_eq] at e
  have : s.data.toList.length = 0 := by rw [e]; rfl
  rw [Array.length_toList] at this
  have h2 : s.data.size = s.size := rfl
  omega
theorem pieces_c (n : Nat) (hn : 0 < n) (hn2 : n ≤ 1000) (a : ByteArray) (l : List ByteArray) (h : ∀ x ∈ a :: l, x.size = n) (hl : l.length < 1000000) (hs : (catB (a :: l)).size < 1000000000) : Ev (fun k => octets_Pieces.f k (catB (a :: l)) (n : Int)) (a :: l) := by
  have h0 : 0 < (catB (a :: l)).size := by
    show 0 < (a ++ catB l).size
    rw [ByteArray.size_append, h a (by simp)]; omega
  have hd : (catB (a :: l)).size / n ≤ (catB (a :: l)).size := Nat.div_le_self _ _
  have e : (((catB (a :: l)).size : Int) / (n : Int)) = (((catB (a :: l)).size / n : Nat) : Int) := by rw [Int.natCast_ediv]
  unfold octets_Pieces.f
  refine evn (by omega) ?_
  rw [toList_ne h0]
  refine Ev.step (fun k => ?_) (piecesL n hn l a [] h (by simp; omega))
  simp only [octets_Pieces.j0]
  rw [if_neg (by simp), if_neg (by omega), e]
  generalize (catB (a :: l)).size / n = q at *
  rw [wrap_id (x := (q : Int)) (by omega) (by omega), wrap_id (by omega) (by omega), if_pos (by omega), if_pos (by omega)]
theorem join_flat (l : List (List UInt8)) : Lib.join l [] = l.flatten := by
  show List.intercalate [] l = _
  unfold List.intercalate
  induction l with
  | nil => rfl
  | cons a l ih =>
    cases l with
    | nil => simp
    | cons b l =>
      rw [List.intersperse_cons_cons, List.flatten_cons, List.flatten_cons, ih]
      rfl
theorem catB_data (l : List ByteArray) : (catB l).data.toList = (l.map (·.data.toList)).flatten := by
  induction l with
  | nil => rfl
  | cons a l ih =>
    show (a ++ catB l).data.toList = _
    rw [ByteArray.data_append, Array.toList_append, ih]
    rfl
theorem joinB_cat (l : List ByteArray) : joinB l = catB l := by
  apply ByteArray.ext
  apply Array.ext'
  rw [catB_data]
  show (Lib.join (l.map (·.data.toList)) []).toArray.toList = _
  rw [join_flat]
theorem join_c (l : List ByteArray) (h1 : l.length ≤ 140737488355328) (h2 : (catB l).size ≤ 140737488355328) : octets_Join.f l = some (catB l) := by
  unfold octets_Join.f
  have e : (Lib.join (l.map (·.data.toList)) []).length = (catB l).size := by
    rw [join_flat, ← catB_data, data_length]
  rw [if_pos h1, e, if_pos h2, joinB_cat]
end Go.Proofs.Ytokkhnjedmlbhaa.M
end
section
namespace Go.Proofs.Ytokkhnjedmlbhaa.M
open Go.RowKit Go.Proofs.Ytokkhnjedmlbhaa.Pr Go.Proofs.YtokkhnjedmlbhaaW.PrintWords Go.Proofs.YtokkhnjedmlbhaaW.PrintLast Go.Proofs.YtokkhnjedmlbhaaW.PrintMore Go.Proofs.YtokkhnjedmlbhaaGf
set_option linter.unusedSimpArgs false
def all16 (ks : List ByteArray) : Prop := ∀ k ∈ ks, k.size = 16
end Go.Proofs.Ytokkhnjedmlbhaa.M
end
section
namespace Go.Proofs.Ytokkhnjedmlbhaa.M
open Go.RowKit Go.Proofs.Ytokkhnjedmlbhaa.Pr Go.Proofs.YtokkhnjedmlbhaaW.PrintWords Go.Proofs.YtokkhnjedmlbhaaW.PrintLast Go.Proofs.YtokkhnjedmlbhaaW.PrintMore Go.Proofs.YtokkhnjedmlbhaaGf
set_option linter.unusedSimpArgs false
def okN (n : Nat) : Prop := n = 16 ∨ n = 24 ∨ n = 32
instance (n : Nat) : Decidable (okN n) := inferInstanceAs (Decidable (n = 16 ∨ n = 24 ∨ n = 32))
def allS (n : Nat) (l : List ByteArray) : Prop := ∀ x ∈ l, x.size = n
theorem append_empty (a : ByteArray) : a ++ (⟨#[]⟩ : ByteArray) = a := by rw [emptyB, ← mkB_nb a, mkB_append, List.append_nil]
theorem empty_append' (a : ByteArray) : (⟨#[]⟩ : ByteArray) ++ a = a := by rw [emptyB, ← mkB_nb a, mkB_append, List.nil_append]
theorem cat_app (l m : List ByteArray) : catB (l ++ m) = catB l ++ catB m := by
  induction l with
  | nil => exact (empty_append' _).symm
  | cons a l ih =>
    show a ++ catB (l ++ m) = (a ++ catB l) ++ catB m
    rw [ih, ByteArray.append_assoc]
theorem cat_one (a : ByteArray) : catB [a] = a := append_empty a
theorem cat_size (n : Nat) : ∀ (l : List ByteArray), allS n l → (catB l).size = n * l.length
  | [], _ => rfl
  | a :: l, h => by
    show (a ++ catB l).size = _
    rw [ByteArray.size_append, h a (by simp), cat_size n l (fun x hx => h x (by simp [hx])), List.length_cons, Nat.mul_succ, Nat.add_comm]
theorem ext_join (s : ByteArray) (a b : Nat) (h : a ≤ b) : s.extract 0 a ++ s.extract a b = s.extract 0 b := by
  rw [extract_nb, extract_nb, extract_nb, mkB_append]
  congr 1
  rw [List.drop_zero, List.drop_zero]
  have : (nb s).take a = ((nb s).take b).take a := by rw [List.take_take, Nat.min_eq_left h]
  rw [this, List.take_append_drop]
theorem pcs_cat (n : Nat) (s : ByteArray) (m : Nat) : catB (pcs n m s) = s.extract 0 (n * m) := by
  induction m with
  | zero => show (⟨#[]⟩ : ByteArray) = _; rw [Nat.mul_zero, extract_nb]; rfl
  | succ m ih =>
    have e : pcs n (m + 1) s = pcs n m s ++ [s.extract (n * m) (n * m + n)] := by
      unfold pcs; rw [List.range_succ, List.map_append]; rfl
    rw [e, cat_app, ih, cat_one, ext_join s _ _ (by omega), Nat.mul_succ]
theorem ext_all (s : ByteArray) : s.extract 0 s.size = s := by
  rw [extract_nb, List.drop_zero, List.take_of_length_le (by rw [nb_length]; exact Nat.le_refl _), mkB_nb]
theorem pcs_all {n m : Nat} {s : ByteArray} (h : s.size = n * m) : catB (pcs n m s) = s := by rw [pcs_cat, ← h, ext_all]
theorem pcs_length (n m : Nat) (s : ByteArray) : (pcs n m s).length = m := by simp [pcs]
theorem pcs_size {n m : Nat} {s : ByteArray} (h : n * m ≤ s.size) : allS n (pcs n m s) := by
  intro x hx
  obtain ⟨i, hi, rfl⟩ := List.mem_map.1 hx
  have hi := List.mem_range.1 hi
  have : n * i + n ≤ n * m := by rw [← Nat.mul_succ]; exact Nat.mul_le_mul_left n hi
  rw [ByteArray.size_extract]; omega
/-- What octets_Pieces makes of a text of m pieces. -/
theorem pieces_m {n m : Nat} {s : ByteArray} (hn : 0 < n) (hn2 : n ≤ 1000) (hm : m < 1000000) (h : s.size = n * m) : Ev (fun k => octets_Pieces.f k s (n : Int)) (pcs n m s) := by
  cases m with
  | zero =>
    have h0 : s = ⟨#[]⟩ := by rw [← ext_all s, h, Nat.mul_zero, extract_nb]; rfl
    subst h0
    unfold octets_Pieces.f
    refine evn (by omega) ?_
    exact Ev.step (f := fun _ => some []) (fun k => by simp only [octets_Pieces.j0]; rw [if_pos (by decide +kernel)]) (Ev.now _)
  | succ m =>
    obtain ⟨a, l, e⟩ : ∃ a l, pcs n (m + 1) s = a :: l := by
      cases e : pcs n (m + 1) s with
      | nil => have := pcs_length n (m + 1) s; rw [e] at this; cases this
      | cons a l => exact ⟨a, l, rfl⟩
    have hc := pcs_all h
    have hs := pcs_size (n := n) (m := m + 1) (s := s) (by omega)
    have hl := pcs_length n (m + 1) s
    rw [e] at hc hs hl ⊢
    have : s.size < 1000000000 := by
      rw [h]
      have : n * (m + 1) ≤ 1000 * (m + 1) := Nat.mul_le_mul_right _ hn2
      omega
    rw [← hc]
    exact pieces_c n hn hn2 a l hs (by simp at hl; omega) (by rw [hc]; exact this)
theorem T4 (s : ByteArray) (hs : s.size = 4) : mkB [bb s 0, bb s 1, bb s 2, bb s 3] = s := by
  conv => rhs; rw [← mkB_nb s]
  congr 1
  have hl := nb_length s
  rw [hs] at hl
  rw [bb_nb, bb_nb, bb_nb, bb_nb]
  match h : nb s, hl with
  | [a, b, c, d], _ => rfl
theorem be4 (p : ByteArray) (hp : p.size = 4) : wB (beT p 4) = p ∧ beT p 4 < 4294967296 := by
  have h0 := bb_lt p 0; have h1 := bb_lt p 1; have h2 := bb_lt p 2; have h3 := bb_lt p 3
  have e : beT p 4 = ((bb p 0 * 256 + bb p 1) * 256 + bb p 2) * 256 + bb p 3 := by simp [beT]
  refine ⟨?_, by omega⟩
  conv => rhs; rw [← T4 p hp]
  rw [e]
  unfold wB wL
  congr 1
  simp only [List.cons.injEq, and_true]
  refine ⟨by omega, by omega, by omega, by omega⟩
theorem expL1_c : ∀ (ps : List ByteArray) (us : List Nat), allS 4 ps → (∀ u ∈ us, u < 4294967296) → ∃ vs : List Nat, Ev (fun k => expL1 k ps (us.map Int.ofNat)) (vs.map Int.ofNat) ∧ vs.map wB = us.map wB ++ ps ∧ (∀ v ∈ vs, v < 4294967296)
  | [], us, _, hu => ⟨us, Ev.now _, by simp, hu⟩
  | p :: ps, us, h, hu => by
    have hp := h p (by simp)
    obtain ⟨b1, b2⟩ := be4 p hp
    obtain ⟨vs, h1, h2, h3⟩ := expL1_c ps (us ++ [beT p 4]) (fun x hx => h x (by simp [hx])) (fun u hx => by
      rcases List.mem_append.1 hx with hx | hx
      · exact hu u hx
      · have : u = beT p 4 := by simpa using hx
        subst this; exact b2)
    refine ⟨vs, ?_, ?_, h3⟩
    · have hg := get_c p (by omega) (by omega)
      rw [hp] at hg
      refine evb hg ?_
      show Ev (fun k => expL1 k ps (us.map Int.ofNat ++ [((beT p 4 : Nat) : Int) % 4294967296])) _
      rw [show ((beT p 4 : Nat) : Int) % 4294967296 = ((beT p 4 : Nat) : Int) by omega, map_snoc]
      exact h1
    · rw [h2, List.map_append, List.append_assoc]
      show us.map wB ++ ([wB (beT p 4)] ++ ps) = _
      rw [b1]; rfl
theorem goB_length (n : Nat) : ∀ (d i : Nat) (ws : List ByteArray), (goB n d i ws).length = ws.length + d
  | 0, _, _ => rfl
  | d + 1, i, ws => by simp only [goB]; rw [goB_length n d, List.length_append, List.length_singleton]; omega
theorem goB_pre (n : Nat) : ∀ (d i : Nat) (ws : List ByteArray), ∃ r, goB n d i ws = ws ++ r
  | 0, _, ws => ⟨[], (List.append_nil ws).symm⟩
  | d + 1, i, ws => by
    obtain ⟨r, h⟩ := goB_pre n d (i + 1) (ws ++ [stepB n i (ws.getD (i - n) ByteArray.empty) (ws.getD (i - 1) ByteArray.empty)])
    exact ⟨_, by simp only [goB]; rw [h, List.append_assoc]⟩
theorem stepB_size (n i : Nat) {q t : ByteArray} (hq : q.size = 4) (ht : t.size = 4) : (stepB n i q t).size = 4 := by
  have hr : (t.extract 1 4 ++ t.extract 0 1).size = 4 := by rw [ByteArray.size_append, ByteArray.size_extract, ByteArray.size_extract]; omega
  unfold stepB
  split
  · rw [xorT_size, xorT_size, sb_size, hr, hq, mkB_size]; rfl
  · split
    · rw [xorT_size, sb_size, hq, ht]; rfl
    · rw [xorT_size, hq, ht]; rfl
theorem getD_size {n : Nat} {ws : List ByteArray} (h : allS n ws) {j : Nat} (hj : j < ws.length) : (ws.getD j ByteArray.empty).size = n := by
  rw [List.getD_eq_getElem?_getD, List.getElem?_eq_getElem hj]
  exact h _ (List.getElem_mem hj)
theorem goB_size (n : Nat) (hn : 0 < n) : ∀ (d i : Nat) (ws : List ByteArray), allS 4 ws → ws.length = i → n ≤ i → allS 4 (goB n d i ws)
  | 0, _, _, h, _, _ => h
  | d + 1, i, ws, h, hl, hi => by
    simp only [goB]
    refine goB_size n hn d (i + 1) _ (fun x hx => ?_) (by simp [hl]) (by omega)
    rcases List.mem_append.1 hx with hx | hx
    · exact h x hx
    · have : x = stepB n i (ws.getD (i - n) ByteArray.empty) (ws.getD (i - 1) ByteArray.empty) := by simpa using hx
      rw [this]
      exact stepB_size n i (getD_size h (by omega)) (getD_size h (by omega))
def quads : List ByteArray → List ByteArray
  | a :: b :: c :: d :: l => (a ++ (b ++ (c ++ d))) :: quads l
  | _ => []
theorem quads_all : ∀ (m : Nat) (l : List ByteArray), l.length = 4 * m → allS 4 l → catB (quads l) = catB l ∧ (quads l).length = m ∧ all16 (quads l)
  | 0, l, h, _ => by
    obtain rfl : l = [] := List.eq_nil_of_length_eq_zero (by omega)
    exact ⟨rfl, rfl, fun x hx => by cases hx⟩
  | m + 1, l, h, hs => by
    match l, h with
    | a :: b :: c :: d :: l, h =>
      obtain ⟨h1, h2, h3⟩ := quads_all m l (by simp at h; omega) (fun x hx => hs x (by simp [hx]))
      refine ⟨?_, by simp [quads, h2], ?_⟩
      · show (a ++ (b ++ (c ++ d))) ++ catB (quads l) = a ++ (b ++ (c ++ (d ++ catB l)))
        rw [h1, ByteArray.append_assoc, ByteArray.append_assoc, ByteArray.append_assoc]
      · intro x hx
        rcases List.mem_cons.1 hx with rfl | hx
        · rw [ByteArray.size_append, ByteArray.size_append, ByteArray.size_append, hs a (by simp), hs b (by simp), hs c (by simp), hs d (by simp)]
        · exact h3 x hx
/-- The keys of the rounds. -/
def ksB (key : ByteArray) : List ByteArray := quads (wordsB key)
theorem words_facts {key : ByteArray} (h : okN key.size) : (wordsB key).length = 4 * (key.size / 4 + 7) ∧ allS 4 (wordsB key) ∧ ∃ r, wordsB key = pcs 4 (key.size / 4) key ++ r := by
  have h4 : key.size = 4 * (key.size / 4) := by rcases h with h | h | h <;> omega
  have hp := pcs_size (n := 4) (m := key.size / 4) (s := key) (by omega)
  unfold wordsB
  refine ⟨?_, goB_size _ (by rcases h with h | h | h <;> omega) _ _ _ hp (pcs_length _ _ _) (Nat.le_refl _), goB_pre _ _ _ _⟩
  rw [goB_length, pcs_length]; omega
theorem ks_facts {key : ByteArray} (h : okN key.size) : (ksB key).length = key.size / 4 + 7 ∧ all16 (ksB key) ∧ catB (ksB key) = catB (wordsB key) ∧ ∃ r, catB (ksB key) = key ++ r := by
  obtain ⟨h1, h2, r, h3⟩ := words_facts h
  obtain ⟨q1, q2, q3⟩ := quads_all _ _ h1 h2
  refine ⟨q2, q3, q1, catB r, ?_⟩
  rw [show ksB key = quads (wordsB key) from rfl, q1, h3, cat_app, pcs_all (by rcases h with h | h | h <;> omega)]
theorem ks_len {key : ByteArray} (h : okN key.size) : 2 ≤ (ksB key).length ∧ (ksB key).length ≤ 100 := by
  rw [(ks_facts h).1]
  rcases h with h | h | h <;> rw [h] <;> decide
theorem app_inj {a b r q : ByteArray} (hs : a.size = b.size) (h : a ++ r = b ++ q) : a = b := by
  rw [← ext_left a r, h, hs, ext_left b q]
/-- Unlike keys have unlike ones. -/
theorem ks_inj {a b : ByteArray} (ha : okN a.size) (hb : okN b.size) (h : ksB a = ksB b) : a = b := by
  obtain ⟨l1, _, _, r1, c1⟩ := ks_facts ha
  obtain ⟨l2, _, _, r2, c2⟩ := ks_facts hb
  have hl : a.size / 4 = b.size / 4 := by rw [h, l2] at l1; omega
  have hs : a.size = b.size := by rcases ha with ha | ha | ha <;> rcases hb with hb | hb | hb <;> omega
  exact app_inj hs (c1.symm.trans ((congrArg catB h).trans c2))
end Go.Proofs.Ytokkhnjedmlbhaa.M
end
