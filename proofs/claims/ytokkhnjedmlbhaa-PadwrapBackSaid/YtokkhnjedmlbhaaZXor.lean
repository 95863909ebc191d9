-- several texts in one (by the session's program shake.py)
import Derived.Test.YtokkhnjedmlbhaaZWordM
import Derived.Test.YtokkhnjedmlbhaaZAesAdd
import Derived.Test.YtokkhnjedmlbhaaZPrg01
import Derived.Test.YtokkhnjedmlbhaaZPrg05
import Derived.Test.YtokkhnjedmlbhaaZAesM
import Derived.Test.YtokkhnjedmlbhaaZPut
import Derived.Test.YtokkhnjedmlbhaaZPrg01x
import Derived.Test.YtokkhnjedmlbhaaZPrg06
import Derived.Test.YtokkhnjedmlbhaaZPrg08
import Derived.RegionTactic
import Derived.Laws.CopyOwn
import Derived.ChangeAlike
section
namespace Go.Proofs.Ytokkhnjedmlbhaa.M
open Go.RowKit Go.Proofs.Ytokkhnjedmlbhaa.Pr Go.Proofs.YtokkhnjedmlbhaaW.PrintWords Go.Proofs.YtokkhnjedmlbhaaW.PrintLast Go.Proofs.YtokkhnjedmlbhaaW.PrintMore Go.Proofs.YtokkhnjedmlbhaaGf
set_option linter.unusedSimpArgs false
theorem xt_pw (m : Nat) : xt (pw 2 m) = pw 2 (m + 1) := by
  show _ = gm (pw 2 m) 2
  rw [gm_two (pw_lt m)]
theorem map_snoc (us : List Nat) (u : Nat) : us.map Int.ofNat ++ [((u : Nat) : Int)] = (us ++ [u]).map Int.ofNat := by rw [List.map_append]; rfl
theorem expL2_c (n : Nat) (hn : n = 4 ∨ n = 6 ∨ n = 8) (d : Nat) : ∀ (i : Nat) (us : List Nat), us.length = i → n ≤ i → i + d ≤ 60 → (∀ u ∈ us, u < 4294967296) →
    ∃ vs : List Nat, expL2 (mkB sT) n d i ((pw 2 ((i - 1) / n) : Nat) : Int) (us.map Int.ofNat) = some (vs.map Int.ofNat) ∧ vs.map wB = goB n d i (us.map wB) ∧ (∀ u ∈ vs, u < 4294967296) ∧ vs.length = i + d := by
  induction d with
  | zero => intro i us hl hi hb hu; exact ⟨us, rfl, rfl, hu, hl⟩
  | succ d ih =>
    intro i us hl hi hb hu
    have h1 : ((i : Int) - 1) = ((i - 1 : Nat) : Int) := by omega
    have h2 : ((i : Int) - n) = ((i - n : Nat) : Int) := by omega
    have p1 := getD_lt hu (i - 1)
    have p2 := getD_lt hu (i - n)
    have hc := pw_lt (a := 2) ((i - 1) / n)
    have e1 := getD_map_wB us (show i - 1 < us.length by omega)
    have e2 := getD_map_wB us (show i - n < us.length by rcases hn with rfl | rfl | rfl <;> omega)
    simp only [expL2, goB]
    rw [h1, h2, rd_cast, rd_cast, if_pos (by omega), if_pos (by omega), e1, e2]
    have fin : ∀ (v c' : Nat), v < 4294967296 → c' = (i + 1 - 1) / n → wB v = stepB n i (wB (us.getD (i - n) 0)) (wB (us.getD (i - 1) 0)) →
        ∃ vs : List Nat, expL2 (mkB sT) n d (i + 1) ((pw 2 c' : Nat) : Int) (us.map Int.ofNat ++ [((v : Nat) : Int)]) = some (vs.map Int.ofNat) ∧ vs.map wB = goB n d (i + 1) (us.map wB ++ [stepB n i (wB (us.getD (i - n) 0)) (wB (us.getD (i - 1) 0))]) ∧ (∀ u ∈ vs, u < 4294967296) ∧ vs.length = i + (d + 1) := by
      intro v c' hv hc' hw
      obtain ⟨vs, q1, q2, q3, q4⟩ := ih (i + 1) (us ++ [v]) (by simp [hl]) (by omega) (by omega) (fun u h => by
        rcases List.mem_append.1 h with h | h
        · exact hu u h
        · have : u = v := by simpa using h
          subst this; exact hv)
      refine ⟨vs, ?_, ?_, q3, by omega⟩
      · rw [map_snoc, hc']; exact q1
      · rw [q2, List.map_append, ← hw]; rfl
    generalize us.getD (i - 1) 0 = t at *
    generalize us.getD (i - n) 0 = q at *
    by_cases hm : i % n = 0
    · rw [if_pos hm]
      have hk : (i + 1 - 1) / n = (i - 1) / n + 1 := by rcases hn with rfl | rfl | rfl <;> omega
      have hk2 : i / n - 1 = (i - 1) / n := by rcases hn with rfl | rfl | rfl <;> omega
      rw [show (((pw 2 ((i - 1) / n) : Nat) : Int) % 256) = ((pw 2 ((i - 1) / n) : Nat) : Int) by omega, twice_c hc]
      simp only [Option.bind_some]
      rw [xt_pw, show (((pw 2 ((i - 1) / n + 1) : Nat) : Int) % 4294967296) = ((pw 2 ((i - 1) / n + 1) : Nat) : Int) by have := pw_lt (a := 2) ((i - 1) / n + 1); omega,
        rotw_n p1, subW_n (rotW_lt p1), show (((pw 2 ((i - 1) / n) : Nat) : Int) * 16777216 % 4294967296) = ((pw 2 ((i - 1) / n) * 16777216 : Nat) : Int) by omega,
        u32_xor_nat _ _ (subWN_lt _) (by omega), u32_xor_nat _ _ p2 (Nat.xor_lt_two_pow (n := 32) (subWN_lt _) (by omega))]
      refine fin _ _ (Nat.xor_lt_two_pow (n := 32) p2 (Nat.xor_lt_two_pow (n := 32) (subWN_lt _) (by omega))) hk.symm ?_
      unfold stepB
      rw [if_pos hm, ← wB_rot p1, ← wB_sub, hk2, ← wB_top hc, wB_xor, wB_xor]
    · rw [if_neg hm]
      have hk : (i + 1 - 1) / n = (i - 1) / n := by rcases hn with rfl | rfl | rfl <;> omega
      by_cases h8 : n = 8 ∧ i % 8 = 4
      · rw [if_pos h8, subW_n p1, u32_xor_nat _ _ p2 (subWN_lt _)]
        refine fin _ _ (Nat.xor_lt_two_pow (n := 32) p2 (subWN_lt _)) hk.symm ?_
        unfold stepB
        rw [if_neg hm, if_pos h8, ← wB_sub, wB_xor]
      · rw [if_neg h8, u32_xor_nat _ _ p2 p1]
        refine fin _ _ (Nat.xor_lt_two_pow (n := 32) p2 p1) hk.symm ?_
        unfold stepB
        rw [if_neg hm, if_neg h8, wB_xor]
/-- The number of the first i bytes. -/
def beT (s : ByteArray) : Nat → Nat
  | 0 => 0
  | i + 1 => beT s i * 256 + bb s i
theorem beT_lt (s : ByteArray) (i : Nat) : beT s i < 256 ^ i := by
  induction i with
  | zero => show 0 < 1; omega
  | succ i ih =>
    have := bb_lt s i
    simp only [beT, Nat.pow_succ]
    omega
theorem getL (s : ByteArray) (hs : s.size ≤ 8) (d : Nat) : ∀ i, s.size - i = d → i ≤ s.size → Ev (fun k => octets_Get.l0 k s ((beT s i : Nat) : Int) ((s.size : Nat) : Int) (i : Int)) (((beT s s.size : Nat) : Int), true) := by
  induction d with
  | zero =>
    intro i hd hi
    obtain rfl : i = s.size := by omega
    exact Ev.step (f := fun _ => some (((beT s s.size : Nat) : Int), true)) (fun k => by simp only [octets_Get.l0]; rw [if_neg (by omega)]) (Ev.now _)
  | succ d ih =>
    intro i hd hi
    have h1 := beT_lt s i
    have h2 := bb_lt s i
    have h3 : 256 ^ i ≤ 256 ^ 7 := Nat.pow_le_pow_right (by omega) (by omega)
    refine Ev.step (fun k => ?_) (ih (i + 1) (by omega) (by omega))
    simp only [octets_Get.l0]
    rw [if_pos (by omega), if_pos (by omega), if_pos (by omega), bt_bb, wrap_id (x := (i : Int) + 1) (by omega) (by omega)]
    rw [show IntKind.u64.wrap (((beT s i : Nat) : Int) * 256) = ((2 ^ 8 * beT s i : Nat) : Int) by rw [IntKind.wrap_u64]; omega, show IntKind.u64.wrap ((bb s i : Nat) : Int) = ((bb s i : Nat) : Int) by rw [IntKind.wrap_u64]; omega,
      u64_or_nat _ _ (by omega) (by omega), or_add (by omega)]
    simp only [beT]
    rw [Nat.mul_comm (beT s i)]
    rfl
theorem get_c (s : ByteArray) (h0 : 0 < s.size) (h8 : s.size ≤ 8) : Ev (fun k => octets_Get.f k s) (((beT s s.size : Nat) : Int), true) := by
  unfold octets_Get.f
  refine evn (by omega) ?_
  refine Ev.step (f := fun k => octets_Get.l0 k s 0 (s.size : Int) 0) (fun k => by simp only [octets_Get.j0]; rw [if_neg (by simp; omega)]) ?_
  exact getL s h8 _ 0 rfl (by omega)
/-- Texts, one behind the other. -/
def catB : List ByteArray → ByteArray
  | [] => ⟨#[]⟩
  | a :: l => a ++ catB l
theorem nb_append (a b : ByteArray) : nb (a ++ b) = nb a ++ nb b := by
  conv => lhs; rw [← mkB_nb a, ← mkB_nb b, mkB_append]
  rw [nb_mkB (isB_append.2 ⟨isB_nb a, isB_nb b⟩)]
theorem ext_left (a b : ByteArray) : (a ++ b).extract 0 a.size = a := by
  rw [extract_nb, nb_append, List.drop_zero, List.take_left' (nb_length a), mkB_nb]
theorem ext_right (a b : ByteArray) : (a ++ b).extract a.size (a ++ b).size = b := by
  rw [extract_nb, nb_append, List.take_of_length_le (by rw [List.length_append, nb_length, nb_length, ByteArray.size_append]; exact Nat.le_refl _), List.drop_left' (nb_length a), mkB_nb]
theorem piecesL (n : Nat) (hn : 0 < n) : ∀ (l : List ByteArray) (a : ByteArray) (out : List ByteArray), (∀ x ∈ a :: l, x.size = n) → out.length + l.length < 8796093022207 → Ev (fun k => octets_Pieces.l0 k (catB (a :: l)) (n : Int) out) (out ++ a :: l)
  | [], a, out, h, ho => by
    have ha := h a (by simp)
    have e : catB [a] = a := by show a ++ (⟨#[]⟩ : ByteArray) = a; rw [show (⟨#[]⟩ : ByteArray) = mkB [] from rfl, ← mkB_nb a, mkB_append, List.append_nil]
    refine Ev.step (f := fun _ => some (out ++ [a])) (fun k => ?_) (Ev.now _)
    simp only [octets_Pieces.l0]
    rw [e, if_neg (by omega), if_pos (by omega)]
  | b :: l, a, out, h, ho => by
    have ha := h a (by simp)
    have hb := h b (by simp)
    have hh := piecesL n hn l b (out ++ [a]) (fun x hx => h x (by simp at hx ⊢; exact .inr hx)) (by simp at ho ⊢; omega)
    rw [List.append_assoc] at hh
    have hs : (catB (a :: b :: l)).size = n + (catB (b :: l)).size := by show (a ++ catB (b :: l)).size = _; rw [ByteArray.size_append, ha]
    have hs2 : (catB (b :: l)).size = n + (catB l).size := by show (b ++ catB l).size = _; rw [ByteArray.size_append, hb]
    refine Ev.step (fun k => ?_) hh
    simp only [octets_Pieces.l0]
    rw [if_pos (by omega), if_pos (by omega), if_pos (by omega), if_pos (by simp at ho; omega), Int.toNat_natCast]
    have h1 : (catB (a :: b :: l)).extract 0 n = a := by rw [← ha]; exact ext_left a _
    have h2 : (catB (a :: b :: l)).extract n (catB (a :: b :: l)).size = catB (b :: l) := by rw [← ha]; exact ext_right a _
    rw [h1, h2]
theorem tl_loop (s : ByteArray) : ∀ (d i : Nat) (r : List UInt8), s.size - i = d → ByteArray.toList.loop s i r = r.reverse ++ s.data.toList.drop i := by
  intro d
  induction d with
  | zero =>
    intro i r h
    rw [ByteArray.toList.loop, if_neg (by omega), List.drop_of_length_le (by rw [Array.length_toList]; show s.size ≤ i; omega), List.append_nil]
  | succ d ih =>
    intro i r h
    have hi : i < s.size := by omega
    rw [ByteArray.toList.loop, if_pos hi, ih (i + 1) _ (by omega), List.reverse_cons, List.append_assoc]
    have hi' : i < s.data.toList.length := by rw [Array.length_toList]; exact hi
    rw [List.drop_eq_getElem_cons hi']
    congr 1
    simp [ByteArray.get!, hi]
theorem tl_eq (s : ByteArray) : s.toList = s.data.toList := by
  unfold ByteArray.toList
  rw [tl_loop s _ 0 [] rfl]
  rfl
theorem toList_ne {s : ByteArray} (h : 0 < s.size) : (s.toList == ([] : List UInt8)) = false := by
  refine beq_eq_false_iff_ne.mpr (fun e => ?_)
  rw [tl_eq] at e
  have : s.data.toList.length = 0 := by rw [e]; rfl
  rw [Array.length_toList] at this
  have h2 : s.data.size = s.size := rfl
  omega
theorem pieces_c (n : Nat) (hn : 0 < n) (hn2 : n ≤ 1000) (a : ByteArray) (l : List ByteArray) (h : ∀ x ∈ a :: l, x.size = n) (hl : l.length < 1000000) (hs : (catB (a :: l)).size < 1000000000) : Ev (fun k => octets_Pieces.f k (catB (a :: l)) (n : Int)) (a :: l) := by
  have h0 : 0 < (catB (a :: l)).size := by
    show 0 < (a ++ catB l).size
    rw [ByteArray.size_append, h a (by simp)]; omega
  have hd : (catB (a :: l)).size / n ≤ (catB (a :: l)).size := Nat.div_le_self _ _
  have e : (((catB (a :: l)).size : Int) / (n : Int)) = (((catB (a :: l)).size / n : Nat) : Int) := by rw [Int.natCast_ediv]
  unfold octets_Pieces.f
  refine evn (by omega) ?_
  rw [toList_ne h0]
  refine Ev.step (fun k => ?_) (piecesL n hn l a [] h (by simp; omega))
  simp only [octets_Pieces.j0]
  rw [if_neg (by simp), if_neg (by omega), e]
  generalize (catB (a :: l)).size / n = q at *
  rw [wrap_id (x := (q : Int)) (by omega) (by omega), wrap_id (by omega) (by omega), if_pos (by omega), if_pos (by omega)]
theorem join_flat (l : List (List UInt8)) : Lib.join l [] = l.flatten := by
  show List.intercalate [] l = _
  unfold List.intercalate
  induction l with
  | nil => rfl
  | cons a l ih =>
    cases l with
    | nil => simp
    | cons b l =>
      rw [List.intersperse_cons_cons, List.flatten_cons, List.flatten_cons, ih]
      rfl
theorem catB_data (l : List ByteArray) : (catB l).data.toList = (l.map (·.data.toList)).flatten := by
  induction l with
  | nil => rfl
  | cons a l ih =>
    show (a ++ catB l).data.toList = _
    rw [ByteArray.data_append, Array.toList_append, ih]
    rfl
theorem joinB_cat (l : List ByteArray) : joinB l = catB l := by
  apply ByteArray.ext
  apply Array.ext'
  rw [catB_data]
  show (Lib.join (l.map (·.data.toList)) []).toArray.toList = _
  rw [join_flat]
theorem join_c (l : List ByteArray) (h1 : l.length ≤ 140737488355328) (h2 : (catB l).size ≤ 140737488355328) : octets_Join.f l = some (catB l) := by
  unfold octets_Join.f
  have e : (Lib.join (l.map (·.data.toList)) []).length = (catB l).size := by
    rw [join_flat, ← catB_data, data_length]
  rw [if_pos h1, e, if_pos h2, joinB_cat]
end Go.Proofs.Ytokkhnjedmlbhaa.M
end
section
namespace Go.Proofs.Ytokkhnjedmlbhaa.M
open Go.RowKit Go.Proofs.Ytokkhnjedmlbhaa.Pr Go.Proofs.YtokkhnjedmlbhaaW.PrintWords Go.Proofs.YtokkhnjedmlbhaaW.PrintLast Go.Proofs.YtokkhnjedmlbhaaW.PrintMore Go.Proofs.YtokkhnjedmlbhaaGf
set_option linter.unusedSimpArgs false
def okN (n : Nat) : Prop := n = 16 ∨ n = 24 ∨ n = 32
instance (n : Nat) : Decidable (okN n) := inferInstanceAs (Decidable (n = 16 ∨ n = 24 ∨ n = 32))
def allS (n : Nat) (l : List ByteArray) : Prop := ∀ x ∈ l, x.size = n
theorem append_empty (a : ByteArray) : a ++ (⟨#[]⟩ : ByteArray) = a := by rw [emptyB, ← mkB_nb a, mkB_append, List.append_nil]
theorem empty_append' (a : ByteArray) : (⟨#[]⟩ : ByteArray) ++ a = a := by rw [emptyB, ← mkB_nb a, mkB_append, List.nil_append]
theorem cat_app (l m : List ByteArray) : catB (l ++ m) = catB l ++ catB m := by
  induction l with
  | nil => exact (empty_append' _).symm
  | cons a l ih =>
    show a ++ catB (l ++ m) = (a ++ catB l) ++ catB m
    rw [ih, ByteArray.append_assoc]
theorem cat_one (a : ByteArray) : catB [a] = a := append_empty a
theorem cat_size (n : Nat) : ∀ (l : List ByteArray), allS n l → (catB l).size = n * l.length
  | [], _ => rfl
  | a :: l, h => by
    show (a ++ catB l).size = _
    rw [ByteArray.size_append, h a (by simp), cat_size n l (fun x hx => h x (by simp [hx])), List.length_cons, Nat.mul_succ, Nat.add_comm]
theorem ext_join (s : ByteArray) (a b : Nat) (h : a ≤ b) : s.extract 0 a ++ s.extract a b = s.extract 0 b := by
  rw [extract_nb, extract_nb, extract_nb, mkB_append]
  congr 1
  rw [List.drop_zero, List.drop_zero]
  have : (nb s).take a = ((nb s).take b).take a := by rw [List.take_take, Nat.min_eq_left h]
  rw [this, List.take_append_drop]
theorem pcs_cat (n : Nat) (s : ByteArray) (m : Nat) : catB (pcs n m s) = s.extract 0 (n * m) := by
  induction m with
  | zero => show (⟨#[]⟩ : ByteArray) = _; rw [Nat.mul_zero, extract_nb]; rfl
  | succ m ih =>
    have e : pcs n (m + 1) s = pcs n m s ++ [s.extract (n * m) (n * m + n)] := by
      unfold pcs; rw [List.range_succ, List.map_append]; rfl
    rw [e, cat_app, ih, cat_one, ext_join s _ _ (by omega), Nat.mul_succ]
theorem ext_all (s : ByteArray) : s.extract 0 s.size = s := by
  rw [extract_nb, List.drop_zero, List.take_of_length_le (by rw [nb_length]; exact Nat.le_refl _), mkB_nb]
theorem pcs_all {n m : Nat} {s : ByteArray} (h : s.size = n * m) : catB (pcs n m s) = s := by rw [pcs_cat, ← h, ext_all]
theorem pcs_length (n m : Nat) (s : ByteArray) : (pcs n m s).length = m := by simp [pcs]
theorem pcs_size {n m : Nat} {s : ByteArray} (h : n * m ≤ s.size) : allS n (pcs n m s) := by
  intro x hx
  obtain ⟨i, hi, rfl⟩ := List.mem_map.1 hx
  have hi := List.mem_range.1 hi
  have : n * i + n ≤ n * m := by rw [← Nat.mul_succ]; exact Nat.mul_le_mul_left n hi
  rw [ByteArray.size_extract]; omega
/-- What octets_Pieces makes of a text of m pieces. -/
theorem pieces_m {n m : Nat} {s : ByteArray} (hn : 0 < n) (hn2 : n ≤ 1000) (hm : m < 1000000) (h : s.size = n * m) : Ev (fun k => octets_Pieces.f k s (n : Int)) (pcs n m s) := by
  cases m with
  | zero =>
    have h0 : s = ⟨#[]⟩ := by rw [← ext_all s, h, Nat.mul_zero, extract_nb]; rfl
    subst h0
    unfold octets_Pieces.f
    refine evn (by omega) ?_
    exact Ev.step (f := fun _ => some []) (fun k => by simp only [octets_Pieces.j0]; rw [if_pos (by decide +kernel)]) (Ev.now _)
  | succ m =>
    obtain ⟨a, l, e⟩ : ∃ a l, pcs n (m + 1) s = a :: l := by
      cases e : pcs n (m + 1) s with
      | nil => have := pcs_length n (m + 1) s; rw [e] at this; cases this
      | cons a l => exact ⟨a, l, rfl⟩
    have hc := pcs_all h
    have hs := pcs_size (n := n) (m := m + 1) (s := s) (by omega)
    have hl := pcs_length n (m + 1) s
    rw [e] at hc hs hl ⊢
    have : s.size < 1000000000 := by
      rw [h]
      have : n * (m + 1) ≤ 1000 * (m + 1) := Nat.mul_le_mul_right _ hn2
      omega
    rw [← hc]
    exact pieces_c n hn hn2 a l hs (by simp at hl; omega) (by rw [hc]; exact this)
theorem T4 (s : ByteArray) (hs : s.size = 4) : mkB [bb s 0, bb s 1, bb s 2, bb s 3] = s := by
  conv => rhs; rw [← mkB_nb s]
  congr 1
  have hl := nb_length s
  rw [hs] at hl
  rw [bb_nb, bb_nb, bb_nb, bb_nb]
  match h : nb s, hl with
  | [a, b, c, d], _ => rfl
theorem be4 (p : ByteArray) (hp : p.size = 4) : wB (beT p 4) = p ∧ beT p 4 < 4294967296 := by
  have h0 := bb_lt p 0; have h1 := bb_lt p 1; have h2 := bb_lt p 2; have h3 := bb_lt p 3
  have e : beT p 4 = ((bb p 0 * 256 + bb p 1) * 256 + bb p 2) * 256 + bb p 3 := by simp [beT]
  refine ⟨?_, by omega⟩
  conv => rhs; rw [← T4 p hp]
  rw [e]
  unfold wB wL
  congr 1
  simp only [List.cons.injEq, and_true]
  refine ⟨by omega, by omega, by omega, by omega⟩
theorem expL1_c : ∀ (ps : List ByteArray) (us : List Nat), allS 4 ps → (∀ u ∈ us, u < 4294967296) → ∃ vs : List Nat, Ev (fun k => expL1 k ps (us.map Int.ofNat)) (vs.map Int.ofNat) ∧ vs.map wB = us.map wB ++ ps ∧ (∀ v ∈ vs, v < 4294967296)
  | [], us, _, hu => ⟨us, Ev.now _, by simp, hu⟩
  | p :: ps, us, h, hu => by
    have hp := h p (by simp)
    obtain ⟨b1, b2⟩ := be4 p hp
    obtain ⟨vs, h1, h2, h3⟩ := expL1_c ps (us ++ [beT p 4]) (fun x hx => h x (by simp [hx])) (fun u hx => by
      rcases List.mem_append.1 hx with hx | hx
      · exact hu u hx
      · have : u = beT p 4 := by simpa using hx
        subst this; exact b2)
    refine ⟨vs, ?_, ?_, h3⟩
    · have hg := get_c p (by omega) (by omega)
      rw [hp] at hg
      refine evb hg ?_
      show Ev (fun k => expL1 k ps (us.map Int.ofNat ++ [((beT p 4 : Nat) : Int) % 4294967296])) _
      rw [show ((beT p 4 : Nat) : Int) % 4294967296 = ((beT p 4 : Nat) : Int) by omega, map_snoc]
      exact h1
    · rw [h2, List.map_append, List.append_assoc]
      show us.map wB ++ ([wB (beT p 4)] ++ ps) = _
      rw [b1]; rfl
theorem goB_length (n : Nat) : ∀ (d i : Nat) (ws : List ByteArray), (goB n d i ws).length = ws.length + d
  | 0, _, _ => rfl
  | d + 1, i, ws => by simp only [goB]; rw [goB_length n d, List.length_append, List.length_singleton]; omega
theorem goB_pre (n : Nat) : ∀ (d i : Nat) (ws : List ByteArray), ∃ r, goB n d i ws = ws ++ r
  | 0, _, ws => ⟨[], (List.append_nil ws).symm⟩
  | d + 1, i, ws => by
    obtain ⟨r, h⟩ := goB_pre n d (i + 1) (ws ++ [stepB n i (ws.getD (i - n) ByteArray.empty) (ws.getD (i - 1) ByteArray.empty)])
    exact ⟨_, by simp only [goB]; rw [h, List.append_assoc]⟩
theorem stepB_size (n i : Nat) {q t : ByteArray} (hq : q.size = 4) (ht : t.size = 4) : (stepB n i q t).size = 4 := by
  have hr : (t.extract 1 4 ++ t.extract 0 1).size = 4 := by rw [ByteArray.size_append, ByteArray.size_extract, ByteArray.size_extract]; omega
  unfold stepB
  split
  · rw [xorT_size, xorT_size, sb_size, hr, hq, mkB_size]; rfl
  · split
    · rw [xorT_size, sb_size, hq, ht]; rfl
    · rw [xorT_size, hq, ht]; rfl
theorem getD_size {n : Nat} {ws : List ByteArray} (h : allS n ws) {j : Nat} (hj : j < ws.length) : (ws.getD j ByteArray.empty).size = n := by
  rw [List.getD_eq_getElem?_getD, List.getElem?_eq_getElem hj]
  exact h _ (List.getElem_mem hj)
theorem goB_size (n : Nat) (hn : 0 < n) : ∀ (d i : Nat) (ws : List ByteArray), allS 4 ws → ws.length = i → n ≤ i → allS 4 (goB n d i ws)
  | 0, _, _, h, _, _ => h
  | d + 1, i, ws, h, hl, hi => by
    simp only [goB]
    refine goB_size n hn d (i + 1) _ (fun x hx => ?_) (by simp [hl]) (by omega)
    rcases List.mem_append.1 hx with hx | hx
    · exact h x hx
    · have : x = stepB n i (ws.getD (i - n) ByteArray.empty) (ws.getD (i - 1) ByteArray.empty) := by simpa using hx
      rw [this]
      exact stepB_size n i (getD_size h (by omega)) (getD_size h (by omega))
def quads : List ByteArray → List ByteArray
  | a :: b :: c :: d :: l => (a ++ (b ++ (c ++ d))) :: quads l
  | _ => []
theorem quads_all : ∀ (m : Nat) (l : List ByteArray), l.length = 4 * m → allS 4 l → catB (quads l) = catB l ∧ (quads l).length = m ∧ all16 (quads l)
  | 0, l, h, _ => by
    obtain rfl : l = [] := List.eq_nil_of_length_eq_zero (by omega)
    exact ⟨rfl, rfl, fun x hx => by cases hx⟩
  | m + 1, l, h, hs => by
    match l, h with
    | a :: b :: c :: d :: l, h =>
      obtain ⟨h1, h2, h3⟩ := quads_all m l (by simp at h; omega) (fun x hx => hs x (by simp [hx]))
      refine ⟨?_, by simp [quads, h2], ?_⟩
      · show (a ++ (b ++ (c ++ d))) ++ catB (quads l) = a ++ (b ++ (c ++ (d ++ catB l)))
        rw [h1, ByteArray.append_assoc, ByteArray.append_assoc, ByteArray.append_assoc]
      · intro x hx
        rcases List.mem_cons.1 hx with rfl | hx
        · rw [ByteArray.size_append, ByteArray.size_append, ByteArray.size_append, hs a (by simp), hs b (by simp), hs c (by simp), hs d (by simp)]
        · exact h3 x hx
/-- The keys of the rounds. -/
def ksB (key : ByteArray) : List ByteArray := quads (wordsB key)
theorem words_facts {key : ByteArray} (h : okN key.size) : (wordsB key).length = 4 * (key.size / 4 + 7) ∧ allS 4 (wordsB key) ∧ ∃ r, wordsB key = pcs 4 (key.size / 4) key ++ r := by
  have h4 : key.size = 4 * (key.size / 4) := by rcases h with h | h | h <;> omega
  have hp := pcs_size (n := 4) (m := key.size / 4) (s := key) (by omega)
  unfold wordsB
  refine ⟨?_, goB_size _ (by rcases h with h | h | h <;> omega) _ _ _ hp (pcs_length _ _ _) (Nat.le_refl _), goB_pre _ _ _ _⟩
  rw [goB_length, pcs_length]; omega
theorem ks_facts {key : ByteArray} (h : okN key.size) : (ksB key).length = key.size / 4 + 7 ∧ all16 (ksB key) ∧ catB (ksB key) = catB (wordsB key) ∧ ∃ r, catB (ksB key) = key ++ r := by
  obtain ⟨h1, h2, r, h3⟩ := words_facts h
  obtain ⟨q1, q2, q3⟩ := quads_all _ _ h1 h2
  refine ⟨q2, q3, q1, catB r, ?_⟩
  rw [show ksB key = quads (wordsB key) from rfl, q1, h3, cat_app, pcs_all (by rcases h with h | h | h <;> omega)]
theorem ks_len {key : ByteArray} (h : okN key.size) : 2 ≤ (ksB key).length ∧ (ksB key).length ≤ 100 := by
  rw [(ks_facts h).1]
  rcases h with h | h | h <;> rw [h] <;> decide
end Go.Proofs.Ytokkhnjedmlbhaa.M
end
section
namespace Go.Proofs.Ytokkhnjedmlbhaa.Pr
open Go.RowKit Go.Proofs.YtokkhnjedmlbhaaW.PrintWords Go.Proofs.YtokkhnjedmlbhaaW.PrintLast Go.Proofs.YtokkhnjedmlbhaaW.PrintMore
attribute [local go_sem] max2_int min2_int max_two min_two max_three min_three max_four min_four   -- for this text's walks alone
set_option linter.unusedVariables false
set_option linter.unusedSimpArgs false

def slices_Equal_string_string.l0 : Nat → List ByteArray → List ByteArray → Int → Int → Option (Bool)
 | 0, _, _, _, _ => none
 | k + 1, x0, x1, x12, x13 => if x13 < x12 then (if 0 ≤ x13 then (if x13 < (x0.length : Int) then (if x13 < (x1.length : Int) then (if (rdOf ByteArray.empty x0 x13).toList = (rdOf ByteArray.empty x1 x13).toList then (slices_Equal_string_string.l0 k x0 x1 x12 (wrap64 (x13 + 1))) else (some false)) else (none)) else (none)) else (none)) else (some true)
def slices_Equal_string_string.f (k : Nat) (l0 : List ByteArray) (l1 : List ByteArray) : Option (Bool) := if (l0.length : Int) = (l1.length : Int) then (slices_Equal_string_string.l0 k l0 l1 (l0.length : Int) 0) else (some false)
theorem slices_Equal_string_string.mono_l : ∀ k, (∀ y1 y2 y3 y4, LeO (slices_Equal_string_string.l0 k y1 y2 y3 y4) (slices_Equal_string_string.l0 (k + 1) y1 y2 y3 y4))
 | 0 => fun _ _ _ _ r h => by simp [slices_Equal_string_string.l0] at h
 | k + 1 => by
  have ih0 := slices_Equal_string_string.mono_l k
  ·intro y1 y2 y3 y4
   unfold slices_Equal_string_string.l0
   repeat' first
   | (with_reducible exact ih0 _ _ _ _)
   | (with_reducible exact LeO.refl _)
   | (with_reducible exact LeO.none _)
   | (with_reducible refine LeO.ite ?_ ?_)
   | (with_reducible refine LeO.bind ?_ (fun _ => ?_))
theorem slices_Equal_string_string.mono : ∀ a0 a1 k, LeO (slices_Equal_string_string.f k a0 a1) (slices_Equal_string_string.f (k + 1) a0 a1) := by
 intro a0 a1 k
 have ih0 := slices_Equal_string_string.mono_l k
 unfold slices_Equal_string_string.f
 repeat' first
   | (with_reducible exact ih0 _ _ _ _)
   | (with_reducible exact LeO.refl _)
   | (with_reducible exact LeO.none _)
   | (with_reducible refine LeO.ite ?_ ?_)
   | (with_reducible refine LeO.bind ?_ (fun _ => ?_))
end Go.Proofs.Ytokkhnjedmlbhaa.Pr
end
section
namespace Go.Proofs.Ytokkhnjedmlbhaa.M
open Go.RowKit Go.Proofs.Ytokkhnjedmlbhaa.Pr Go.Proofs.YtokkhnjedmlbhaaW.PrintWords Go.Proofs.YtokkhnjedmlbhaaW.PrintLast Go.Proofs.YtokkhnjedmlbhaaW.PrintMore Go.Proofs.YtokkhnjedmlbhaaGf
set_option linter.unusedSimpArgs false
def rndI (n : Int) : Int := if n = 16 then 10 else if n = 24 then 12 else if n = 32 then 14 else 0
theorem rounds_i (n : Int) : sched_Rounds.f n = some (rndI n) := by
  unfold sched_Rounds.f rndI
  by_cases h1 : n = 16
  · subst h1; decide +kernel
  · rw [if_neg h1, if_neg h1]
    by_cases h2 : n = 24
    · subst h2; decide +kernel
    · rw [if_neg h2, if_neg h2]
      by_cases h3 : n = 32
      · subst h3; decide +kernel
      · rw [if_neg h3, if_neg h3]
theorem rrounds_i (n : Int) : clavigerref08_Rounds.f n = some (rndI n) := by
  unfold clavigerref08_Rounds.f rndI
  by_cases h1 : n = 16
  · subst h1; decide +kernel
  · rw [if_neg h1, if_neg h1]
    by_cases h2 : n = 24
    · subst h2; decide +kernel
    · rw [if_neg h2, if_neg h2]
      by_cases h3 : n = 32
      · subst h3; decide +kernel
      · rw [if_neg h3, if_neg h3]
theorem rnd_ok {key : ByteArray} (h : okN key.size) : rndI (key.size : Int) = ((key.size / 4 + 6 : Nat) : Int) := by
  unfold rndI
  rcases h with h | h | h <;> rw [h] <;> rfl
theorem rnd_no {key : ByteArray} (h : ¬ okN key.size) : rndI (key.size : Int) = 0 := by
  unfold okN at h
  unfold rndI
  rw [if_neg (by omega), if_neg (by omega), if_neg (by omega)]
theorem rdO (l : List ByteArray) (i : Nat) : rdOf ByteArray.empty l (i : Int) = l.getD i ByteArray.empty := rfl
theorem put4 {u : Nat} (_hu : u < 4294967296) : octets_Put.f (u : Int) 4 = some (wB u) := by
  unfold octets_Put.f
  rw [if_neg (by decide), if_neg (by decide)]
  rfl
theorem drop_cons {l : List Nat} {i : Nat} (h : i < l.length) : l.drop i = l.getD i 0 :: l.drop (i + 1) := by
  rw [List.drop_eq_getElem_cons h]
  simp [List.getD_eq_getElem?_getD, h]
theorem wordsL (us : List Nat) (hl : us.length ≤ 1000) (hu : ∀ u ∈ us, u < 4294967296) (d : Nat) : ∀ (i : Nat) (out : List ByteArray), us.length - i = d → i ≤ us.length → out.length ≤ i → Ev (fun k => sched_Words.l0 k out (us.map Int.ofNat) (us.length : Int) (i : Int)) (out ++ (us.drop i).map wB) := by
  induction d with
  | zero =>
    intro i out hd hi ho
    refine Ev.step (f := fun _ => some out) (fun k => ?_) ?_
    · simp only [sched_Words.l0]
      rw [if_neg (by omega)]
    · rw [List.drop_of_length_le (by omega), List.map_nil, List.append_nil]
      exact Ev.now _
  | succ d ih =>
    intro i out hd hi ho
    have hh := ih (i + 1) (out ++ [wB (us.getD i 0)]) (by omega) (by omega) (by rw [List.length_append, List.length_singleton]; omega)
    have hv := getD_lt hu i
    rw [List.append_assoc, List.singleton_append, ← List.map_cons, ← drop_cons (by omega)] at hh
    refine Ev.step (fun k => ?_) hh
    simp only [sched_Words.l0]
    rw [if_pos (by omega), if_pos (by omega), if_pos (by rw [List.length_map]; omega), rd_cast, show IntKind.u64.wrap ((us.getD i 0 : Nat) : Int) = ((us.getD i 0 : Nat) : Int) by rw [IntKind.wrap_u64]; omega, put4 hv]
    simp only [Option.bind_some]
    rw [if_pos (by omega), wrap_id (by omega) (by omega)]
    rfl
theorem sT_size : (mkB sT).size = 256 := by rw [mkB_size]; simp [sT]
theorem expF_c (n : Nat) (hn : n = 4 ∨ n = 6 ∨ n = 8) (key : ByteArray) (h : key.size = 4 * n) : ∃ vs : List Nat, Ev (fun k => expF k n key) (vs.map Int.ofNat) ∧ vs.map wB = wordsB key ∧ (∀ u ∈ vs, u < 4294967296) ∧ vs.length = 4 * n + 28 := by
  obtain ⟨us, h1, h2, h3⟩ := expL1_c (pcs 4 n key) [] (pcs_size (by omega)) (fun u hu => by cases hu)
  have hl : us.length = n := by have := congrArg List.length h2; rw [List.length_map, List.length_append, List.length_map, pcs_length] at this; simpa using this
  obtain ⟨vs, g1, g2, g3, g4⟩ := expL2_c n hn (3 * n + 28) n us hl (Nat.le_refl _) (by omega) h3
  have hp : Ev (fun k => octets_Pieces.f k key 4) (pcs 4 n key) := pieces_m (n := 4) (by omega) (by omega) (by omega) h
  rw [show (n - 1) / n = 0 by rcases hn with rfl | rfl | rfl <;> rfl] at g1
  refine ⟨vs, ?_, ?_, g3, by omega⟩
  · unfold expF
    refine evb table_c (evp sT_size (evb hp (evp (pcs_length _ _ _) (evb h1 (evp (by rw [List.length_map]; exact hl) ?_)))))
    show Ev (fun _ => expL2 (mkB sT) n (3 * n + 28) n ((pw 2 0 : Nat) : Int) (us.map Int.ofNat)) _
    rw [g1]
    exact Ev.now _
  · rw [g2, h2, List.map_nil, List.nil_append]
    unfold wordsB
    rw [h, show 4 * n / 4 = n by omega]
theorem expand_c {key : ByteArray} (h : okN key.size) : ∃ vs : List Nat, Ev (fun k => sched_expand.f k key) (vs.map Int.ofNat) ∧ vs.map wB = wordsB key ∧ (∀ u ∈ vs, u < 4294967296) ∧ vs.length = 4 * (key.size / 4) + 28 := by
  unfold sched_expand.f
  rcases h with h | h | h
  · obtain ⟨vs, g1, g2, g3, g4⟩ := expF_c 4 (by omega) key (by omega)
    exact ⟨vs, evp h g1, g2, g3, by omega⟩
  · obtain ⟨vs, g1, g2, g3, g4⟩ := expF_c 6 (by omega) key (by omega)
    exact ⟨vs, evn (by omega) (evp h g1), g2, g3, by omega⟩
  · obtain ⟨vs, g1, g2, g3, g4⟩ := expF_c 8 (by omega) key (by omega)
    exact ⟨vs, evn (by omega) (evn (by omega) (evp h g1)), g2, g3, by omega⟩
def wordsT (key : ByteArray) : List ByteArray := if okN key.size then wordsB key else []
theorem words_c (key : ByteArray) : Ev (fun k => sched_Words.f k key) (wordsT key) := by
  unfold wordsT
  by_cases h : okN key.size
  · rw [if_pos h]
    obtain ⟨vs, g1, g2, g3, g4⟩ := expand_c h
    have hb : vs.length ≤ 1000 := by rcases h with h | h | h <;> omega
    unfold sched_Words.f
    refine evb g1 ?_
    have := wordsL vs hb g3 _ 0 [] rfl (by omega) (by simp)
    rw [List.drop_zero, List.nil_append, g2] at this
    rw [List.length_map]
    exact this
  · rw [if_neg h]
    unfold okN at h
    unfold sched_Words.f
    have e : ∀ k, sched_expand.f k key = some [] := fun k => by unfold sched_expand.f; rw [if_neg (by omega), if_neg (by omega), if_neg (by omega)]
    simp only [e, Option.bind_some]
    exact Ev.step (f := fun _ => some []) (fun k => by simp only [sched_Words.l0]; rw [if_neg (by simp)]) (Ev.now _)
theorem ks_ne {key : ByteArray} (h : okN key.size) : ∃ a l, ksB key = a :: l := by
  have := (ks_len h).1
  cases e : ksB key with
  | nil => rw [e] at this; simp at this
  | cons a l => exact ⟨a, l, rfl⟩
theorem keys_c {key : ByteArray} (h : okN key.size) : Ev (fun k => sched_Keys.f k key) (ksB key, 0) := by
  have hw := words_c key
  rw [wordsT, if_pos h] at hw
  obtain ⟨f1, f2, f3, _⟩ := ks_facts h
  obtain ⟨w1, w2, _⟩ := words_facts h
  have hc : (catB (wordsB key)).size = 4 * (wordsB key).length := cat_size 4 _ w2
  have hk : key.size ≤ 32 := by rcases h with h | h | h <;> omega
  obtain ⟨a, l, e⟩ := ks_ne h
  unfold sched_Keys.f
  refine evs (rounds_i _) (evn (by rw [rnd_ok h]; omega) (evb hw (evs (join_c _ (by omega) (by omega)) ?_)))
  rw [← f3, e]
  rw [e] at f1 f2 f3
  rw [List.length_cons] at f1
  refine evb (pieces_c 16 (by omega) (by omega) a l f2 (by omega) (by rw [f3]; omega)) (Ev.now _)
theorem keys_n {key : ByteArray} (h : ¬ okN key.size) : Ev (fun k => sched_Keys.f k key) ([], 2) := by
  unfold sched_Keys.f
  exact evs (rounds_i _) (evp (rnd_no h) (Ev.now _))
theorem rconst_c (n : Int) (h1 : 1 ≤ n) (h2 : n ≤ 255) : Ev (fun k => clavigerref08_Constant.f k n) ((pw 2 (n.toNat - 1) : Nat) : Int) := by
  unfold clavigerref08_Constant.f
  refine evn (by omega) (evn (by omega) ?_)
  rw [wrap_id (by omega) (by omega)]
  refine evb (rpow_c (a := 2) (by omega) (n - 1)) ?_
  rw [show pw 2 (n.toNat - 1) = powI 2 (n - 1) by unfold powI; congr 1; omega]
  exact Ev.now _
theorem rw_step (key : ByteArray) (n : Nat) (hn : n = 4 ∨ n = 6 ∨ n = 8) (h : key.size = 4 * n) (i : Nat) (ws : List ByteArray) (hl : ws.length = i) (hi : n ≤ i) (hb : i < 4 * n + 28) (hs : allS 4 ws) (res : List ByteArray)
    (hr : Ev (fun k => clavigerref08_Words.l0 k key (ws ++ [stepB n i (ws.getD (i - n) ByteArray.empty) (ws.getD (i - 1) ByteArray.empty)]) (n : Int) ((i + 1 : Nat) : Int)) res) :
    Ev (fun k => clavigerref08_Words.l0 k key ws (n : Int) (i : Int)) res := by
  have h1 : wrap64 ((i : Int) - 1) = ((i - 1 : Nat) : Int) := by unfold wrap64; omega
  have h2 : wrap64 ((i : Int) - (n : Int)) = ((i - n : Nat) : Int) := by unfold wrap64; omega
  have h3 : wrap64 ((i : Int) + 1) = ((i + 1 : Nat) : Int) := by unfold wrap64; omega
  have h4 : Int.tmod (i : Int) (n : Int) = ((i % n : Nat) : Int) := by rw [Int.tmod_eq_emod_of_nonneg (by omega)]; omega
  have h5 : wrap64 (Int.tdiv (i : Int) (n : Int)) = ((i / n : Nat) : Int) := by
    rw [Int.tdiv_eq_ediv_of_nonneg (by omega), ← Int.natCast_ediv]
    have : i / n ≤ i := Nat.div_le_self _ _
    generalize i / n = q at *
    unfold wrap64; omega
  have h6 : Int.tmod (i : Int) 8 = ((i % 8 : Nat) : Int) := by rw [Int.tmod_eq_emod_of_nonneg (by omega)]; omega
  have hrn : rndI (key.size : Int) = ((n + 6 : Nat) : Int) := by rw [rnd_ok (by unfold okN; omega)]; congr 2; omega
  have h7 : wrap64 (wrap64 (4 * ((n + 6 : Nat) : Int)) + 4) = ((4 * n + 28 : Nat) : Int) := by rw [wrap_id (x := 4 * ((n + 6 : Nat) : Int)) (by omega) (by omega), wrap_id (by omega) (by omega)]; omega
  have ht := getD_size hs (j := i - 1) (by omega)
  have hq := getD_size hs (j := i - n) (by omega)
  generalize et : ws.getD (i - 1) ByteArray.empty = t at *
  generalize eq : ws.getD (i - n) ByteArray.empty = q at *
  have h8 : (t.extract 1 4).size = 3 := by rw [ByteArray.size_extract]; omega
  have h9 : (t.extract 0 1).size = 1 := by rw [ByteArray.size_extract]; omega
  by_cases hm : i % n = 0
  · have hd1 : 1 ≤ i / n := Nat.div_pos hi (by omega)
    have hd2 : i / n ≤ 60 := Nat.le_trans (Nat.div_le_self _ _) (by omega)
    have hc := rconst_c ((i / n : Nat) : Int) (by omega) (by omega)
    rw [Int.toNat_natCast] at hc
    refine Ev.step (f := fun k => (clavigerref06_Subs.f k (t.extract 1 4 ++ t.extract 0 1)).bind fun t215 => (clavigerref08_Constant.f k ((i / n : Nat) : Int)).bind fun t216 => (clavigerref01_Xor.f k t215 (strOfNums [t216, 0, 0, 0])).bind fun t220 => (clavigerref01_Xor.f k q t220).bind fun t222 => clavigerref08_Words.l0 k key (ws ++ [t222]) (n : Int) ((i + 1 : Nat) : Int)) (fun k => ?_) ?_
    · simp only [clavigerref08_Words.l0]
      rw [rrounds_i, Option.bind_some, hrn, h7, if_pos (by omega), if_neg (by omega), h1, h2, h3, h4, h5, rdO, rdO, et, eq]
      rw [if_pos (by omega), if_pos (by omega), if_neg (by omega), if_pos (by omega), if_pos (by omega), if_pos (by omega), if_pos (by omega), if_pos (by omega), if_pos (by omega)]
      simp only [show (0 : Int) ≤ ((i - n : Nat) : Int) from by omega, show ((i - n : Nat) : Int) < (ws.length : Int) from by omega, show ws.length < 8796093022208 from by omega, if_true]
    · refine evb (rSubs_c _ (by rw [ByteArray.size_append]; omega)) (evb hc ?_)
      have e : strOfNums [((pw 2 (i / n - 1) : Nat) : Int), 0, 0, 0] = mkB [pw 2 (i / n - 1), 0, 0, 0] := strOfNums_cast [pw 2 (i / n - 1), 0, 0, 0]
      rw [e]
      refine evb (rxor_c _ _ (by rw [mkB_size, List.length_map, nb_length, ByteArray.size_append]; omega) (by rw [mkB_size]; show 4 ≤ 140737488355328; omega)) (evb (rxor_c _ _ (by omega) (by rw [xorT_size, mkB_size, mkB_size]; show min _ 4 ≤ _; omega)) ?_)
      have e2 : stepB n i q t = xorT q (xorT (mkB ((nb (t.extract 1 4 ++ t.extract 0 1)).map sN)) (mkB [pw 2 (i / n - 1), 0, 0, 0])) := by unfold stepB; rw [if_pos hm]; rfl
      rw [← e2]
      exact hr
  · have hj : ∀ (b : Bool) (v : ByteArray), stepB n i q t = v → (b = true → v = xorT q (sbT t)) → (b = false → v = xorT q t) → Ev (fun k => clavigerref08_Words.j1 k key ws (n : Int) (i : Int) t b) res := by
      intro b v hv hv1 hv2
      cases b with
      | true =>
        refine Ev.step (f := fun k => (clavigerref06_Subs.f k t).bind fun t226 => (clavigerref01_Xor.f k q t226).bind fun t228 => clavigerref08_Words.l0 k key (ws ++ [t228]) (n : Int) ((i + 1 : Nat) : Int)) (fun k => ?_) ?_
        · simp only [clavigerref08_Words.j1]
          rw [h2, h3, rdO, eq]
          simp only [show (0 : Int) ≤ ((i - n : Nat) : Int) from by omega, show ((i - n : Nat) : Int) < (ws.length : Int) from by omega, show ws.length < 8796093022208 from by omega, if_true]
        · refine evb (rSubs_c _ (by omega)) (evb (rxor_c _ _ (by omega) (by rw [mkB_size, List.length_map, nb_length]; omega)) ?_)
          rw [← show v = xorT q (mkB ((nb t).map sN)) from hv1 rfl, ← hv]
          exact hr
      | false =>
        refine Ev.step (f := fun k => (clavigerref01_Xor.f k q t).bind fun t228 => clavigerref08_Words.l0 k key (ws ++ [t228]) (n : Int) ((i + 1 : Nat) : Int)) (fun k => ?_) ?_
        · simp only [clavigerref08_Words.j1]
          rw [if_neg (by simp), h2, h3, rdO, eq]
          simp only [show (0 : Int) ≤ ((i - n : Nat) : Int) from by omega, show ((i - n : Nat) : Int) < (ws.length : Int) from by omega, show ws.length < 8796093022208 from by omega, if_true]
        · refine evb (rxor_c _ _ (by omega) (by omega)) ?_
          rw [← hv2 rfl, ← hv]
          exact hr
    by_cases h8' : n = 8 ∧ i % 8 = 4
    · refine Ev.step (f := fun k => clavigerref08_Words.j1 k key ws (n : Int) (i : Int) t true) (fun k => ?_) (hj true _ rfl (fun _ => by unfold stepB; rw [if_neg hm, if_pos h8']) (fun h => by cases h))
      simp only [clavigerref08_Words.l0]
      rw [rrounds_i, Option.bind_some, hrn, h7, if_pos (by omega), if_neg (by omega), h1, h4, h6, rdO, et]
      rw [if_pos (by omega), if_pos (by omega), if_neg (by omega), if_neg (by omega), if_pos (by omega), show ((((i % 8 : Nat) : Int)) == 4) = true from beq_iff_eq.mpr (by omega)]
    · have hx : stepB n i q t = xorT q t := by unfold stepB; rw [if_neg hm, if_neg h8']
      refine Ev.step (f := fun k => clavigerref08_Words.j1 k key ws (n : Int) (i : Int) t false) (fun k => ?_) (hj false _ rfl (fun h => by cases h) (fun _ => hx))
      simp only [clavigerref08_Words.l0]
      rw [rrounds_i, Option.bind_some, hrn, h7, if_pos (by omega), if_neg (by omega), h1, h4, h6, rdO, et]
      rw [if_pos (by omega), if_pos (by omega), if_neg (by omega), if_neg (by omega)]
      by_cases h88 : n = 8
      · rw [if_pos (by omega), show ((((i % 8 : Nat) : Int)) == 4) = false from beq_eq_false_iff_ne.mpr (fun e => h8' ⟨h88, by omega⟩)]
      · rw [if_neg (by omega)]
theorem rw_go (key : ByteArray) (n : Nat) (hn : n = 4 ∨ n = 6 ∨ n = 8) (h : key.size = 4 * n) (d : Nat) : ∀ (i : Nat) (ws : List ByteArray), ws.length = i → n ≤ i → i + d = 4 * n + 28 → allS 4 ws → Ev (fun k => clavigerref08_Words.l0 k key ws (n : Int) (i : Int)) (goB n d i ws) := by
  induction d with
  | zero =>
    intro i ws hl hi hb hs
    have hrn : rndI (key.size : Int) = ((n + 6 : Nat) : Int) := by rw [rnd_ok (by unfold okN; omega)]; congr 2; omega
    have h7 : wrap64 (wrap64 (4 * ((n + 6 : Nat) : Int)) + 4) = ((4 * n + 28 : Nat) : Int) := by rw [wrap_id (x := 4 * ((n + 6 : Nat) : Int)) (by omega) (by omega), wrap_id (by omega) (by omega)]; omega
    refine Ev.step (f := fun _ => some ws) (fun k => ?_) (Ev.now _)
    simp only [clavigerref08_Words.l0]
    rw [rrounds_i, Option.bind_some, hrn, h7, if_neg (by omega)]
  | succ d ih =>
    intro i ws hl hi hb hs
    refine rw_step key n hn h i ws hl hi (by omega) hs _ ?_
    simp only [goB]
    refine ih (i + 1) _ (by rw [List.length_append, List.length_singleton, hl]) (by omega) (by omega) (fun x hx => ?_)
    rcases List.mem_append.1 hx with hx | hx
    · exact hs x hx
    · rw [List.mem_singleton.1 hx]
      exact stepB_size n i (getD_size hs (by omega)) (getD_size hs (by omega))
theorem rw_first (key : ByteArray) (n : Nat) (hn : n = 4 ∨ n = 6 ∨ n = 8) (h : key.size = 4 * n) (res : List ByteArray) (hr : Ev (fun k => clavigerref08_Words.l0 k key (pcs 4 n key) (n : Int) (n : Int)) res) (d : Nat) : ∀ i, n - i = d → i ≤ n → Ev (fun k => clavigerref08_Words.l0 k key (pcs 4 i key) (n : Int) (i : Int)) res := by
  induction d with
  | zero =>
    intro i hd hi
    obtain rfl : i = n := by omega
    exact hr
  | succ d ih =>
    intro i hd hi
    have hrn : rndI (key.size : Int) = ((n + 6 : Nat) : Int) := by rw [rnd_ok (by unfold okN; omega)]; congr 2; omega
    have h7 : wrap64 (wrap64 (4 * ((n + 6 : Nat) : Int)) + 4) = ((4 * n + 28 : Nat) : Int) := by rw [wrap_id (x := 4 * ((n + 6 : Nat) : Int)) (by omega) (by omega), wrap_id (by omega) (by omega)]; omega
    have h3 : wrap64 ((i : Int) + 1) = ((i + 1 : Nat) : Int) := by unfold wrap64; omega
    have h4 : wrap64 (4 * (i : Int)) = ((4 * i : Nat) : Int) := by unfold wrap64; omega
    have h5 : wrap64 (((4 * i : Nat) : Int) + 4) = ((4 * i + 4 : Nat) : Int) := by unfold wrap64; omega
    have e : pcs 4 (i + 1) key = pcs 4 i key ++ [key.extract (4 * i) (4 * i + 4)] := by
      unfold pcs; rw [List.range_succ, List.map_append]; rfl
    have hh := ih (i + 1) (by omega) (by omega)
    rw [e] at hh
    refine Ev.step (fun k => ?_) hh
    simp only [clavigerref08_Words.l0]
    rw [rrounds_i, Option.bind_some, hrn, h7, if_pos (by omega), if_pos (by omega), h4, h5, h3, if_pos (by omega), if_pos (by omega), if_pos (by omega), if_pos (by rw [pcs_length]; omega), Int.toNat_natCast, Int.toNat_natCast]
theorem rwords_c (key : ByteArray) : Ev (fun k => clavigerref08_Words.f k key) (wordsT key) := by
  unfold clavigerref08_Words.f wordsT
  by_cases h : okN key.size
  · rw [if_pos h]
    have h4 : key.size = 4 * (key.size / 4) := by rcases h with h | h | h <;> omega
    have hn : key.size / 4 = 4 ∨ key.size / 4 = 6 ∨ key.size / 4 = 8 := by rcases h with h | h | h <;> omega
    refine evs (rrounds_i _) (evn (by rw [rnd_ok h]; omega) ?_)
    rw [show wrap64 ((key.size : Int) / 4) = ((key.size / 4 : Nat) : Int) by unfold wrap64; omega]
    have hp := pcs_size (n := 4) (m := key.size / 4) (s := key) (by omega)
    have := rw_first key (key.size / 4) hn h4 (wordsB key) (rw_go key _ hn h4 (3 * (key.size / 4) + 28) _ _ (pcs_length _ _ _) (Nat.le_refl _) (by omega) hp) _ 0 rfl (by omega)
    exact this
  · rw [if_neg h]
    exact evs (rrounds_i _) (evp (rnd_no h) (Ev.now _))
theorem quads_get : ∀ (j : Nat) (l : List ByteArray), 4 * j + 3 < l.length → quads l = quads (l.take (4 * j)) ++ (((l.getD (4 * j) ByteArray.empty ++ l.getD (4 * j + 1) ByteArray.empty) ++ l.getD (4 * j + 2) ByteArray.empty) ++ l.getD (4 * j + 3) ByteArray.empty) :: quads (l.drop (4 * j + 4))
  | 0, a :: b :: c :: d :: l, _ => by simp [quads, ByteArray.append_assoc]
  | j + 1, a :: b :: c :: d :: l, h => by
    have := quads_get j l (by simp at h; omega)
    rw [show 4 * (j + 1) = 4 * j + 1 + 1 + 1 + 1 by omega]
    simp only [List.take_succ_cons, quads, List.cons_append]
    rw [this]
    rfl
theorem quads_take (l : List ByteArray) (j : Nat) (h : 4 * j + 3 < l.length) : quads (l.take (4 * (j + 1))) = quads (l.take (4 * j)) ++ [((l.getD (4 * j) ByteArray.empty ++ l.getD (4 * j + 1) ByteArray.empty) ++ l.getD (4 * j + 2) ByteArray.empty) ++ l.getD (4 * j + 3) ByteArray.empty] := by
  have hlen : (l.take (4 * (j + 1))).length = 4 * j + 4 := by rw [List.length_take]; omega
  have e := quads_get j (l.take (4 * (j + 1))) (by omega)
  rw [List.drop_of_length_le (by omega), List.take_take, show min (4 * j) (4 * (j + 1)) = 4 * j by omega] at e
  rw [e]
  have g : ∀ q, q < 4 * j + 4 → (l.take (4 * (j + 1))).getD q ByteArray.empty = l.getD q ByteArray.empty := fun q hq => by
    rw [List.getD_eq_getElem?_getD, List.getD_eq_getElem?_getD, List.getElem?_take_of_lt (by omega)]
  rw [g _ (by omega), g _ (by omega), g _ (by omega), g _ (by omega)]
  rfl
theorem rkeysL (l : List ByteArray) (m : Nat) (hl : l.length = 4 * m) (hm : m ≤ 100) (hs : allS 4 l) (d : Nat) : ∀ j, m - j = d → j ≤ m → Ev (fun k => clavigerref08_Keys.l0 k l (quads (l.take (4 * j))) ((4 * j : Nat) : Int)) (quads l, 0) := by
  induction d with
  | zero =>
    intro j hd hj
    obtain rfl : j = m := by omega
    refine Ev.step (f := fun _ => some (quads l, 0)) (fun k => ?_) (Ev.now _)
    simp only [clavigerref08_Keys.l0]
    rw [if_neg (by omega), List.take_of_length_le (by omega)]
  | succ d ih =>
    intro j hd hj
    have hh := ih (j + 1) (by omega) (by omega)
    rw [quads_take l j (by omega)] at hh
    have e1 : wrap64 (((4 * j : Nat) : Int) + 1) = ((4 * j + 1 : Nat) : Int) := by unfold wrap64; omega
    have e2 : wrap64 (((4 * j : Nat) : Int) + 2) = ((4 * j + 2 : Nat) : Int) := by unfold wrap64; omega
    have e3 : wrap64 (((4 * j : Nat) : Int) + 3) = ((4 * j + 3 : Nat) : Int) := by unfold wrap64; omega
    have e4 : wrap64 (((4 * j : Nat) : Int) + 4) = ((4 * (j + 1) : Nat) : Int) := by unfold wrap64; omega
    have s0 := getD_size hs (j := 4 * j) (by omega)
    have s1 := getD_size hs (j := 4 * j + 1) (by omega)
    have s2 := getD_size hs (j := 4 * j + 2) (by omega)
    have s3 := getD_size hs (j := 4 * j + 3) (by omega)
    have hq : (quads (l.take (4 * j))).length = j := (quads_all j _ (by rw [List.length_take]; omega) (fun x hx => hs x (List.mem_of_mem_take hx))).2.1
    refine Ev.step (fun k => ?_) hh
    simp only [clavigerref08_Keys.l0, e1, e2, e3, e4, rdO, ByteArray.size_append, s0, s1, s2, s3]
    rw [if_pos (by omega), if_pos (by omega), if_pos (by omega), if_pos (by omega), if_pos (by omega), if_pos (by omega), if_pos (by omega), if_pos (by omega), if_pos (by omega), if_pos (by omega), if_pos (by omega), if_pos (by omega)]
theorem rkeys_c {key : ByteArray} (h : okN key.size) : Ev (fun k => clavigerref08_Keys.f k key) (ksB key, 0) := by
  have hw := rwords_c key
  rw [wordsT, if_pos h] at hw
  obtain ⟨w1, w2, _⟩ := words_facts h
  have hk : key.size ≤ 32 := by rcases h with h | h | h <;> omega
  unfold clavigerref08_Keys.f
  refine evs (rrounds_i _) (evn (by rw [rnd_ok h]; omega) (evb hw ?_))
  exact rkeysL (wordsB key) _ w1 (by omega) w2 _ 0 rfl (by omega)
theorem rkeys_n {key : ByteArray} (h : ¬ okN key.size) : Ev (fun k => clavigerref08_Keys.f k key) ([], 2) := by
  unfold clavigerref08_Keys.f
  exact evs (rrounds_i _) (evp (rnd_no h) (Ev.now _))
theorem tl_iff (a b : ByteArray) : a.toList = b.toList ↔ a = b := by
  refine ⟨fun h => ?_, fun h => by rw [h]⟩
  rw [tl_eq, tl_eq] at h
  exact ByteArray.ext (Array.ext' h)
end Go.Proofs.Ytokkhnjedmlbhaa.M
end
section
namespace Go.Proofs.Ytokkhnjedmlbhaa.M
def encR (key s : ByteArray) : ByteArray × Int := if s.size = 16 then (encT (ksB key) s, 0) else (⟨#[]⟩, 4)
def decR (key s : ByteArray) : ByteArray × Int := if s.size = 16 then (decT (ksB key) s, 0) else (⟨#[]⟩, 4)
end Go.Proofs.Ytokkhnjedmlbhaa.M
namespace Go.Proofs.Ytokkhnjedmlbhaa.Pr
open Go.RowKit Go.Proofs.YtokkhnjedmlbhaaW.PrintWords Go.Proofs.YtokkhnjedmlbhaaW.PrintLast Go.Proofs.YtokkhnjedmlbhaaW.PrintMore Go.Proofs.YtokkhnjedmlbhaaHw Go.Proofs.YtokkhnjedmlbhaaGf
/-- A cipher of a key in memory. -/
def IsK (w : World) (g : Nat) (key : ByteArray) : Prop := IsC w g key.size (M.ksB key)
theorem IsK.below {w w1 : World} {g : Nat} {key : ByteArray} (h : IsK w g key) (hb : Below w.heap.size w w1) : IsK w1 g key := IsC.below h hb
theorem new_ok (key : ByteArray) (w : World) (h : M.okN key.size) :
    Calls Try.prog 104 #[.string key] w fun e w' => ∃ g : Nat, e = .returned (.tuple #[.pointer (some ⟨g, 0, none⟩), .int .i64 0]) ∧ IsK w' g key ∧ Below w.heap.size w w' := by
  obtain ⟨k, hk⟩ := Ev.rounds (M.keys_c h)
  exact new_calls k key (M.ksB key) w hk (by have := (M.ks_len h).1; omega)
theorem new_bad (key : ByteArray) (w : World) (h : ¬ M.okN key.size) :
    Calls Try.prog 104 #[.string key] w fun e w' => e = .returned (.tuple #[.pointer none, .int .i64 2]) ∧ Below w.heap.size w w' := by
  obtain ⟨k, hk⟩ := Ev.rounds (M.keys_n h)
  exact new_err k key [] 2 w hk (by decide)
theorem enc_any (g : Nat) (key s : ByteArray) (w : World) (hC : IsK w g key) (hk : M.okN key.size) :
    Calls Try.prog 106 #[.pointer (some ⟨g, 0, none⟩), .string s] w fun e w' => e = .returned (.tuple #[.string (M.encR key s).1, .int .i64 (M.encR key s).2]) ∧ Below w.heap.size w w' := by
  unfold M.encR
  by_cases hs : s.size = 16
  · rw [if_pos hs]
    exact enc_calls g key.size (M.ksB key) s w hC hs (M.ks_len hk).1 (M.ks_len hk).2 (M.ks_facts hk).2.1
  · rw [if_neg hs]
    have HC : Aside0 (IsC w g key.size (M.ksB key)) := ⟨hC⟩
    have HS := Aside0.mk hs
    clear hC hs hk
    go_enter Try.func106, Try.ntmps106
    go_wp2_with (go_at_call 193; (with_reducible refine (may_size g _ _ s _ HC.out HS.out).mono ?_); rintro e w' ⟨rfl, hw'⟩; have hw2 := hw'.symm; subst hw2)
    go_ret2
    exact ⟨rfl, Below.refl _ _⟩
theorem dec_any (g : Nat) (key s : ByteArray) (w : World) (hC : IsK w g key) (hk : M.okN key.size) :
    Calls Try.prog 107 #[.pointer (some ⟨g, 0, none⟩), .string s] w fun e w' => e = .returned (.tuple #[.string (M.decR key s).1, .int .i64 (M.decR key s).2]) ∧ Below w.heap.size w w' := by
  unfold M.decR
  by_cases hs : s.size = 16
  · rw [if_pos hs]
    exact dec_calls g key.size (M.ksB key) s w hC hs (M.ks_len hk).1 (M.ks_len hk).2 (M.ks_facts hk).2.1
  · rw [if_neg hs]
    have HC : Aside0 (IsC w g key.size (M.ksB key)) := ⟨hC⟩
    have HS := Aside0.mk hs
    clear hC hs hk
    go_enter Try.func107, Try.ntmps107
    go_wp2
    refine scope_pass 0 (fun _ _ => False) (fun _ _ => 0) rfl (fun _ _ h => h.elim) ?_
    intro _
    go_wp2_with (go_at_call 193; (with_reducible refine (may_size g _ _ s _ HC.out HS.out).mono ?_); rintro e w' ⟨rfl, hw'⟩; have hw2 := hw'.symm; subst hw2)
    simp only [Exit.jump]
    go_ret2
    exact ⟨rfl, Below.refl _ _⟩
def aes_Encrypt.f (a0 a1 : ByteArray) : Option (ByteArray × Int) := some (if M.okN a0.size then M.encR a0 a1 else (⟨#[]⟩, 2))
def aes_Decrypt.f (a0 a1 : ByteArray) : Option (ByteArray × Int) := some (if M.okN a0.size then M.decR a0 a1 else (⟨#[]⟩, 2))
end Go.Proofs.Ytokkhnjedmlbhaa.Pr
end
section
namespace Go.Proofs.Ytokkhnjedmlbhaa.Pr
open Go.RowKit Go.Proofs.YtokkhnjedmlbhaaW.PrintWords Go.Proofs.YtokkhnjedmlbhaaW.PrintLast Go.Proofs.YtokkhnjedmlbhaaW.PrintMore Go.Proofs.YtokkhnjedmlbhaaHw
attribute [local go_sem] max2_int min2_int max_two min_two max_three min_three max_four min_four
/-- What lies in the row behind k rounds. -/
def xorRow (a b : ByteArray) (m k : Nat) : List Int := (List.range m).map fun i => if i < k then Go.bits .xor .u8 (bt a i) (bt b i) else bt a i
theorem xorRow_length (a b : ByteArray) (m k : Nat) : (xorRow a b m k).length = m := by simp [xorRow]
theorem xorRow_zero (a b : ByteArray) (m : Nat) (h : m ≤ a.size) : (Lib.byteCells a.data.toList).take m = (xorRow a b m 0).map (Value.int .u8) := by
  apply List.ext_getElem
  · rw [List.length_take, Lib.byteCells_length, List.length_map, xorRow_length, ← Lib.size_eq]; omega
  · intro i h1 h2
    have hi : i < m := by simpa [xorRow] using h2
    simp only [List.getElem_take, Lib.byteCells, List.getElem_map, xorRow, List.getElem_range, Nat.not_lt_zero, if_false]
    rw [← bt_at a (i : Int) (by simp; omega)]
    rfl
theorem xorRow_get (a b : ByteArray) (m k : Nat) (h : k < m) : ((xorRow a b m k).map (Value.int .u8)).toArray[k]? = some (.int .u8 (bt a k)) := by
  simp [xorRow, h]
theorem xorRow_set (a b : ByteArray) (m k : Nat) : ((xorRow a b m k).map (Value.int .u8)).toArray.setIfInBounds k (.int .u8 (Go.bits .xor .u8 (bt a k) (bt b k))) = ((xorRow a b m (k + 1)).map (Value.int .u8)).toArray := by
  apply Array.ext'
  simp only [Array.toList_setIfInBounds]
  apply List.ext_getElem
  · simp [xorRow]
  · intro i h1 h2
    have hi : i < m := by simpa [xorRow] using h2
    rw [List.getElem_set]
    by_cases e : k = i
    · subst e; simp [xorRow]
    · rw [if_neg e]
      simp only [List.getElem_map, xorRow, List.getElem_range]
      have : (i < k) = (i < k + 1) := by apply propext; omega
      simp only [this]
def octets_Xor.f (a b : ByteArray) : Option ByteArray := if min a.size b.size ≤ 281474976710656 then some (strOfNums (xorRow a b (min a.size b.size) (min a.size b.size))) else none
set_option maxHeartbeats 1000000 in
theorem octets_Xor.loop (a b : ByteArray) (m : Nat) (w : World) (hm : m ≤ 281474976710656) (ha : m ≤ a.size) (hb : m ≤ b.size) (hmin : (if (b.size : Int) < (a.size : Int) then (b.size : Int) else (a.size : Int)) = (m : Int)) (hmin2 : (if b.size < a.size then (b.size : Int) else (a.size : Int)) = (m : Int)) :
    Calls Try.prog 170 #[.string a, .string b] w fun e w' => e = .returned (.string (strOfNums (xorRow a b m m))) ∧ Below w.heap.size w w' := by
  have hmk := print_make (P := Try.prog) 66 5 .u8 1 Try.underlying66 (by kernel_rfl) (by decide) m (by omega)
  have hcp : ∀ (ty : TypeId), (Builtin.copy_ #[66, 9] ty #[.slice (some ⟨w.heap.size, 0, none⟩) m m, .string a]).run Try.prog (w.alloc (.cells (madeCells #[.int .u8 0] m) 5)) = .ok (goInt m) ((w.alloc (.cells (madeCells #[.int .u8 0] m) 5)).setRow w.heap.size ((xorRow a b m 0).map (Value.int .u8)).toArray) := fun ty => by
    rw [← xorRow_zero a b m ha]
    exact run_copy_str (P := Try.prog) _ 66 9 ty 5 w.heap.size m m a _ 5 Try.underlying66 (by kernel_rfl) (heap_alloc_new w _) ha (by simp [size_madeCells])
  go_enter Try.func170, Try.ntmps170
  go_wp2
  clear hmk hcp
  have hbk := setRow_heap (w.alloc (.cells (madeCells #[.int .u8 0] m) 5)) w.heap.size _ ((xorRow a b m 0).map (Value.int .u8)).toArray 5 (0, 0) (heap_alloc_new w _)
  have hbl : Below w.heap.size w ((w.alloc (.cells (madeCells #[.int .u8 0] m) 5)).setRow w.heap.size ((xorRow a b m 0).map (Value.int .u8)).toArray) := below_setRow ((Below.refl _ _).alloc (Nat.le_refl _) _) (Nat.le_refl _) _
  have HK := Aside0.mk hbk
  have HL := Aside0.mk hbl
  clear hbk hbl hmin hmin2
  go_loopw [18] (fun i wr => ∃ k : Nat, k ≤ m ∧ i = .int .i64 k ∧ Aside0 (wr.heap[w.heap.size]? = some (.cells ((xorRow a b m k).map (Value.int .u8)).toArray 5 (0, 0))) ∧ Aside0 (Below w.heap.size w wr)) (fun i _ => m - (intOf i).toNat)
  case atStart => exact ⟨0, Nat.zero_le _, rfl, HK, HL⟩
  case round =>
    clear HK HL
    obtain ⟨k, hk, rfl, HK, HB⟩ := hrel
    by_cases hlt : k < m
    · have hc : wr.cell? ⟨w.heap.size, k, none⟩ = some (.int .u8 (bt a k)) := (blk_cell HK.out k).trans (xorRow_get a b m k hlt)
      have hf : wr.frozen? ⟨w.heap.size, k, none⟩ = false := blk_frozen HK.out k
      have hbi : k < b.size := by omega
      go_wp2
      go_region
      go_wp2
      have hbt : ((b[k]'hbi).toNat : Int) = bt b k := bt_at b (k : Int) (by simpa using hbi)
      rw [hbt]
      have hs : ((wr.setCell ⟨w.heap.size, k, none⟩ (.int .u8 (Go.bits .xor .u8 (bt a k) (bt b k)))).drew).heap[w.heap.size]? = some (.cells ((xorRow a b m (k + 1)).map (Value.int .u8)).toArray 5 (0, 0)) := by
        rw [← xorRow_set a b m k]
        exact blk_set HK.out k _
      exact ⟨⟨k + 1, hlt, by go_num, ⟨hs⟩, ⟨below_drew1 (below_set HB.out (Nat.le_refl _))⟩⟩, by simp [intOf]; omega⟩
    · obtain rfl : k = m := by omega
      have hcv := run_convert_bytes_arg (P := Try.prog) wr 66 5 Try.underlying66 Try.underlying5 w.heap.size 0 k k (xorRow a b k k) (xorRow_length a b k k) (fun i hi => by
        rw [Nat.zero_add, blk_cell HK.out i]
        simp [List.getD_eq_getElem?_getD, List.getElem?_eq_getElem (show i < (xorRow a b k k).length by rw [xorRow_length]; exact hi)]) 9 Try.underlying9
      go_wp2
      go_ret
      exact ⟨rfl, HB.out⟩
end Go.Proofs.Ytokkhnjedmlbhaa.Pr
end
