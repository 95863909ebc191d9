-- several texts in one (by the session's program shake.py)
import Derived.Test.YtokkhnjedmlbhaaZSchedP
import Derived.Test.YtokkhnjedmlbhaaZPrg01x
import Derived.Test.YtokkhnjedmlbhaaZShelf
import Derived.Test.YtokkhnjedmlbhaaZRoundM
import Derived.Test.YtokkhnjedmlbhaaZAesD
import Derived.Test.YtokkhnjedmlbhaaZPrg08
import Derived.RegionTactic
import Derived.Laws.CopyOwn
import Derived.ChangeAlike
section
namespace Go.Proofs.Ytokkhnjedmlbhaa.M
open Go.RowKit Go.Proofs.Ytokkhnjedmlbhaa.Pr Go.Proofs.YtokkhnjedmlbhaaW.PrintWords Go.Proofs.YtokkhnjedmlbhaaW.PrintLast Go.Proofs.YtokkhnjedmlbhaaW.PrintMore Go.Proofs.YtokkhnjedmlbhaaGf
set_option linter.unusedSimpArgs false
def okN (n : Nat) : Prop := n = 16 ∨ n = 24 ∨ n = 32
instance (n : Nat) : Decidable (okN n) := inferInstanceAs (Decidable (n = 16 ∨ n = 24 ∨ n = 32))
def allS (n : Nat) (l : List ByteArray) : Prop := ∀ x ∈ l, x.size = n
theorem append_empty (a : ByteArray) : a ++ (⟨#[]⟩ : ByteArray) = a := by rw [emptyB, ← mkB_nb a, mkB_append, List.append_nil]
theorem empty_append' (a : ByteArray) : (⟨#[]⟩ : ByteArray) ++ a = a := by rw [emptyB, ← mkB_nb a, mkB_append, List.nil_append]
theorem cat_app (l m : List ByteArray) : catB (l ++ m) = catB l ++ catB m := by
  induction l with
  | nil => exact (empty_append' _).symm
  | cons a l ih =>
    show a ++ catB (l ++ m) = (a ++ catB l) ++ catB m
    rw [ih, ByteArray.append_assoc]
theorem cat_one (a : ByteArray) : catB [a] = a := append_empty a
theorem cat_size (n : Nat) : ∀ (l : List ByteArray), allS n l → (catB l).size = n * l.length
  | [], _ => rfl
  | a :: l, h => by
    show (a ++ catB l).size = _
    rw [ByteArray.size_append, h a (by simp), cat_size n l (fun x hx => h x (by simp [hx])), List.length_cons, Nat.mul_succ, Nat.add_comm]
theorem ext_join (s : ByteArray) (a b : Nat) (h : a ≤ b) : s.extract 0 a ++ s.extract a b = s.extract 0 b := by
  rw [extract_nb, extract_nb, extract_nb, mkB_append]
  congr 1
  rw [List.drop_zero, List.drop_zero]
  have : (nb s).take a = ((nb s).take b).take a := by rw [List.take_take, Nat.min_eq_left h]
  rw [this, List.take_append_drop]
theorem pcs_cat (n : Nat) (s : ByteArray) (m : Nat) : catB (pcs n m s) = s.extract 0 (n * m) := by
  induction m with
  | zero => show (⟨#[]⟩ : ByteArray) = _; rw [Nat.mul_zero, extract_nb]; rfl
  | succ m ih =>
    have e : pcs n (m + 1) s = pcs n m s ++ [s.extract (n * m) (n * m + n)] := by
      unfold pcs; rw [List.range_succ, List.map_append]; rfl
    rw [e, cat_app, ih, cat_one, ext_join s _ _ (by omega), Nat.mul_succ]
theorem ext_all (s : ByteArray) : s.extract 0 s.size = s := by
  rw [extract_nb, List.drop_zero, List.take_of_length_le (by rw [nb_length]; exact Nat.le_refl _), mkB_nb]
theorem pcs_all {n m : Nat} {s : ByteArray} (h : s.size = n * m) : catB (pcs n m s) = s := by rw [pcs_cat, ← h, ext_all]
theorem pcs_length (n m : Nat) (s : ByteArray) : (pcs n m s).length = m := by simp [pcs]
theorem pcs_size {n m : Nat} {s : ByteArray} (h : n * m ≤ s.size) : allS n (pcs n m s) := by
  intro x hx
  obtain ⟨i, hi, rfl⟩ := List.mem_map.1 hx
  have hi := List.mem_range.1 hi
  have : n * i + n ≤ n * m := by rw [← Nat.mul_succ]; exact Nat.mul_le_mul_left n hi
  rw [ByteArray.size_extract]; omega
/-- What octets_Pieces makes of a text of m pieces. -/
theorem pieces_m {n m : Nat} {s : ByteArray} (hn : 0 < n) (hn2 : n ≤ 1000) (hm : m < 1000000) (h : s.size = n * m) : Ev (fun k => octets_Pieces.f k s (n : Int)) (pcs n m s) := by
  cases m with
  | zero =>
    have h0 : s = ⟨#[]⟩ := by rw [← ext_all s, h, Nat.mul_zero, extract_nb]; rfl
    subst h0
    unfold octets_Pieces.f
    refine evn (by omega) ?_
    exact Ev.step (f := fun _ => some []) (fun k => by simp only [octets_Pieces.j0]; rw [if_pos (by decide +kernel)]) (Ev.now _)
  | succ m =>
    obtain ⟨a, l, e⟩ : ∃ a l, pcs n (m + 1) s = a :: l := by
      cases e : pcs n (m + 1) s with
      | nil => have := pcs_length n (m + 1) s; rw [e] at this; cases this
      | cons a l => exact ⟨a, l, rfl⟩
    have hc := pcs_all h
    have hs := pcs_size (n := n) (m := m + 1) (s := s) (by omega)
    have hl := pcs_length n (m + 1) s
    rw [e] at hc hs hl ⊢
    have : s.size < 1000000000 := by
      rw [h]
      have : n * (m + 1) ≤ 1000 * (m + 1) := Nat.mul_le_mul_right _ hn2
      omega
    rw [← hc]
    exact pieces_c n hn hn2 a l hs (by simp at hl; omega) (by rw [hc]; exact this)
theorem T4 (s : ByteArray) (hs : s.size = 4) : mkB [bb s 0, bb s 1, bb s 2, bb s 3] = s := by
  conv => rhs; rw [← mkB_nb s]
  congr 1
  have hl := nb_length s
  rw [hs] at hl
  rw [bb_nb, bb_nb, bb_nb, bb_nb]
  match h : nb s, hl with
  | [a, b, c, d], _ => rfl
theorem be4 (p : ByteArray) (hp : p.size = 4) : wB (beT p 4) = p ∧ beT p 4 < 4294967296 := by
  have h0 := bb_lt p 0; have h1 := bb_lt p 1; have h2 := bb_lt p 2; have h3 := bb_lt p 3
  have e : beT p 4 = ((bb p 0 * 256 + bb p 1) * 256 + bb p 2) * 256 + bb p 3 := by simp [beT]
  refine ⟨?_, by omega⟩
  conv => rhs; rw [← T4 p hp]
  rw [e]
  unfold wB wL
  congr 1
  simp only [List.cons.injEq, and_true]
  refine ⟨by omega, by omega, by omega, by omega⟩
theorem expL1_c : ∀ (ps : List ByteArray) (us : List Nat), allS 4 ps → (∀ u ∈ us, u < 4294967296) → ∃ vs : List Nat, Ev (fun k => expL1 k ps (us.map Int.ofNat)) (vs.map Int.ofNat) ∧ vs.map wB = us.map wB ++ ps ∧ (∀ v ∈ vs, v < 4294967296)
  | [], us, _, hu => ⟨us, Ev.now _, by simp, hu⟩
  | p :: ps, us, h, hu => by
    have hp := h p (by simp)
    obtain ⟨b1, b2⟩ := be4 p hp
    obtain ⟨vs, h1, h2, h3⟩ := expL1_c ps (us ++ [beT p 4]) (fun x hx => h x (by simp [hx])) (fun u hx => by
      rcases List.mem_append.1 hx with hx | hx
      · exact hu u hx
      · have : u = beT p 4 := by simpa using hx
        subst this; exact b2)
    refine ⟨vs, ?_, ?_, h3⟩
    · have hg := get_c p (by omega) (by omega)
      rw [hp] at hg
      refine evb hg ?_
      show Ev (fun k => expL1 k ps (us.map Int.ofNat ++ [((beT p 4 : Nat) : Int) % 4294967296])) _
      rw [show ((beT p 4 : Nat) : Int) % 4294967296 = ((beT p 4 : Nat) : Int) by omega, map_snoc]
      exact h1
    · rw [h2, List.map_append, List.append_assoc]
      show us.map wB ++ ([wB (beT p 4)] ++ ps) = _
      rw [b1]; rfl
theorem goB_length (n : Nat) : ∀ (d i : Nat) (ws : List ByteArray), (goB n d i ws).length = ws.length + d
  | 0, _, _ => rfl
  | d + 1, i, ws => by simp only [goB]; rw [goB_length n d, List.length_append, List.length_singleton]; omega
theorem goB_pre (n : Nat) : ∀ (d i : Nat) (ws : List ByteArray), ∃ r, goB n d i ws = ws ++ r
  | 0, _, ws => ⟨[], (List.append_nil ws).symm⟩
  | d + 1, i, ws => by
    obtain ⟨r, h⟩ := goB_pre n d (i + 1) (ws ++ [stepB n i (ws.getD (i - n) ByteArray.empty) (ws.getD (i - 1) ByteArray.empty)])
    exact ⟨_, by simp only [goB]; rw [h, List.append_assoc]⟩
theorem stepB_size (n i : Nat) {q t : ByteArray} (hq : q.size = 4) (ht : t.size = 4) : (stepB n i q t).size = 4 := by
  have hr : (t.extract 1 4 ++ t.extract 0 1).size = 4 := by rw [ByteArray.size_append, ByteArray.size_extract, ByteArray.size_extract]; omega
  unfold stepB
  split
  · rw [xorT_size, xorT_size, sb_size, hr, hq, mkB_size]; rfl
  · split
    · rw [xorT_size, sb_size, hq, ht]; rfl
    · rw [xorT_size, hq, ht]; rfl
theorem getD_size {n : Nat} {ws : List ByteArray} (h : allS n ws) {j : Nat} (hj : j < ws.length) : (ws.getD j ByteArray.empty).size = n := by
  rw [List.getD_eq_getElem?_getD, List.getElem?_eq_getElem hj]
  exact h _ (List.getElem_mem hj)
theorem goB_size (n : Nat) (hn : 0 < n) : ∀ (d i : Nat) (ws : List ByteArray), allS 4 ws → ws.length = i → n ≤ i → allS 4 (goB n d i ws)
  | 0, _, _, h, _, _ => h
  | d + 1, i, ws, h, hl, hi => by
    simp only [goB]
    refine goB_size n hn d (i + 1) _ (fun x hx => ?_) (by simp [hl]) (by omega)
    rcases List.mem_append.1 hx with hx | hx
    · exact h x hx
    · have : x = stepB n i (ws.getD (i - n) ByteArray.empty) (ws.getD (i - 1) ByteArray.empty) := by simpa using hx
      rw [this]
      exact stepB_size n i (getD_size h (by omega)) (getD_size h (by omega))
def quads : List ByteArray → List ByteArray
  | a :: b :: c :: d :: l => (a ++ (b ++ (c ++ d))) :: quads l
  | _ => []
theorem quads_all : ∀ (m : Nat) (l : List ByteArray), l.length = 4 * m → allS 4 l → catB (quads l) = catB l ∧ (quads l).length = m ∧ all16 (quads l)
  | 0, l, h, _ => by
    obtain rfl : l = [] := List.eq_nil_of_length_eq_zero (by omega)
    exact ⟨rfl, rfl, fun x hx => by cases hx⟩
  | m + 1, l, h, hs => by
    match l, h with
    | a :: b :: c :: d :: l, h =>
      obtain ⟨h1, h2, h3⟩ := quads_all m l (by simp at h; omega) (fun x hx => hs x (by simp [hx]))
      refine ⟨?_, by simp [quads, h2], ?_⟩
      · show (a ++ (b ++ (c ++ d))) ++ catB (quads l) = a ++ (b ++ (c ++ (d ++ catB l)))
        rw [h1, ByteArray.append_assoc, ByteArray.append_assoc, ByteArray.append_assoc]
      · intro x hx
        rcases List.mem_cons.1 hx with rfl | hx
        · rw [ByteArray.size_append, ByteArray.size_append, ByteArray.size_append, hs a (by simp), hs b (by simp), hs c (by simp), hs d (by simp)]
        · exact h3 x hx
/-- The keys of the rounds. -/
def ksB (key : ByteArray) : List ByteArray := quads (wordsB key)
theorem words_facts {key : ByteArray} (h : okN key.size) : (wordsB key).length = 4 * (key.size / 4 + 7) ∧ allS 4 (wordsB key) ∧ ∃ r, wordsB key = pcs 4 (key.size / 4) key ++ r := by
  have h4 : key.size = 4 * (key.size / 4) := by rcases h with h | h | h <;> omega
  have hp := pcs_size (n := 4) (m := key.size / 4) (s := key) (by omega)
  unfold wordsB
  refine ⟨?_, goB_size _ (by rcases h with h | h | h <;> omega) _ _ _ hp (pcs_length _ _ _) (Nat.le_refl _), goB_pre _ _ _ _⟩
  rw [goB_length, pcs_length]; omega
theorem ks_facts {key : ByteArray} (h : okN key.size) : (ksB key).length = key.size / 4 + 7 ∧ all16 (ksB key) ∧ catB (ksB key) = catB (wordsB key) ∧ ∃ r, catB (ksB key) = key ++ r := by
  obtain ⟨h1, h2, r, h3⟩ := words_facts h
  obtain ⟨q1, q2, q3⟩ := quads_all _ _ h1 h2
  refine ⟨q2, q3, q1, catB r, ?_⟩
  rw [show ksB key = quads (wordsB key) from rfl, q1, h3, cat_app, pcs_all (by rcases h with h | h | h <;> omega)]
theorem ks_len {key : ByteArray} (h : okN key.size) : 2 ≤ (ksB key).length ∧ (ksB key).length ≤ 100 := by
  rw [(ks_facts h).1]
  rcases h with h | h | h <;> rw [h] <;> decide
end Go.Proofs.Ytokkhnjedmlbhaa.M
end
section
namespace Go.Proofs.Ytokkhnjedmlbhaa.Pr
open Go.RowKit Go.Proofs.YtokkhnjedmlbhaaW.PrintWords Go.Proofs.YtokkhnjedmlbhaaW.PrintLast Go.Proofs.YtokkhnjedmlbhaaW.PrintMore
attribute [local go_sem] max2_int min2_int max_two min_two max_three min_three max_four min_four   -- for this text's walks alone
set_option linter.unusedVariables false
set_option linter.unusedSimpArgs false

def slices_Equal_string_string.l0 : Nat → List ByteArray → List ByteArray → Int → Int → Option (Bool)
 | 0, _, _, _, _ => none
 | k + 1, x0, x1, x12, x13 => if x13 < x12 then (if 0 ≤ x13 then (if x13 < (x0.length : Int) then (if x13 < (x1.length : Int) then (if (rdOf ByteArray.empty x0 x13).toList = (rdOf ByteArray.empty x1 x13).toList then (slices_Equal_string_string.l0 k x0 x1 x12 (wrap64 (x13 + 1))) else (some false)) else (none)) else (none)) else (none)) else (some true)
def slices_Equal_string_string.f (k : Nat) (l0 : List ByteArray) (l1 : List ByteArray) : Option (Bool) := if (l0.length : Int) = (l1.length : Int) then (slices_Equal_string_string.l0 k l0 l1 (l0.length : Int) 0) else (some false)
theorem slices_Equal_string_string.mono_l : ∀ k, (∀ y1 y2 y3 y4, LeO (slices_Equal_string_string.l0 k y1 y2 y3 y4) (slices_Equal_string_string.l0 (k + 1) y1 y2 y3 y4))
 | 0 => fun _ _ _ _ r h => by simp [slices_Equal_string_string.l0] at h
 | k + 1 => by
  have ih0 := slices_Equal_string_string.mono_l k
  ·intro y1 y2 y3 y4
   unfold slices_Equal_string_string.l0
   repeat' first
   | (with_reducible exact ih0 _ _ _ _)
   | (with_reducible exact LeO.refl _)
   | (with_reducible exact LeO.none _)
   | (with_reducible refine LeO.ite ?_ ?_)
   | (with_reducible refine LeO.bind ?_ (fun _ => ?_))
theorem slices_Equal_string_string.mono : ∀ a0 a1 k, LeO (slices_Equal_string_string.f k a0 a1) (slices_Equal_string_string.f (k + 1) a0 a1) := by
 intro a0 a1 k
 have ih0 := slices_Equal_string_string.mono_l k
 unfold slices_Equal_string_string.f
 repeat' first
   | (with_reducible exact ih0 _ _ _ _)
   | (with_reducible exact LeO.refl _)
   | (with_reducible exact LeO.none _)
   | (with_reducible refine LeO.ite ?_ ?_)
   | (with_reducible refine LeO.bind ?_ (fun _ => ?_))
end Go.Proofs.Ytokkhnjedmlbhaa.Pr
end
section
namespace Go.Proofs.Ytokkhnjedmlbhaa.M
open Go.RowKit Go.Proofs.Ytokkhnjedmlbhaa.Pr Go.Proofs.YtokkhnjedmlbhaaW.PrintWords Go.Proofs.YtokkhnjedmlbhaaW.PrintLast Go.Proofs.YtokkhnjedmlbhaaW.PrintMore Go.Proofs.YtokkhnjedmlbhaaGf
set_option linter.unusedSimpArgs false
def rndI (n : Int) : Int := if n = 16 then 10 else if n = 24 then 12 else if n = 32 then 14 else 0
theorem rounds_i (n : Int) : sched_Rounds.f n = some (rndI n) := by
  unfold sched_Rounds.f rndI
  by_cases h1 : n = 16
  · subst h1; decide +kernel
  · rw [if_neg h1, if_neg h1]
    by_cases h2 : n = 24
    · subst h2; decide +kernel
    · rw [if_neg h2, if_neg h2]
      by_cases h3 : n = 32
      · subst h3; decide +kernel
      · rw [if_neg h3, if_neg h3]
theorem rnd_ok {key : ByteArray} (h : okN key.size) : rndI (key.size : Int) = ((key.size / 4 + 6 : Nat) : Int) := by
  unfold rndI
  rcases h with h | h | h <;> rw [h] <;> rfl
theorem rnd_no {key : ByteArray} (h : ¬ okN key.size) : rndI (key.size : Int) = 0 := by
  unfold okN at h
  unfold rndI
  rw [if_neg (by omega), if_neg (by omega), if_neg (by omega)]
theorem put4 {u : Nat} (_hu : u < 4294967296) : octets_Put.f (u : Int) 4 = some (wB u) := by
  unfold octets_Put.f
  rw [if_neg (by decide), if_neg (by decide)]
  rfl
theorem drop_cons {l : List Nat} {i : Nat} (h : i < l.length) : l.drop i = l.getD i 0 :: l.drop (i + 1) := by
  rw [List.drop_eq_getElem_cons h]
  simp [List.getD_eq_getElem?_getD, h]
theorem wordsL (us : List Nat) (hl : us.length ≤ 1000) (hu : ∀ u ∈ us, u < 4294967296) (d : Nat) : ∀ (i : Nat) (out : List ByteArray), us.length - i = d → i ≤ us.length → out.length ≤ i → Ev (fun k => sched_Words.l0 k out (us.map Int.ofNat) (us.length : Int) (i : Int)) (out ++ (us.drop i).map wB) := by
  induction d with
  | zero =>
    intro i out hd hi ho
    refine Ev.step (f := fun _ => some out) (fun k => ?_) ?_
    · simp only [sched_Words.l0]
      rw [if_neg (by omega)]
    · rw [List.drop_of_length_le (by omega), List.map_nil, List.append_nil]
      exact Ev.now _
  | succ d ih =>
    intro i out hd hi ho
    have hh := ih (i + 1) (out ++ [wB (us.getD i 0)]) (by omega) (by omega) (by rw [List.length_append, List.length_singleton]; omega)
    have hv := getD_lt hu i
    rw [List.append_assoc, List.singleton_append, ← List.map_cons, ← drop_cons (by omega)] at hh
    refine Ev.step (fun k => ?_) hh
    simp only [sched_Words.l0]
    rw [if_pos (by omega), if_pos (by omega), if_pos (by rw [List.length_map]; omega), rd_cast, show IntKind.u64.wrap ((us.getD i 0 : Nat) : Int) = ((us.getD i 0 : Nat) : Int) by rw [IntKind.wrap_u64]; omega, put4 hv]
    simp only [Option.bind_some]
    rw [if_pos (by omega), wrap_id (by omega) (by omega)]
    rfl
theorem sT_size : (mkB sT).size = 256 := by rw [mkB_size]; simp [sT]
theorem expF_c (n : Nat) (hn : n = 4 ∨ n = 6 ∨ n = 8) (key : ByteArray) (h : key.size = 4 * n) : ∃ vs : List Nat, Ev (fun k => expF k n key) (vs.map Int.ofNat) ∧ vs.map wB = wordsB key ∧ (∀ u ∈ vs, u < 4294967296) ∧ vs.length = 4 * n + 28 := by
  obtain ⟨us, h1, h2, h3⟩ := expL1_c (pcs 4 n key) [] (pcs_size (by omega)) (fun u hu => by cases hu)
  have hl : us.length = n := by have := congrArg List.length h2; rw [List.length_map, List.length_append, List.length_map, pcs_length] at this; simpa using this
  obtain ⟨vs, g1, g2, g3, g4⟩ := expL2_c n hn (3 * n + 28) n us hl (Nat.le_refl _) (by omega) h3
  have hp : Ev (fun k => octets_Pieces.f k key 4) (pcs 4 n key) := pieces_m (n := 4) (by omega) (by omega) (by omega) h
  rw [show (n - 1) / n = 0 by rcases hn with rfl | rfl | rfl <;> rfl] at g1
  refine ⟨vs, ?_, ?_, g3, by omega⟩
  · unfold expF
    refine evb table_c (evp sT_size (evb hp (evp (pcs_length _ _ _) (evb h1 (evp (by rw [List.length_map]; exact hl) ?_)))))
    show Ev (fun _ => expL2 (mkB sT) n (3 * n + 28) n ((pw 2 0 : Nat) : Int) (us.map Int.ofNat)) _
    rw [g1]
    exact Ev.now _
  · rw [g2, h2, List.map_nil, List.nil_append]
    unfold wordsB
    rw [h, show 4 * n / 4 = n by omega]
theorem expand_c {key : ByteArray} (h : okN key.size) : ∃ vs : List Nat, Ev (fun k => sched_expand.f k key) (vs.map Int.ofNat) ∧ vs.map wB = wordsB key ∧ (∀ u ∈ vs, u < 4294967296) ∧ vs.length = 4 * (key.size / 4) + 28 := by
  unfold sched_expand.f
  rcases h with h | h | h
  · obtain ⟨vs, g1, g2, g3, g4⟩ := expF_c 4 (by omega) key (by omega)
    exact ⟨vs, evp h g1, g2, g3, by omega⟩
  · obtain ⟨vs, g1, g2, g3, g4⟩ := expF_c 6 (by omega) key (by omega)
    exact ⟨vs, evn (by omega) (evp h g1), g2, g3, by omega⟩
  · obtain ⟨vs, g1, g2, g3, g4⟩ := expF_c 8 (by omega) key (by omega)
    exact ⟨vs, evn (by omega) (evn (by omega) (evp h g1)), g2, g3, by omega⟩
def wordsT (key : ByteArray) : List ByteArray := if okN key.size then wordsB key else []
theorem words_c (key : ByteArray) : Ev (fun k => sched_Words.f k key) (wordsT key) := by
  unfold wordsT
  by_cases h : okN key.size
  · rw [if_pos h]
    obtain ⟨vs, g1, g2, g3, g4⟩ := expand_c h
    have hb : vs.length ≤ 1000 := by rcases h with h | h | h <;> omega
    unfold sched_Words.f
    refine evb g1 ?_
    have := wordsL vs hb g3 _ 0 [] rfl (by omega) (by simp)
    rw [List.drop_zero, List.nil_append, g2] at this
    rw [List.length_map]
    exact this
  · rw [if_neg h]
    unfold okN at h
    unfold sched_Words.f
    have e : ∀ k, sched_expand.f k key = some [] := fun k => by unfold sched_expand.f; rw [if_neg (by omega), if_neg (by omega), if_neg (by omega)]
    simp only [e, Option.bind_some]
    exact Ev.step (f := fun _ => some []) (fun k => by simp only [sched_Words.l0]; rw [if_neg (by simp)]) (Ev.now _)
theorem ks_ne {key : ByteArray} (h : okN key.size) : ∃ a l, ksB key = a :: l := by
  have := (ks_len h).1
  cases e : ksB key with
  | nil => rw [e] at this; simp at this
  | cons a l => exact ⟨a, l, rfl⟩
theorem keys_c {key : ByteArray} (h : okN key.size) : Ev (fun k => sched_Keys.f k key) (ksB key, 0) := by
  have hw := words_c key
  rw [wordsT, if_pos h] at hw
  obtain ⟨f1, f2, f3, _⟩ := ks_facts h
  obtain ⟨w1, w2, _⟩ := words_facts h
  have hc : (catB (wordsB key)).size = 4 * (wordsB key).length := cat_size 4 _ w2
  have hk : key.size ≤ 32 := by rcases h with h | h | h <;> omega
  obtain ⟨a, l, e⟩ := ks_ne h
  unfold sched_Keys.f
  refine evs (rounds_i _) (evn (by rw [rnd_ok h]; omega) (evb hw (evs (join_c _ (by omega) (by omega)) ?_)))
  rw [← f3, e]
  rw [e] at f1 f2 f3
  rw [List.length_cons] at f1
  refine evb (pieces_c 16 (by omega) (by omega) a l f2 (by omega) (by rw [f3]; omega)) (Ev.now _)
theorem keys_n {key : ByteArray} (h : ¬ okN key.size) : Ev (fun k => sched_Keys.f k key) ([], 2) := by
  unfold sched_Keys.f
  exact evs (rounds_i _) (evp (rnd_no h) (Ev.now _))
theorem tl_iff (a b : ByteArray) : a.toList = b.toList ↔ a = b := by
  refine ⟨fun h => ?_, fun h => by rw [h]⟩
  rw [tl_eq, tl_eq] at h
  exact ByteArray.ext (Array.ext' h)
end Go.Proofs.Ytokkhnjedmlbhaa.M
end
section
namespace Go.Proofs.Ytokkhnjedmlbhaa.M
def encR (key s : ByteArray) : ByteArray × Int := if s.size = 16 then (encT (ksB key) s, 0) else (⟨#[]⟩, 4)
def decR (key s : ByteArray) : ByteArray × Int := if s.size = 16 then (decT (ksB key) s, 0) else (⟨#[]⟩, 4)
end Go.Proofs.Ytokkhnjedmlbhaa.M
namespace Go.Proofs.Ytokkhnjedmlbhaa.Pr
open Go.RowKit Go.Proofs.YtokkhnjedmlbhaaW.PrintWords Go.Proofs.YtokkhnjedmlbhaaW.PrintLast Go.Proofs.YtokkhnjedmlbhaaW.PrintMore Go.Proofs.YtokkhnjedmlbhaaHw Go.Proofs.YtokkhnjedmlbhaaGf
/-- A cipher of a key in memory. -/
def IsK (w : World) (g : Nat) (key : ByteArray) : Prop := IsC w g key.size (M.ksB key)
theorem IsK.below {w w1 : World} {g : Nat} {key : ByteArray} (h : IsK w g key) (hb : Below w.heap.size w w1) : IsK w1 g key := IsC.below h hb
theorem new_ok (key : ByteArray) (w : World) (h : M.okN key.size) :
    Calls Try.prog 104 #[.string key] w fun e w' => ∃ g : Nat, e = .returned (.tuple #[.pointer (some ⟨g, 0, none⟩), .int .i64 0]) ∧ IsK w' g key ∧ Below w.heap.size w w' := by
  obtain ⟨k, hk⟩ := Ev.rounds (M.keys_c h)
  exact new_calls k key (M.ksB key) w hk (by have := (M.ks_len h).1; omega)
theorem new_bad (key : ByteArray) (w : World) (h : ¬ M.okN key.size) :
    Calls Try.prog 104 #[.string key] w fun e w' => e = .returned (.tuple #[.pointer none, .int .i64 2]) ∧ Below w.heap.size w w' := by
  obtain ⟨k, hk⟩ := Ev.rounds (M.keys_n h)
  exact new_err k key [] 2 w hk (by decide)
theorem enc_any (g : Nat) (key s : ByteArray) (w : World) (hC : IsK w g key) (hk : M.okN key.size) :
    Calls Try.prog 106 #[.pointer (some ⟨g, 0, none⟩), .string s] w fun e w' => e = .returned (.tuple #[.string (M.encR key s).1, .int .i64 (M.encR key s).2]) ∧ Below w.heap.size w w' := by
  unfold M.encR
  by_cases hs : s.size = 16
  · rw [if_pos hs]
    exact enc_calls g key.size (M.ksB key) s w hC hs (M.ks_len hk).1 (M.ks_len hk).2 (M.ks_facts hk).2.1
  · rw [if_neg hs]
    have HC : Aside0 (IsC w g key.size (M.ksB key)) := ⟨hC⟩
    have HS := Aside0.mk hs
    clear hC hs hk
    go_enter Try.func106, Try.ntmps106
    go_wp2_with (go_at_call 193; (with_reducible refine (may_size g _ _ s _ HC.out HS.out).mono ?_); rintro e w' ⟨rfl, hw'⟩; have hw2 := hw'.symm; subst hw2)
    go_ret2
    exact ⟨rfl, Below.refl _ _⟩
def aes_Encrypt.f (a0 a1 : ByteArray) : Option (ByteArray × Int) := some (if M.okN a0.size then M.encR a0 a1 else (⟨#[]⟩, 2))
def aes_Decrypt.f (a0 a1 : ByteArray) : Option (ByteArray × Int) := some (if M.okN a0.size then M.decR a0 a1 else (⟨#[]⟩, 2))
end Go.Proofs.Ytokkhnjedmlbhaa.Pr
end
section
namespace Go.Proofs.Ytokkhnjedmlbhaa.Pr
open Go.RowKit Go.Proofs.YtokkhnjedmlbhaaW.PrintWords Go.Proofs.YtokkhnjedmlbhaaW.PrintLast Go.Proofs.YtokkhnjedmlbhaaW.PrintMore Go.Proofs.YtokkhnjedmlbhaaHw
attribute [local go_sem] max2_int min2_int max_two min_two max_three min_three max_four min_four
/-- What lies in the row behind k rounds. -/
def xorRow (a b : ByteArray) (m k : Nat) : List Int := (List.range m).map fun i => if i < k then Go.bits .xor .u8 (bt a i) (bt b i) else bt a i
theorem xorRow_length (a b : ByteArray) (m k : Nat) : (xorRow a b m k).length = m := by simp [xorRow]
theorem xorRow_zero (a b : ByteArray) (m : Nat) (h : m ≤ a.size) : (Lib.byteCells a.data.toList).take m = (xorRow a b m 0).map (Value.int .u8) := by
  apply List.ext_getElem
  · rw [List.length_take, Lib.byteCells_length, List.length_map, xorRow_length, ← Lib.size_eq]; omega
  · intro i h1 h2
    have hi : i < m := by simpa [xorRow] using h2
    simp only [List.getElem_take, Lib.byteCells, List.getElem_map, xorRow, List.getElem_range, Nat.not_lt_zero, if_false]
    rw [← bt_at a (i : Int) (by simp; omega)]
    rfl
theorem xorRow_get (a b : ByteArray) (m k : Nat) (h : k < m) : ((xorRow a b m k).map (Value.int .u8)).toArray[k]? = some (.int .u8 (bt a k)) := by
  simp [xorRow, h]
theorem xorRow_set (a b : ByteArray) (m k : Nat) : ((xorRow a b m k).map (Value.int .u8)).toArray.setIfInBounds k (.int .u8 (Go.bits .xor .u8 (bt a k) (bt b k))) = ((xorRow a b m (k + 1)).map (Value.int .u8)).toArray := by
  apply Array.ext'
  simp only [Array.toList_setIfInBounds]
  apply List.ext_getElem
  · simp [xorRow]
  · intro i h1 h2
    have hi : i < m := by simpa [xorRow] using h2
    rw [List.getElem_set]
    by_cases e : k = i
    · subst e; simp [xorRow]
    · rw [if_neg e]
      simp only [List.getElem_map, xorRow, List.getElem_range]
      have : (i < k) = (i < k + 1) := by apply propext; omega
      simp only [this]
def octets_Xor.f (a b : ByteArray) : Option ByteArray := if min a.size b.size ≤ 281474976710656 then some (strOfNums (xorRow a b (min a.size b.size) (min a.size b.size))) else none
set_option maxHeartbeats 1000000 in
theorem octets_Xor.loop (a b : ByteArray) (m : Nat) (w : World) (hm : m ≤ 281474976710656) (ha : m ≤ a.size) (hb : m ≤ b.size) (hmin : (if (b.size : Int) < (a.size : Int) then (b.size : Int) else (a.size : Int)) = (m : Int)) (hmin2 : (if b.size < a.size then (b.size : Int) else (a.size : Int)) = (m : Int)) :
    Calls Try.prog 170 #[.string a, .string b] w fun e w' => e = .returned (.string (strOfNums (xorRow a b m m))) ∧ Below w.heap.size w w' := by
  have hmk := print_make (P := Try.prog) 66 5 .u8 1 Try.underlying66 (by kernel_rfl) (by decide) m (by omega)
  have hcp : ∀ (ty : TypeId), (Builtin.copy_ #[66, 9] ty #[.slice (some ⟨w.heap.size, 0, none⟩) m m, .string a]).run Try.prog (w.alloc (.cells (madeCells #[.int .u8 0] m) 5)) = .ok (goInt m) ((w.alloc (.cells (madeCells #[.int .u8 0] m) 5)).setRow w.heap.size ((xorRow a b m 0).map (Value.int .u8)).toArray) := fun ty => by
    rw [← xorRow_zero a b m ha]
    exact run_copy_str (P := Try.prog) _ 66 9 ty 5 w.heap.size m m a _ 5 Try.underlying66 (by kernel_rfl) (heap_alloc_new w _) ha (by simp [size_madeCells])
  go_enter Try.func170, Try.ntmps170
  go_wp2
  clear hmk hcp
  have hbk := setRow_heap (w.alloc (.cells (madeCells #[.int .u8 0] m) 5)) w.heap.size _ ((xorRow a b m 0).map (Value.int .u8)).toArray 5 (0, 0) (heap_alloc_new w _)
  have hbl : Below w.heap.size w ((w.alloc (.cells (madeCells #[.int .u8 0] m) 5)).setRow w.heap.size ((xorRow a b m 0).map (Value.int .u8)).toArray) := below_setRow ((Below.refl _ _).alloc (Nat.le_refl _) _) (Nat.le_refl _) _
  have HK := Aside0.mk hbk
  have HL := Aside0.mk hbl
  clear hbk hbl hmin hmin2
  go_loopw [18] (fun i wr => ∃ k : Nat, k ≤ m ∧ i = .int .i64 k ∧ Aside0 (wr.heap[w.heap.size]? = some (.cells ((xorRow a b m k).map (Value.int .u8)).toArray 5 (0, 0))) ∧ Aside0 (Below w.heap.size w wr)) (fun i _ => m - (intOf i).toNat)
  case atStart => exact ⟨0, Nat.zero_le _, rfl, HK, HL⟩
  case round =>
    clear HK HL
    obtain ⟨k, hk, rfl, HK, HB⟩ := hrel
    by_cases hlt : k < m
    · have hc : wr.cell? ⟨w.heap.size, k, none⟩ = some (.int .u8 (bt a k)) := (blk_cell HK.out k).trans (xorRow_get a b m k hlt)
      have hf : wr.frozen? ⟨w.heap.size, k, none⟩ = false := blk_frozen HK.out k
      have hbi : k < b.size := by omega
      go_wp2
      go_region
      go_wp2
      have hbt : ((b[k]'hbi).toNat : Int) = bt b k := bt_at b (k : Int) (by simpa using hbi)
      rw [hbt]
      have hs : ((wr.setCell ⟨w.heap.size, k, none⟩ (.int .u8 (Go.bits .xor .u8 (bt a k) (bt b k)))).drew).heap[w.heap.size]? = some (.cells ((xorRow a b m (k + 1)).map (Value.int .u8)).toArray 5 (0, 0)) := by
        rw [← xorRow_set a b m k]
        exact blk_set HK.out k _
      exact ⟨⟨k + 1, hlt, by go_num, ⟨hs⟩, ⟨below_drew1 (below_set HB.out (Nat.le_refl _))⟩⟩, by simp [intOf]; omega⟩
    · obtain rfl : k = m := by omega
      have hcv := run_convert_bytes_arg (P := Try.prog) wr 66 5 Try.underlying66 Try.underlying5 w.heap.size 0 k k (xorRow a b k k) (xorRow_length a b k k) (fun i hi => by
        rw [Nat.zero_add, blk_cell HK.out i]
        simp [List.getD_eq_getElem?_getD, List.getElem?_eq_getElem (show i < (xorRow a b k k).length by rw [xorRow_length]; exact hi)]) 9 Try.underlying9
      go_wp2
      go_ret
      exact ⟨rfl, HB.out⟩
theorem octets_Xor.calls (a b : ByteArray) (r : ByteArray) (w : World) (h : octets_Xor.f a b = some r) :
    Calls Try.prog 170 #[.string a, .string b] w fun e w' => e = .returned (.string r) ∧ Below w.heap.size w w' := by
  unfold octets_Xor.f at h
  split at h
  case isFalse => cases h
  case isTrue hm =>
  obtain rfl := Option.some.inj h
  exact octets_Xor.loop a b (min a.size b.size) w hm (by omega) (by omega) (by split <;> omega) (by split <;> omega)
end Go.Proofs.Ytokkhnjedmlbhaa.Pr
end
section
namespace Go.Proofs.Ytokkhnjedmlbhaa.M
open Go.RowKit Go.Proofs.Ytokkhnjedmlbhaa.Pr Go.Proofs.YtokkhnjedmlbhaaW.PrintWords Go.Proofs.YtokkhnjedmlbhaaW.PrintLast Go.Proofs.YtokkhnjedmlbhaaW.PrintMore Go.Proofs.YtokkhnjedmlbhaaGf
set_option linter.unusedSimpArgs false
theorem xor_c (a b : ByteArray) (h : min a.size b.size ≤ 281474976710656) : octets_Xor.f a b = some (xorT a b) := by
  unfold octets_Xor.f
  rw [if_pos h]
  unfold xorT
  rw [← strOfNums_cast, List.map_map]
  congr 2
  unfold xorRow
  apply List.map_congr_left
  intro i hi
  have := List.mem_range.1 hi
  rw [if_pos this, bt_bb, bt_bb, bx (bb_lt a i) (bb_lt b i)]
  rfl
end Go.Proofs.Ytokkhnjedmlbhaa.M
end
section
namespace Go.Proofs.Ytokkhnjedmlbhaa.Pr
open Go.RowKit Go.Proofs.YtokkhnjedmlbhaaW.PrintWords Go.Proofs.YtokkhnjedmlbhaaW.PrintLast Go.Proofs.YtokkhnjedmlbhaaW.PrintMore Go.Proofs.YtokkhnjedmlbhaaHw Go.Proofs.YtokkhnjedmlbhaaGf
/-- A row of bytes, made behind w0, that holds t. -/
def OB (w0 W : World) (v : Value) (t : ByteArray) : Prop := W.ownsRow w0.heap.size 5 1 v (bytesOf t).length (nums .u8 (bytesOf t))
theorem bytesOf_app (a b : ByteArray) : bytesOf (a ++ b) = bytesOf a ++ bytesOf b := by rw [M.bytesOf_nb, M.bytesOf_nb, M.bytesOf_nb, M.nb_append, List.map_append]
theorem OB.below {w0 w w1 : World} {v : Value} {t : ByteArray} (h : OB w0 w v t) (hb : Below w.heap.size w w1) : OB w0 w1 v t := own_move h (fun q hq => hb.block q (World.ownsRow.lt h q hq).2)
theorem OB.drewN {w0 w : World} {v : Value} {t : ByteArray} (h : OB w0 w v t) (n : Nat) : OB w0 (w.drewN n) v t := own_move h (fun _ _ => rfl)
theorem info8 : (Try.prog.info? 5).map (fun i => (i.zero, i.size, i.bytes)) = some (some (.int .u8 0), 1, 1) := by kernel_rfl
/-- A row of texts at its value: nothing is said of an empty one's place. -/
def SR (W : World) (A : Option Addr) (ps : List ByteArray) : Prop := 0 < ps.length → ∃ g, A = some ⟨g, 0, none⟩ ∧ StrRow W g ps
theorem SR.of_R {w : World} {base : Nat} {ok : Nat → Prop} {v : Value} {ps : List ByteArray} (h : Kd.R Kd.string 9 w base ok v ps) : ∃ A c, v = .slice A ps.length c ∧ SR w A ps := by
  by_cases hn : 0 < ps.length
  · obtain ⟨g, cap, rfl, _, hS⟩ := StrRow.of_R h hn
    exact ⟨_, _, rfl, fun _ => ⟨g, rfl, hS⟩⟩
  · obtain ⟨A, c, rfl⟩ := Kd.R_slice h
    exact ⟨A, c, rfl, fun h2 => absurd h2 hn⟩
theorem SR.below {w w1 : World} {A : Option Addr} {ps : List ByteArray} (h : SR w A ps) (hb : Below w.heap.size w w1) : SR w1 A ps := fun hn => by
  obtain ⟨g, e, hS⟩ := h hn
  exact ⟨g, e, hS.below hb⟩
section
variable {P : Program} {ops : Array Oper} {rest : List Oper} {o : Oper} {a : Act} {Q : Exit → Act → World → Prop}
theorem OB.append {w0 W : World} (hgd : o.guard = none) (s x : Operand) (ho : o.op = .call { callee := .builtin .append, args := #[s, x], argTypes := #[66, 9] })
    (v : Value) (t y : ByteArray) (hs : a.eval s = v) (hx : a.eval x = .string y) (HO : OB w0 W v t) (HB : Below w0.heap.size w0 W) (hl : t.size + y.size ≤ 140737488355328)
    (h : ∀ v1 w1, OB w0 w1 v1 (t ++ y) → Below w0.heap.size w0 w1 → W.grownBy w1 v.ownBlock → wpList Try.prog ops Q rest (a.put o.dst v1) w1) : wpList Try.prog ops Q (o :: rest) a W := by
  refine print_append_str (w0 := w0) w0.heap.size hgd s x 66 9 5 ho Try.underlying66 Try.underlying9 info8 v (bytesOf t) y hs hx HO HB HB.size (by rw [bytesOf_length]; exact hl) ?_
  intro v1 w1 h1 h2 h3
  refine h v1 w1 ?_ h2 h3
  unfold OB
  rw [bytesOf_app]
  exact h1
end
end Go.Proofs.Ytokkhnjedmlbhaa.Pr
end
section
namespace Go.Proofs.Ytokkhnjedmlbhaa.Pr
open Go.RowKit Go.Proofs.YtokkhnjedmlbhaaW.PrintWords Go.Proofs.YtokkhnjedmlbhaaW.PrintLast Go.Proofs.YtokkhnjedmlbhaaW.PrintMore
attribute [local go_sem] max2_int min2_int max_two min_two max_three min_three max_four min_four   -- for this text's walks alone
set_option linter.unusedVariables false
set_option linter.unusedSimpArgs false

def clavigerref09_forward.l0 : Nat → List ByteArray → ByteArray → Int → Option (ByteArray)
 | 0, _, _, _ => none
 | k + 1, x0, x1, x5 => if x5 < (x0.length : Int) then (if 0 ≤ x5 then ((clavigerref07_Do.f k x1 (rdOf ByteArray.empty x0 x5) (x5 == (wrap64 ((x0.length : Int) - 1)))).bind fun t1 => (clavigerref09_forward.l0 k x0 t1 (wrap64 (x5 + 1)))) else (none)) else (some x1)
def clavigerref09_forward.f (k : Nat) (l0 : List ByteArray) (a1 : ByteArray) : Option (ByteArray) := if 0 < (l0.length : Int) then ((clavigerref07_Key.f k a1 (rdOf ByteArray.empty l0 0)).bind fun t2 => (clavigerref09_forward.l0 k l0 t2 1)) else (none)
theorem clavigerref09_forward.mono_l : ∀ k, (∀ y3 y4 y5, LeO (clavigerref09_forward.l0 k y3 y4 y5) (clavigerref09_forward.l0 (k + 1) y3 y4 y5))
 | 0 => fun _ _ _ r h => by simp [clavigerref09_forward.l0] at h
 | k + 1 => by
  have ih0 := clavigerref09_forward.mono_l k
  ·intro y3 y4 y5
   unfold clavigerref09_forward.l0
   repeat' first
   | (with_reducible exact ih0 _ _ _)
   | (with_reducible exact clavigerref07_Do.mono _ _ _ _)
   | (with_reducible exact clavigerref07_Key.mono _ _ _)
   | (with_reducible exact LeO.refl _)
   | (with_reducible exact LeO.none _)
   | (with_reducible refine LeO.ite ?_ ?_)
   | (with_reducible refine LeO.bind ?_ (fun _ => ?_))
theorem clavigerref09_forward.mono : ∀ a0 a1 k, LeO (clavigerref09_forward.f k a0 a1) (clavigerref09_forward.f (k + 1) a0 a1) := by
 intro a0 a1 k
 have ih0 := clavigerref09_forward.mono_l k
 unfold clavigerref09_forward.f
 repeat' first
   | (with_reducible exact ih0 _ _ _)
   | (with_reducible exact clavigerref07_Do.mono _ _ _ _)
   | (with_reducible exact clavigerref07_Key.mono _ _ _)
   | (with_reducible exact LeO.refl _)
   | (with_reducible exact LeO.none _)
   | (with_reducible refine LeO.ite ?_ ?_)
   | (with_reducible refine LeO.bind ?_ (fun _ => ?_))
def clavigerref09_Encrypt.f (k : Nat) (a0 : ByteArray) (a1 : ByteArray) : Option (ByteArray × Int) := (clavigerref08_Keys.f k a0).bind fun bt1 => (if bt1.2 = 0 then (if (a1.size : Int) = 16 then ((clavigerref09_forward.f k bt1.1 a1).bind fun t2 => (some (t2, 0))) else (some ((⟨#[]⟩ : ByteArray), 4))) else (some ((⟨#[]⟩ : ByteArray), bt1.2)))
theorem clavigerref09_Encrypt.mono : ∀ a0 a1 k, LeO (clavigerref09_Encrypt.f k a0 a1) (clavigerref09_Encrypt.f (k + 1) a0 a1) := by
 intro a0 a1 k
 unfold clavigerref09_Encrypt.f
 repeat' first
   | (with_reducible exact clavigerref08_Keys.mono _ _)
   | (with_reducible exact clavigerref09_forward.mono _ _ _)
   | (with_reducible exact LeO.refl _)
   | (with_reducible exact LeO.none _)
   | (with_reducible refine LeO.ite ?_ ?_)
   | (with_reducible refine LeO.bind ?_ (fun _ => ?_))
def clavigerref09_backward.l0 : Nat → List ByteArray → ByteArray → Int → Option (ByteArray)
 | 0, _, _, _ => none
 | k + 1, x0, x1, x5 => if x5 > 0 then (if 0 ≤ x5 then (if x5 < (x0.length : Int) then ((clavigerref07_Undo.f k x1 (rdOf ByteArray.empty x0 x5) (x5 == (wrap64 ((x0.length : Int) - 1)))).bind fun t1 => (clavigerref09_backward.l0 k x0 t1 (wrap64 (x5 - 1)))) else (none)) else (none)) else (if 0 < (x0.length : Int) then ((clavigerref07_Key.f k x1 (rdOf ByteArray.empty x0 0)).bind fun t2 => (some t2)) else (none))
def clavigerref09_backward.f (k : Nat) (l0 : List ByteArray) (a1 : ByteArray) : Option (ByteArray) := clavigerref09_backward.l0 k l0 a1 (wrap64 ((l0.length : Int) - 1))
theorem clavigerref09_backward.mono_l : ∀ k, (∀ y3 y4 y5, LeO (clavigerref09_backward.l0 k y3 y4 y5) (clavigerref09_backward.l0 (k + 1) y3 y4 y5))
 | 0 => fun _ _ _ r h => by simp [clavigerref09_backward.l0] at h
 | k + 1 => by
  have ih0 := clavigerref09_backward.mono_l k
  ·intro y3 y4 y5
   unfold clavigerref09_backward.l0
   repeat' first
   | (with_reducible exact ih0 _ _ _)
   | (with_reducible exact clavigerref07_Key.mono _ _ _)
   | (with_reducible exact clavigerref07_Undo.mono _ _ _ _)
   | (with_reducible exact LeO.refl _)
   | (with_reducible exact LeO.none _)
   | (with_reducible refine LeO.ite ?_ ?_)
   | (with_reducible refine LeO.bind ?_ (fun _ => ?_))
theorem clavigerref09_backward.mono : ∀ a0 a1 k, LeO (clavigerref09_backward.f k a0 a1) (clavigerref09_backward.f (k + 1) a0 a1) := by
 intro a0 a1 k
 have ih0 := clavigerref09_backward.mono_l k
 unfold clavigerref09_backward.f
 repeat' first
   | (with_reducible exact ih0 _ _ _)
   | (with_reducible exact clavigerref07_Key.mono _ _ _)
   | (with_reducible exact clavigerref07_Undo.mono _ _ _ _)
   | (with_reducible exact LeO.refl _)
   | (with_reducible exact LeO.none _)
   | (with_reducible refine LeO.ite ?_ ?_)
   | (with_reducible refine LeO.bind ?_ (fun _ => ?_))
def clavigerref09_Many.l0 : Nat → ByteArray → Bool → List ByteArray → ByteArray → Int → Option (ByteArray × Int)
 | 0, _, _, _, _, _ => none
 | k + 1, x1, x2, x8, x10, x11 => if x11 < (x1.size : Int) then (if x2 = true then (if 0 ≤ x11 then (if x11 ≤ (wrap64 (x11 + 16)) then (if (wrap64 (x11 + 16)) ≤ (x1.size : Int) then ((clavigerref09_backward.f k x8 (x1.extract (x11 : Int).toNat ((wrap64 (x11 + 16)) : Int).toNat)).bind fun t1 => (if x10.size + t1.size ≤ 9223372036854775807 then (clavigerref09_Many.l0 k x1 x2 x8 (x10 ++ t1) (wrap64 (x11 + 16))) else (none))) else (none)) else (none)) else (none)) else (if 0 ≤ x11 then (if x11 ≤ (wrap64 (x11 + 16)) then (if (wrap64 (x11 + 16)) ≤ (x1.size : Int) then ((clavigerref09_forward.f k x8 (x1.extract (x11 : Int).toNat ((wrap64 (x11 + 16)) : Int).toNat)).bind fun t2 => (if x10.size + t2.size ≤ 9223372036854775807 then (clavigerref09_Many.l0 k x1 x2 x8 (x10 ++ t2) (wrap64 (x11 + 16))) else (none))) else (none)) else (none)) else (none))) else (some (x10, 0))
def clavigerref09_Many.f (k : Nat) (a0 : ByteArray) (a1 : ByteArray) (a2 : Bool) : Option (ByteArray × Int) := (clavigerref08_Keys.f k a0).bind fun bt3 => (if bt3.2 = 0 then (if ((a1.size : Int) % 16) = 0 then (clavigerref09_Many.l0 k a1 a2 bt3.1 (⟨#[]⟩ : ByteArray) 0) else (some ((⟨#[]⟩ : ByteArray), 4))) else (some ((⟨#[]⟩ : ByteArray), bt3.2)))
theorem clavigerref09_Many.mono_l : ∀ k, (∀ y4 y5 y6 y7 y8, LeO (clavigerref09_Many.l0 k y4 y5 y6 y7 y8) (clavigerref09_Many.l0 (k + 1) y4 y5 y6 y7 y8))
 | 0 => fun _ _ _ _ _ r h => by simp [clavigerref09_Many.l0] at h
 | k + 1 => by
  have ih0 := clavigerref09_Many.mono_l k
  ·intro y4 y5 y6 y7 y8
   unfold clavigerref09_Many.l0
   repeat' first
   | (with_reducible exact ih0 _ _ _ _ _)
   | (with_reducible exact clavigerref08_Keys.mono _ _)
   | (with_reducible exact clavigerref09_backward.mono _ _ _)
   | (with_reducible exact clavigerref09_forward.mono _ _ _)
   | (with_reducible exact LeO.refl _)
   | (with_reducible exact LeO.none _)
   | (with_reducible refine LeO.ite ?_ ?_)
   | (with_reducible refine LeO.bind ?_ (fun _ => ?_))
theorem clavigerref09_Many.mono : ∀ a0 a1 a2 k, LeO (clavigerref09_Many.f k a0 a1 a2) (clavigerref09_Many.f (k + 1) a0 a1 a2) := by
 intro a0 a1 a2 k
 have ih0 := clavigerref09_Many.mono_l k
 unfold clavigerref09_Many.f
 repeat' first
   | (with_reducible exact ih0 _ _ _ _ _)
   | (with_reducible exact clavigerref08_Keys.mono _ _)
   | (with_reducible exact clavigerref09_backward.mono _ _ _)
   | (with_reducible exact clavigerref09_forward.mono _ _ _)
   | (with_reducible exact LeO.refl _)
   | (with_reducible exact LeO.none _)
   | (with_reducible refine LeO.ite ?_ ?_)
   | (with_reducible refine LeO.bind ?_ (fun _ => ?_))
def clavigerref09_Decrypt.f (k : Nat) (a0 : ByteArray) (a1 : ByteArray) : Option (ByteArray × Int) := (clavigerref08_Keys.f k a0).bind fun bt1 => (if bt1.2 = 0 then (if (a1.size : Int) = 16 then ((clavigerref09_backward.f k bt1.1 a1).bind fun t2 => (some (t2, 0))) else (some ((⟨#[]⟩ : ByteArray), 4))) else (some ((⟨#[]⟩ : ByteArray), bt1.2)))
theorem clavigerref09_Decrypt.mono : ∀ a0 a1 k, LeO (clavigerref09_Decrypt.f k a0 a1) (clavigerref09_Decrypt.f (k + 1) a0 a1) := by
 intro a0 a1 k
 unfold clavigerref09_Decrypt.f
 repeat' first
   | (with_reducible exact clavigerref08_Keys.mono _ _)
   | (with_reducible exact clavigerref09_backward.mono _ _ _)
   | (with_reducible exact LeO.refl _)
   | (with_reducible exact LeO.none _)
   | (with_reducible refine LeO.ite ?_ ?_)
   | (with_reducible refine LeO.bind ?_ (fun _ => ?_))
end Go.Proofs.Ytokkhnjedmlbhaa.Pr
end
section
namespace Go.Proofs.Ytokkhnjedmlbhaa.Pr
open Go.RowKit Go.Proofs.YtokkhnjedmlbhaaW.PrintWords Go.Proofs.YtokkhnjedmlbhaaW.PrintLast Go.Proofs.YtokkhnjedmlbhaaW.PrintMore
attribute [local go_sem] max2_int min2_int max_two min_two max_three min_three max_four min_four   -- for this text's walks alone
set_option linter.unusedVariables false
set_option linter.unusedSimpArgs false

def clavigerref11_Subkeys.f (k : Nat) (a0 : ByteArray) : Option (ByteArray × ByteArray × Int) := (clavigerref01_Zeros.f 16).bind fun t1 => ((clavigerref09_Encrypt.f k a0 t1).bind fun bt2 => (if bt2.2 = 0 then ((clavigerref11_Double.f bt2.1).bind fun t3 => ((clavigerref11_Double.f bt2.1).bind fun t4 => ((clavigerref11_Double.f t4).bind fun t5 => (some (t3, t5, 0))))) else (some ((⟨#[]⟩ : ByteArray), (⟨#[]⟩ : ByteArray), bt2.2))))
theorem clavigerref11_Subkeys.mono : ∀ a0 k, LeO (clavigerref11_Subkeys.f k a0) (clavigerref11_Subkeys.f (k + 1) a0) := by
 intro a0 k
 unfold clavigerref11_Subkeys.f
 repeat' first
   | (with_reducible exact clavigerref09_Encrypt.mono _ _ _)
   | (with_reducible exact LeO.refl _)
   | (with_reducible exact LeO.none _)
   | (with_reducible refine LeO.ite ?_ ?_)
   | (with_reducible refine LeO.bind ?_ (fun _ => ?_))
def clavigerref11_Tag.l0 : Nat → ByteArray → ByteArray → ByteArray → ByteArray → ByteArray → Option (ByteArray × Int)
 | 0, _, _, _, _, _ => none
 | k + 1, x0, x1, x6, x7, x9 => if (x1.size : Int) > 16 then (if 0 ≤ 16 then (if 16 ≤ (x1.size : Int) then ((clavigerref01_Xor.f k x9 (x1.extract 0 16)).bind fun t1 => ((clavigerref09_Encrypt.f k x0 t1).bind fun bt2 => (clavigerref11_Tag.l0 k x0 (x1.extract 16 x1.size) x6 x7 bt2.1))) else (none)) else (none)) else (if (x1.size : Int) = 16 then ((clavigerref01_Xor.f k x1 x6).bind fun t3 => ((clavigerref01_Xor.f k x9 t3).bind fun t4 => ((clavigerref09_Encrypt.f k x0 t4).bind fun bt5 => (some (bt5.1, 0))))) else (if x1.size + 1 ≤ 9223372036854775807 then ((clavigerref01_Pad.f k (x1 ++ (⟨#[128]⟩ : ByteArray)) 16).bind fun t6 => ((clavigerref01_Xor.f k t6 x7).bind fun t7 => ((clavigerref01_Xor.f k x9 t7).bind fun t8 => ((clavigerref09_Encrypt.f k x0 t8).bind fun bt9 => (some (bt9.1, 0)))))) else (none)))
def clavigerref11_Tag.f (k : Nat) (a0 : ByteArray) (a1 : ByteArray) : Option (ByteArray × Int) := (clavigerref11_Subkeys.f k a0).bind fun bt10 => (if bt10.2.2 = 0 then ((clavigerref01_Zeros.f 16).bind fun t11 => (clavigerref11_Tag.l0 k a0 a1 bt10.1 bt10.2.1 t11)) else (some ((⟨#[]⟩ : ByteArray), bt10.2.2)))
theorem clavigerref11_Tag.mono_l : ∀ k, (∀ y12 y13 y14 y15 y16, LeO (clavigerref11_Tag.l0 k y12 y13 y14 y15 y16) (clavigerref11_Tag.l0 (k + 1) y12 y13 y14 y15 y16))
 | 0 => fun _ _ _ _ _ r h => by simp [clavigerref11_Tag.l0] at h
 | k + 1 => by
  have ih0 := clavigerref11_Tag.mono_l k
  ·intro y12 y13 y14 y15 y16
   unfold clavigerref11_Tag.l0
   repeat' first
   | (with_reducible exact ih0 _ _ _ _ _)
   | (with_reducible exact clavigerref01_Pad.mono _ _ _)
   | (with_reducible exact clavigerref01_Xor.mono _ _ _)
   | (with_reducible exact clavigerref09_Encrypt.mono _ _ _)
   | (with_reducible exact clavigerref11_Subkeys.mono _ _)
   | (with_reducible exact LeO.refl _)
   | (with_reducible exact LeO.none _)
   | (with_reducible refine LeO.ite ?_ ?_)
   | (with_reducible refine LeO.bind ?_ (fun _ => ?_))
theorem clavigerref11_Tag.mono : ∀ a0 a1 k, LeO (clavigerref11_Tag.f k a0 a1) (clavigerref11_Tag.f (k + 1) a0 a1) := by
 intro a0 a1 k
 have ih0 := clavigerref11_Tag.mono_l k
 unfold clavigerref11_Tag.f
 repeat' first
   | (with_reducible exact ih0 _ _ _ _ _)
   | (with_reducible exact clavigerref01_Pad.mono _ _ _)
   | (with_reducible exact clavigerref01_Xor.mono _ _ _)
   | (with_reducible exact clavigerref09_Encrypt.mono _ _ _)
   | (with_reducible exact clavigerref11_Subkeys.mono _ _)
   | (with_reducible exact LeO.refl _)
   | (with_reducible exact LeO.none _)
   | (with_reducible refine LeO.ite ?_ ?_)
   | (with_reducible refine LeO.bind ?_ (fun _ => ?_))
def cmac_Double.f (k : Nat) (a0 : ByteArray) : Option (ByteArray) := if (a0.size : Int) = 16 then (if 0 ≤ 8 then (if 8 ≤ (a0.size : Int) then ((octets_Get.f k (a0.extract 0 8)).bind fun bt1 => ((octets_Get.f k (a0.extract 8 a0.size)).bind fun bt2 => ((octets_Put.f (Go.bits .or .u64 (IntKind.u64.wrap (bt1.1 * 2)) (bt2.1 / 9223372036854775808)) 8).bind fun t3 => ((octets_Put.f (Go.bits .xor .u64 (IntKind.u64.wrap (bt2.1 * 2)) (IntKind.u64.wrap ((bt1.1 / 9223372036854775808) * 135))) 8).bind fun t4 => (if t3.size + t4.size ≤ 9223372036854775807 then (some (t3 ++ t4)) else (none)))))) else (none)) else (none)) else (some (⟨#[]⟩ : ByteArray))
theorem cmac_Double.mono : ∀ a0 k, LeO (cmac_Double.f k a0) (cmac_Double.f (k + 1) a0) := by
 intro a0 k
 unfold cmac_Double.f
 repeat' first
   | (with_reducible exact octets_Get.mono _ _)
   | (with_reducible exact LeO.refl _)
   | (with_reducible exact LeO.none _)
   | (with_reducible refine LeO.ite ?_ ?_)
   | (with_reducible refine LeO.bind ?_ (fun _ => ?_))
set_option maxHeartbeats 8000000 in
set_option maxRecDepth 100000 in
theorem cmac_Double.calls (k : Nat) (a0 : ByteArray) (r : ByteArray) (w : World) (h : cmac_Double.f k a0 = some r) :
  Calls Try.prog 108 #[.string a0] w fun e w' => e = .returned (.string r) ∧ Below w.heap.size w w' := by
 have HB := Aside0.mk (Below.refl w.heap.size w)
 have H : (if (a0.size : Int) = 16 then (if 0 ≤ 8 then (if 8 ≤ (a0.size : Int) then ((octets_Get.f k (a0.extract 0 8)).bind fun bt1 => ((octets_Get.f k (a0.extract 8 a0.size)).bind fun bt2 => ((octets_Put.f (Go.bits .or .u64 (IntKind.u64.wrap (bt1.1 * 2)) (bt2.1 / 9223372036854775808)) 8).bind fun t3 => ((octets_Put.f (Go.bits .xor .u64 (IntKind.u64.wrap (bt2.1 * 2)) (IntKind.u64.wrap ((bt1.1 / 9223372036854775808) * 135))) 8).bind fun t4 => (if t3.size + t4.size ≤ 9223372036854775807 then (some (t3 ++ t4)) else (none)))))) else (none)) else (none)) else (some (⟨#[]⟩ : ByteArray))) = some r := h
 clear h
 by_cases c2 : (a0.size : Int) = 16
 ·rw [if_pos c2] at H
  have c2b0 : ((a0.size : Int) == 16) = true := beq_iff_eq.mpr c2
  have c2b1 : ((a0.size : Int) != 16) = false := bne_eq_false_iff_eq.mpr c2
  clear c2
  by_cases c3 : 0 ≤ 8
  ·rw [if_pos c3] at H
   have c3b0 := eq_true c3
   have c3b1 : decide (0 ≤ 8) = true := decide_eq_true c3
   clear c3
   by_cases c4 : 8 ≤ (a0.size : Int)
   ·rw [if_pos c4] at H
    have c4b0 := eq_true c4
    have c4b1 : decide (8 ≤ (a0.size : Int)) = true := decide_eq_true c4
    clear c4
    replace H := Option.bind_eq_some_iff.mp H
    obtain ⟨⟨t1, t5⟩, A50, H⟩ := H
    try dsimp only at H
    have A5 := Aside0.mk A50
    clear A50
    have c6b0 := eq_true (of_decide_eq_true (by assumption) : 8 ≤ (a0.size : Int))
    replace H := Option.bind_eq_some_iff.mp H
    obtain ⟨⟨t2, t6⟩, A70, H⟩ := H
    try dsimp only at H
    have A7 := Aside0.mk A70
    clear A70
    replace H := Option.bind_eq_some_iff.mp H
    obtain ⟨t3, A80, H⟩ := H
    try dsimp only at H
    have A8 := Aside0.mk A80
    clear A80
    replace H := Option.bind_eq_some_iff.mp H
    obtain ⟨t4, A90, H⟩ := H
    try dsimp only at H
    have A9 := Aside0.mk A90
    clear A90
    by_cases c10 : t3.size + t4.size ≤ 9223372036854775807
    ·rw [if_pos c10] at H
     have c10b0 := eq_true c10
     have c10b1 : decide (t3.size + t4.size ≤ 9223372036854775807) = true := decide_eq_true c10
     try have c10b2 : (9223372036854775807 < t3.size + t4.size) = False := eq_false (Nat.not_lt.2 c10)
     obtain rfl := Option.some.inj H
     go_enter Try.func108, Try.ntmps108
     go_wp2_with (first | ((with_reducible refine gate_callee (f := 195) rfl ?_); refine goesL_ (some 14) rfl rfl Try.func195 (by kernel_rfl) rfl #[.string (a0.extract 0 8)] rfl (by (try simp only [lT, lC, lN]); first | done | rfl | (simp only [List.length_drop, List.length_take]; rfl) | (simp only [ByteArray.size_extract, Nat.min_self, Nat.sub_zero, ByteArray.size_append]; first | done | rfl)) ?_; (with_reducible refine (octets_Get.calls k (a0.extract 0 8) t1 t5 _ A5.out).mono ?_); rintro e w' ⟨rfl, ⟨nd, rfl⟩⟩; refine ⟨_, rfl, ?_⟩) | ((with_reducible refine gate_callee (f := 195) rfl ?_); refine goesL_ (some 20) rfl rfl Try.func195 (by kernel_rfl) rfl #[.string (a0.extract 8 a0.size)] rfl (by (try simp only [lT, lC, lN]); first | done | rfl | (simp only [List.length_drop, List.length_take]; rfl) | (simp only [ByteArray.size_extract, Nat.min_self, Nat.sub_zero, ByteArray.size_append]; first | done | rfl)) ?_; (with_reducible refine (octets_Get.calls k (a0.extract 8 a0.size) t2 t6 _ A7.out).mono ?_); rintro e w' ⟨rfl, ⟨nd, rfl⟩⟩; refine ⟨_, rfl, ?_⟩) | ((with_reducible refine gate_callee (f := 189) rfl ?_); refine goesL_ (some 36) rfl rfl Try.func189 (by kernel_rfl) rfl #[.int .u64 (Go.bits .or .u64 (IntKind.u64.wrap (t1 * 2)) (t2 / 9223372036854775808)), .int .i64 8] rfl (by (try simp only [lT, lC, lN]); first | done | rfl) ?_; (with_reducible refine (octets_Put.calls (Go.bits .or .u64 (IntKind.u64.wrap (t1 * 2)) (t2 / 9223372036854775808)) 8 t3 _ A8.out).mono ?_); rintro e w11 ⟨rfl, hb⟩; refine ⟨_, rfl, ?_⟩; have n0_ := Aside0.mk (below_step (by repeat first | with_reducible (first | exact HB.out | apply bA | apply bN | apply bD) | exact HB.out) hb); clear HB; have HB := n0_; clear n0_; (try clear hb); (try clear hb2); (try clear hk); (try clear hi)) | ((with_reducible refine gate_callee (f := 189) rfl ?_); refine goesL_ (some 38) rfl rfl Try.func189 (by kernel_rfl) rfl #[.int .u64 (Go.bits .xor .u64 (IntKind.u64.wrap (t2 * 2)) (IntKind.u64.wrap ((t1 / 9223372036854775808) * 135))), .int .i64 8] rfl (by (try simp only [lT, lC, lN]); first | done | rfl) ?_; (with_reducible refine (octets_Put.calls (Go.bits .xor .u64 (IntKind.u64.wrap (t2 * 2)) (IntKind.u64.wrap ((t1 / 9223372036854775808) * 135))) 8 t4 _ A9.out).mono ?_); rintro e w12 ⟨rfl, hb⟩; refine ⟨_, rfl, ?_⟩; have n0_ := Aside0.mk (below_step (by repeat first | with_reducible (first | exact HB.out | apply bA | apply bN | apply bD) | exact HB.out) hb); clear HB; have HB := n0_; clear n0_; (try clear hb); (try clear hb2); (try clear hk); (try clear hi)))
     go_ret
     exact ⟨by first | rfl | (simp [*, errW_none, errW_some] <;> rfl), by repeat first | with_reducible (first | exact HB.out | apply bA | apply bN | apply bD) | exact HB.out⟩
    ·rw [if_neg c10] at H
     exact absurd H (by simp)
   ·rw [if_neg c4] at H
    exact absurd H (by simp)
  ·rw [if_neg c3] at H
   exact absurd H (by simp)
 ·rw [if_neg c2] at H
  have c2b0 : ((a0.size : Int) == 16) = false := beq_eq_false_iff_ne.mpr c2
  have c2b1 : ((a0.size : Int) != 16) = true := bne_iff_ne.mpr c2
  obtain rfl := Option.some.inj H
  go_enter Try.func108, Try.ntmps108
  go_wp2
  go_ret
  exact ⟨by first | rfl | (simp [*, errW_none, errW_some] <;> rfl), by repeat first | with_reducible (first | exact HB.out | apply bA | apply bN | apply bD) | exact HB.out⟩

def cmac_last.f (a0 : ByteArray) (a1 : ByteArray) (a2 : ByteArray) : Option (ByteArray) := if (a0.size : Int) = 16 then ((octets_Xor.f a0 a1).bind fun t1 => (some t1)) else (if a0.size + 1 ≤ 9223372036854775807 then ((octets_Pad.f (a0 ++ (⟨#[128]⟩ : ByteArray)) 16).bind fun t2 => ((octets_Xor.f t2 a2).bind fun t3 => (some t3))) else (none))
set_option maxHeartbeats 8000000 in
set_option maxRecDepth 100000 in
theorem cmac_last.calls (a0 : ByteArray) (a1 : ByteArray) (a2 : ByteArray) (r : ByteArray) (w : World) (h : cmac_last.f a0 a1 a2 = some r) :
  Calls Try.prog 197 #[.string a0, .string a1, .string a2] w fun e w' => e = .returned (.string r) ∧ Below w.heap.size w w' := by
 have HB := Aside0.mk (Below.refl w.heap.size w)
 have H : (if (a0.size : Int) = 16 then ((octets_Xor.f a0 a1).bind fun t1 => (some t1)) else (if a0.size + 1 ≤ 9223372036854775807 then ((octets_Pad.f (a0 ++ (⟨#[128]⟩ : ByteArray)) 16).bind fun t2 => ((octets_Xor.f t2 a2).bind fun t3 => (some t3))) else (none))) = some r := h
 clear h
 by_cases c4 : (a0.size : Int) = 16
 ·rw [if_pos c4] at H
  have c4b0 : ((a0.size : Int) == 16) = true := beq_iff_eq.mpr c4
  have c4b1 : ((a0.size : Int) != 16) = false := bne_eq_false_iff_eq.mpr c4
  clear c4
  replace H := Option.bind_eq_some_iff.mp H
  obtain ⟨t1, A50, H⟩ := H
  replace H : (some t1) = some r := H
  have A5 := Aside0.mk A50
  clear A50
  obtain rfl := Option.some.inj H
  go_enter Try.func197, Try.ntmps197
  go_wp2_with (first | ((with_reducible refine gate_callee (f := 170) rfl ?_); refine goesL_ (some 12) rfl rfl Try.func170 (by kernel_rfl) rfl #[.string a0, .string a1] rfl (by (try simp only [lT, lC, lN]); first | done | rfl) ?_; (with_reducible refine (octets_Xor.calls a0 a1 t1 _ A5.out).mono ?_); rintro e w6 ⟨rfl, hb⟩; refine ⟨_, rfl, ?_⟩; have n0_ := Aside0.mk (below_step (by repeat first | with_reducible (first | exact HB.out | apply bA | apply bN | apply bD) | exact HB.out) hb); clear HB; have HB := n0_; clear n0_; (try clear hb); (try clear hb2); (try clear hk); (try clear hi)))
  go_ret
  exact ⟨by first | rfl | (simp [*, errW_none, errW_some] <;> rfl), by repeat first | with_reducible (first | exact HB.out | apply bA | apply bN | apply bD) | exact HB.out⟩
 ·rw [if_neg c4] at H
  have c4b0 : ((a0.size : Int) == 16) = false := beq_eq_false_iff_ne.mpr c4
  have c4b1 : ((a0.size : Int) != 16) = true := bne_iff_ne.mpr c4
  by_cases c7 : a0.size + 1 ≤ 9223372036854775807
  ·rw [if_pos c7] at H
   have c7b0 := eq_true c7
   have c7b1 : decide (a0.size + 1 ≤ 9223372036854775807) = true := decide_eq_true c7
   try have c7b2 : (9223372036854775807 < a0.size + 1) = False := eq_false (Nat.not_lt.2 c7)
   replace H := Option.bind_eq_some_iff.mp H
   obtain ⟨t2, A80, H⟩ := H
   try dsimp only at H
   have A8 := Aside0.mk A80
   clear A80
   replace H := Option.bind_eq_some_iff.mp H
   obtain ⟨t3, A90, H⟩ := H
   replace H : (some t3) = some r := H
   have A9 := Aside0.mk A90
   clear A90
   obtain rfl := Option.some.inj H
   go_enter Try.func197, Try.ntmps197
   go_wp2_with (first | ((with_reducible refine gate_callee (f := 204) rfl ?_); refine goesL_ (some 15) rfl rfl Try.func204 (by kernel_rfl) rfl #[.string (a0 ++ (⟨#[128]⟩ : ByteArray)), .int .i64 16] rfl (by (try simp only [lT, lC, lN]); first | done | rfl) ?_; (with_reducible refine (octets_Pad.calls (a0 ++ (⟨#[128]⟩ : ByteArray)) 16 t2 _ A8.out).mono ?_); rintro e w10 ⟨rfl, hb⟩; refine ⟨_, rfl, ?_⟩; have n0_ := Aside0.mk (below_step (by repeat first | with_reducible (first | exact HB.out | apply bA | apply bN | apply bD) | exact HB.out) hb); clear HB; have HB := n0_; clear n0_; (try clear hb); (try clear hb2); (try clear hk); (try clear hi)) | ((with_reducible refine gate_callee (f := 170) rfl ?_); refine goesL_ (some 17) rfl rfl Try.func170 (by kernel_rfl) rfl #[.string t2, .string a2] rfl (by (try simp only [lT, lC, lN]); first | done | rfl) ?_; (with_reducible refine (octets_Xor.calls t2 a2 t3 _ A9.out).mono ?_); rintro e w11 ⟨rfl, hb⟩; refine ⟨_, rfl, ?_⟩; have n0_ := Aside0.mk (below_step (by repeat first | with_reducible (first | exact HB.out | apply bA | apply bN | apply bD) | exact HB.out) hb); clear HB; have HB := n0_; clear n0_; (try clear hb); (try clear hb2); (try clear hk); (try clear hi)))
   go_ret
   exact ⟨by first | rfl | (simp [*, errW_none, errW_some] <;> rfl), by repeat first | with_reducible (first | exact HB.out | apply bA | apply bN | apply bD) | exact HB.out⟩
  ·rw [if_neg c7] at H
   exact absurd H (by simp)

end Go.Proofs.Ytokkhnjedmlbhaa.Pr
end
