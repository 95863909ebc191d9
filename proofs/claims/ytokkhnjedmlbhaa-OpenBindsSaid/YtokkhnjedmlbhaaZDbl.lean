-- several texts in one (by the session's program shake.py)
import Derived.Test.YtokkhnjedmlbhaaZPrg01x
import Derived.Test.YtokkhnjedmlbhaaZKeysA
import Derived.Test.YtokkhnjedmlbhaaZSboxP
import Derived.Test.YtokkhnjedmlbhaaZPrg06
import Derived.Test.YtokkhnjedmlbhaaZPrg08
import Derived.Test.YtokkhnjedmlbhaaZRoundM
import Derived.Test.YtokkhnjedmlbhaaZXor
import Derived.Test.YtokkhnjedmlbhaaZPrg01
import Derived.Test.YtokkhnjedmlbhaaZPrg11
section
namespace Go.Proofs.Ytokkhnjedmlbhaa.Pr
open Go.RowKit Go.Proofs.YtokkhnjedmlbhaaW.PrintWords Go.Proofs.YtokkhnjedmlbhaaW.PrintLast Go.Proofs.YtokkhnjedmlbhaaW.PrintMore
attribute [local go_sem] max2_int min2_int max_two min_two max_three min_three max_four min_four   -- for this text's walks alone
set_option linter.unusedVariables false
set_option linter.unusedSimpArgs false

def slices_Equal_string_string.l0 : Nat → List ByteArray → List ByteArray → Int → Int → Option (Bool)
 | 0, _, _, _, _ => none
 | k + 1, x0, x1, x12, x13 => if x13 < x12 then (if 0 ≤ x13 then (if x13 < (x0.length : Int) then (if x13 < (x1.length : Int) then (if (rdOf ByteArray.empty x0 x13).toList = (rdOf ByteArray.empty x1 x13).toList then (slices_Equal_string_string.l0 k x0 x1 x12 (wrap64 (x13 + 1))) else (some false)) else (none)) else (none)) else (none)) else (some true)
def slices_Equal_string_string.f (k : Nat) (l0 : List ByteArray) (l1 : List ByteArray) : Option (Bool) := if (l0.length : Int) = (l1.length : Int) then (slices_Equal_string_string.l0 k l0 l1 (l0.length : Int) 0) else (some false)
theorem slices_Equal_string_string.mono_l : ∀ k, (∀ y1 y2 y3 y4, LeO (slices_Equal_string_string.l0 k y1 y2 y3 y4) (slices_Equal_string_string.l0 (k + 1) y1 y2 y3 y4))
 | 0 => fun _ _ _ _ r h => by simp [slices_Equal_string_string.l0] at h
 | k + 1 => by
  have ih0 := slices_Equal_string_string.mono_l k
  ·intro y1 y2 y3 y4
   unfold slices_Equal_string_string.l0
   repeat' first
   | (with_reducible exact ih0 _ _ _ _)
   | (with_reducible exact LeO.refl _)
   | (with_reducible exact LeO.none _)
   | (with_reducible refine LeO.ite ?_ ?_)
   | (with_reducible refine LeO.bind ?_ (fun _ => ?_))
theorem slices_Equal_string_string.mono : ∀ a0 a1 k, LeO (slices_Equal_string_string.f k a0 a1) (slices_Equal_string_string.f (k + 1) a0 a1) := by
 intro a0 a1 k
 have ih0 := slices_Equal_string_string.mono_l k
 unfold slices_Equal_string_string.f
 repeat' first
   | (with_reducible exact ih0 _ _ _ _)
   | (with_reducible exact LeO.refl _)
   | (with_reducible exact LeO.none _)
   | (with_reducible refine LeO.ite ?_ ?_)
   | (with_reducible refine LeO.bind ?_ (fun _ => ?_))
end Go.Proofs.Ytokkhnjedmlbhaa.Pr
end
section
namespace Go.Proofs.Ytokkhnjedmlbhaa.M
open Go.RowKit Go.Proofs.Ytokkhnjedmlbhaa.Pr Go.Proofs.YtokkhnjedmlbhaaW.PrintWords Go.Proofs.YtokkhnjedmlbhaaW.PrintLast Go.Proofs.YtokkhnjedmlbhaaW.PrintMore Go.Proofs.YtokkhnjedmlbhaaGf
set_option linter.unusedSimpArgs false
def rndI (n : Int) : Int := if n = 16 then 10 else if n = 24 then 12 else if n = 32 then 14 else 0
theorem rounds_i (n : Int) : sched_Rounds.f n = some (rndI n) := by
  unfold sched_Rounds.f rndI
  by_cases h1 : n = 16
  · subst h1; decide +kernel
  · rw [if_neg h1, if_neg h1]
    by_cases h2 : n = 24
    · subst h2; decide +kernel
    · rw [if_neg h2, if_neg h2]
      by_cases h3 : n = 32
      · subst h3; decide +kernel
      · rw [if_neg h3, if_neg h3]
theorem rrounds_i (n : Int) : clavigerref08_Rounds.f n = some (rndI n) := by
  unfold clavigerref08_Rounds.f rndI
  by_cases h1 : n = 16
  · subst h1; decide +kernel
  · rw [if_neg h1, if_neg h1]
    by_cases h2 : n = 24
    · subst h2; decide +kernel
    · rw [if_neg h2, if_neg h2]
      by_cases h3 : n = 32
      · subst h3; decide +kernel
      · rw [if_neg h3, if_neg h3]
theorem rnd_ok {key : ByteArray} (h : okN key.size) : rndI (key.size : Int) = ((key.size / 4 + 6 : Nat) : Int) := by
  unfold rndI
  rcases h with h | h | h <;> rw [h] <;> rfl
theorem rnd_no {key : ByteArray} (h : ¬ okN key.size) : rndI (key.size : Int) = 0 := by
  unfold okN at h
  unfold rndI
  rw [if_neg (by omega), if_neg (by omega), if_neg (by omega)]
theorem rdO (l : List ByteArray) (i : Nat) : rdOf ByteArray.empty l (i : Int) = l.getD i ByteArray.empty := rfl
theorem put4 {u : Nat} (_hu : u < 4294967296) : octets_Put.f (u : Int) 4 = some (wB u) := by
  unfold octets_Put.f
  rw [if_neg (by decide), if_neg (by decide)]
  rfl
theorem drop_cons {l : List Nat} {i : Nat} (h : i < l.length) : l.drop i = l.getD i 0 :: l.drop (i + 1) := by
  rw [List.drop_eq_getElem_cons h]
  simp [List.getD_eq_getElem?_getD, h]
theorem wordsL (us : List Nat) (hl : us.length ≤ 1000) (hu : ∀ u ∈ us, u < 4294967296) (d : Nat) : ∀ (i : Nat) (out : List ByteArray), us.length - i = d → i ≤ us.length → out.length ≤ i → Ev (fun k => sched_Words.l0 k out (us.map Int.ofNat) (us.length : Int) (i : Int)) (out ++ (us.drop i).map wB) := by
  induction d with
  | zero =>
    intro i out hd hi ho
    refine Ev.step (f := fun _ => some out) (fun k => ?_) ?_
    · simp only [sched_Words.l0]
      rw [if_neg (by omega)]
    · rw [List.drop_of_length_le (by omega), List.map_nil, List.append_nil]
      exact Ev.now _
  | succ d ih =>
    intro i out hd hi ho
    have hh := ih (i + 1) (out ++ [wB (us.getD i 0)]) (by omega) (by omega) (by rw [List.length_append, List.length_singleton]; omega)
    have hv := getD_lt hu i
    rw [List.append_assoc, List.singleton_append, ← List.map_cons, ← drop_cons (by omega)] at hh
    refine Ev.step (fun k => ?_) hh
    simp only [sched_Words.l0]
    rw [if_pos (by omega), if_pos (by omega), if_pos (by rw [List.length_map]; omega), rd_cast, show IntKind.u64.wrap ((us.getD i 0 : Nat) : Int) = ((us.getD i 0 : Nat) : Int) by rw [IntKind.wrap_u64]; omega, put4 hv]
    simp only [Option.bind_some]
    rw [if_pos (by omega), wrap_id (by omega) (by omega)]
    rfl
theorem sT_size : (mkB sT).size = 256 := by rw [mkB_size]; simp [sT]
theorem expF_c (n : Nat) (hn : n = 4 ∨ n = 6 ∨ n = 8) (key : ByteArray) (h : key.size = 4 * n) : ∃ vs : List Nat, Ev (fun k => expF k n key) (vs.map Int.ofNat) ∧ vs.map wB = wordsB key ∧ (∀ u ∈ vs, u < 4294967296) ∧ vs.length = 4 * n + 28 := by
  obtain ⟨us, h1, h2, h3⟩ := expL1_c (pcs 4 n key) [] (pcs_size (by omega)) (fun u hu => by cases hu)
  have hl : us.length = n := by have := congrArg List.length h2; rw [List.length_map, List.length_append, List.length_map, pcs_length] at this; simpa using this
  obtain ⟨vs, g1, g2, g3, g4⟩ := expL2_c n hn (3 * n + 28) n us hl (Nat.le_refl _) (by omega) h3
  have hp : Ev (fun k => octets_Pieces.f k key 4) (pcs 4 n key) := pieces_m (n := 4) (by omega) (by omega) (by omega) h
  rw [show (n - 1) / n = 0 by rcases hn with rfl | rfl | rfl <;> rfl] at g1
  refine ⟨vs, ?_, ?_, g3, by omega⟩
  · unfold expF
    refine evb table_c (evp sT_size (evb hp (evp (pcs_length _ _ _) (evb h1 (evp (by rw [List.length_map]; exact hl) ?_)))))
    show Ev (fun _ => expL2 (mkB sT) n (3 * n + 28) n ((pw 2 0 : Nat) : Int) (us.map Int.ofNat)) _
    rw [g1]
    exact Ev.now _
  · rw [g2, h2, List.map_nil, List.nil_append]
    unfold wordsB
    rw [h, show 4 * n / 4 = n by omega]
theorem expand_c {key : ByteArray} (h : okN key.size) : ∃ vs : List Nat, Ev (fun k => sched_expand.f k key) (vs.map Int.ofNat) ∧ vs.map wB = wordsB key ∧ (∀ u ∈ vs, u < 4294967296) ∧ vs.length = 4 * (key.size / 4) + 28 := by
  unfold sched_expand.f
  rcases h with h | h | h
  · obtain ⟨vs, g1, g2, g3, g4⟩ := expF_c 4 (by omega) key (by omega)
    exact ⟨vs, evp h g1, g2, g3, by omega⟩
  · obtain ⟨vs, g1, g2, g3, g4⟩ := expF_c 6 (by omega) key (by omega)
    exact ⟨vs, evn (by omega) (evp h g1), g2, g3, by omega⟩
  · obtain ⟨vs, g1, g2, g3, g4⟩ := expF_c 8 (by omega) key (by omega)
    exact ⟨vs, evn (by omega) (evn (by omega) (evp h g1)), g2, g3, by omega⟩
def wordsT (key : ByteArray) : List ByteArray := if okN key.size then wordsB key else []
theorem words_c (key : ByteArray) : Ev (fun k => sched_Words.f k key) (wordsT key) := by
  unfold wordsT
  by_cases h : okN key.size
  · rw [if_pos h]
    obtain ⟨vs, g1, g2, g3, g4⟩ := expand_c h
    have hb : vs.length ≤ 1000 := by rcases h with h | h | h <;> omega
    unfold sched_Words.f
    refine evb g1 ?_
    have := wordsL vs hb g3 _ 0 [] rfl (by omega) (by simp)
    rw [List.drop_zero, List.nil_append, g2] at this
    rw [List.length_map]
    exact this
  · rw [if_neg h]
    unfold okN at h
    unfold sched_Words.f
    have e : ∀ k, sched_expand.f k key = some [] := fun k => by unfold sched_expand.f; rw [if_neg (by omega), if_neg (by omega), if_neg (by omega)]
    simp only [e, Option.bind_some]
    exact Ev.step (f := fun _ => some []) (fun k => by simp only [sched_Words.l0]; rw [if_neg (by simp)]) (Ev.now _)
theorem ks_ne {key : ByteArray} (h : okN key.size) : ∃ a l, ksB key = a :: l := by
  have := (ks_len h).1
  cases e : ksB key with
  | nil => rw [e] at this; simp at this
  | cons a l => exact ⟨a, l, rfl⟩
theorem keys_c {key : ByteArray} (h : okN key.size) : Ev (fun k => sched_Keys.f k key) (ksB key, 0) := by
  have hw := words_c key
  rw [wordsT, if_pos h] at hw
  obtain ⟨f1, f2, f3, _⟩ := ks_facts h
  obtain ⟨w1, w2, _⟩ := words_facts h
  have hc : (catB (wordsB key)).size = 4 * (wordsB key).length := cat_size 4 _ w2
  have hk : key.size ≤ 32 := by rcases h with h | h | h <;> omega
  obtain ⟨a, l, e⟩ := ks_ne h
  unfold sched_Keys.f
  refine evs (rounds_i _) (evn (by rw [rnd_ok h]; omega) (evb hw (evs (join_c _ (by omega) (by omega)) ?_)))
  rw [← f3, e]
  rw [e] at f1 f2 f3
  rw [List.length_cons] at f1
  refine evb (pieces_c 16 (by omega) (by omega) a l f2 (by omega) (by rw [f3]; omega)) (Ev.now _)
theorem keys_n {key : ByteArray} (h : ¬ okN key.size) : Ev (fun k => sched_Keys.f k key) ([], 2) := by
  unfold sched_Keys.f
  exact evs (rounds_i _) (evp (rnd_no h) (Ev.now _))
theorem rconst_c (n : Int) (h1 : 1 ≤ n) (h2 : n ≤ 255) : Ev (fun k => clavigerref08_Constant.f k n) ((pw 2 (n.toNat - 1) : Nat) : Int) := by
  unfold clavigerref08_Constant.f
  refine evn (by omega) (evn (by omega) ?_)
  rw [wrap_id (by omega) (by omega)]
  refine evb (rpow_c (a := 2) (by omega) (n - 1)) ?_
  rw [show pw 2 (n.toNat - 1) = powI 2 (n - 1) by unfold powI; congr 1; omega]
  exact Ev.now _
theorem rw_step (key : ByteArray) (n : Nat) (hn : n = 4 ∨ n = 6 ∨ n = 8) (h : key.size = 4 * n) (i : Nat) (ws : List ByteArray) (hl : ws.length = i) (hi : n ≤ i) (hb : i < 4 * n + 28) (hs : allS 4 ws) (res : List ByteArray)
    (hr : Ev (fun k => clavigerref08_Words.l0 k key (ws ++ [stepB n i (ws.getD (i - n) ByteArray.empty) (ws.getD (i - 1) ByteArray.empty)]) (n : Int) ((i + 1 : Nat) : Int)) res) :
    Ev (fun k => clavigerref08_Words.l0 k key ws (n : Int) (i : Int)) res := by
  have h1 : wrap64 ((i : Int) - 1) = ((i - 1 : Nat) : Int) := by unfold wrap64; omega
  have h2 : wrap64 ((i : Int) - (n : Int)) = ((i - n : Nat) : Int) := by unfold wrap64; omega
  have h3 : wrap64 ((i : Int) + 1) = ((i + 1 : Nat) : Int) := by unfold wrap64; omega
  have h4 : Int.tmod (i : Int) (n : Int) = ((i % n : Nat) : Int) := by rw [Int.tmod_eq_emod_of_nonneg (by omega)]; omega
  have h5 : wrap64 (Int.tdiv (i : Int) (n : Int)) = ((i / n : Nat) : Int) := by
    rw [Int.tdiv_eq_ediv_of_nonneg (by omega), ← Int.natCast_ediv]
    have : i / n ≤ i := Nat.div_le_self _ _
    generalize i / n = q at *
    unfold wrap64; omega
  have h6 : Int.tmod (i : Int) 8 = ((i % 8 : Nat) : Int) := by rw [Int.tmod_eq_emod_of_nonneg (by omega)]; omega
  have hrn : rndI (key.size : Int) = ((n + 6 : Nat) : Int) := by rw [rnd_ok (by unfold okN; omega)]; congr 2; omega
  have h7 : wrap64 (wrap64 (4 * ((n + 6 : Nat) : Int)) + 4) = ((4 * n + 28 : Nat) : Int) := by rw [wrap_id (x := 4 * ((n + 6 : Nat) : Int)) (by omega) (by omega), wrap_id (by omega) (by omega)]; omega
  have ht := getD_size hs (j := i - 1) (by omega)
  have hq := getD_size hs (j := i - n) (by omega)
  generalize et : ws.getD (i - 1) ByteArray.empty = t at *
  generalize eq : ws.getD (i - n) ByteArray.empty = q at *
  have h8 : (t.extract 1 4).size = 3 := by rw [ByteArray.size_extract]; omega
  have h9 : (t.extract 0 1).size = 1 := by rw [ByteArray.size_extract]; omega
  by_cases hm : i % n = 0
  · have hd1 : 1 ≤ i / n := Nat.div_pos hi (by omega)
    have hd2 : i / n ≤ 60 := Nat.le_trans (Nat.div_le_self _ _) (by omega)
    have hc := rconst_c ((i / n : Nat) : Int) (by omega) (by omega)
    rw [Int.toNat_natCast] at hc
    refine Ev.step (f := fun k => (clavigerref06_Subs.f k (t.extract 1 4 ++ t.extract 0 1)).bind fun t215 => (clavigerref08_Constant.f k ((i / n : Nat) : Int)).bind fun t216 => (clavigerref01_Xor.f k t215 (strOfNums [t216, 0, 0, 0])).bind fun t220 => (clavigerref01_Xor.f k q t220).bind fun t222 => clavigerref08_Words.l0 k key (ws ++ [t222]) (n : Int) ((i + 1 : Nat) : Int)) (fun k => ?_) ?_
    · simp only [clavigerref08_Words.l0]
      rw [rrounds_i, Option.bind_some, hrn, h7, if_pos (by omega), if_neg (by omega), h1, h2, h3, h4, h5, rdO, rdO, et, eq]
      rw [if_pos (by omega), if_pos (by omega), if_neg (by omega), if_pos (by omega), if_pos (by omega), if_pos (by omega), if_pos (by omega), if_pos (by omega), if_pos (by omega)]
      simp only [show (0 : Int) ≤ ((i - n : Nat) : Int) from by omega, show ((i - n : Nat) : Int) < (ws.length : Int) from by omega, show ws.length < 8796093022208 from by omega, if_true]
    · refine evb (rSubs_c _ (by rw [ByteArray.size_append]; omega)) (evb hc ?_)
      have e : strOfNums [((pw 2 (i / n - 1) : Nat) : Int), 0, 0, 0] = mkB [pw 2 (i / n - 1), 0, 0, 0] := strOfNums_cast [pw 2 (i / n - 1), 0, 0, 0]
      rw [e]
      refine evb (rxor_c _ _ (by rw [mkB_size, List.length_map, nb_length, ByteArray.size_append]; omega) (by rw [mkB_size]; show 4 ≤ 140737488355328; omega)) (evb (rxor_c _ _ (by omega) (by rw [xorT_size, mkB_size, mkB_size]; show min _ 4 ≤ _; omega)) ?_)
      have e2 : stepB n i q t = xorT q (xorT (mkB ((nb (t.extract 1 4 ++ t.extract 0 1)).map sN)) (mkB [pw 2 (i / n - 1), 0, 0, 0])) := by unfold stepB; rw [if_pos hm]; rfl
      rw [← e2]
      exact hr
  · have hj : ∀ (b : Bool) (v : ByteArray), stepB n i q t = v → (b = true → v = xorT q (sbT t)) → (b = false → v = xorT q t) → Ev (fun k => clavigerref08_Words.j1 k key ws (n : Int) (i : Int) t b) res := by
      intro b v hv hv1 hv2
      cases b with
      | true =>
        refine Ev.step (f := fun k => (clavigerref06_Subs.f k t).bind fun t226 => (clavigerref01_Xor.f k q t226).bind fun t228 => clavigerref08_Words.l0 k key (ws ++ [t228]) (n : Int) ((i + 1 : Nat) : Int)) (fun k => ?_) ?_
        · simp only [clavigerref08_Words.j1]
          rw [h2, h3, rdO, eq]
          simp only [show (0 : Int) ≤ ((i - n : Nat) : Int) from by omega, show ((i - n : Nat) : Int) < (ws.length : Int) from by omega, show ws.length < 8796093022208 from by omega, if_true]
        · refine evb (rSubs_c _ (by omega)) (evb (rxor_c _ _ (by omega) (by rw [mkB_size, List.length_map, nb_length]; omega)) ?_)
          rw [← show v = xorT q (mkB ((nb t).map sN)) from hv1 rfl, ← hv]
          exact hr
      | false =>
        refine Ev.step (f := fun k => (clavigerref01_Xor.f k q t).bind fun t228 => clavigerref08_Words.l0 k key (ws ++ [t228]) (n : Int) ((i + 1 : Nat) : Int)) (fun k => ?_) ?_
        · simp only [clavigerref08_Words.j1]
          rw [if_neg (by simp), h2, h3, rdO, eq]
          simp only [show (0 : Int) ≤ ((i - n : Nat) : Int) from by omega, show ((i - n : Nat) : Int) < (ws.length : Int) from by omega, show ws.length < 8796093022208 from by omega, if_true]
        · refine evb (rxor_c _ _ (by omega) (by omega)) ?_
          rw [← hv2 rfl, ← hv]
          exact hr
    by_cases h8' : n = 8 ∧ i % 8 = 4
    · refine Ev.step (f := fun k => clavigerref08_Words.j1 k key ws (n : Int) (i : Int) t true) (fun k => ?_) (hj true _ rfl (fun _ => by unfold stepB; rw [if_neg hm, if_pos h8']) (fun h => by cases h))
      simp only [clavigerref08_Words.l0]
      rw [rrounds_i, Option.bind_some, hrn, h7, if_pos (by omega), if_neg (by omega), h1, h4, h6, rdO, et]
      rw [if_pos (by omega), if_pos (by omega), if_neg (by omega), if_neg (by omega), if_pos (by omega), show ((((i % 8 : Nat) : Int)) == 4) = true from beq_iff_eq.mpr (by omega)]
    · have hx : stepB n i q t = xorT q t := by unfold stepB; rw [if_neg hm, if_neg h8']
      refine Ev.step (f := fun k => clavigerref08_Words.j1 k key ws (n : Int) (i : Int) t false) (fun k => ?_) (hj false _ rfl (fun h => by cases h) (fun _ => hx))
      simp only [clavigerref08_Words.l0]
      rw [rrounds_i, Option.bind_some, hrn, h7, if_pos (by omega), if_neg (by omega), h1, h4, h6, rdO, et]
      rw [if_pos (by omega), if_pos (by omega), if_neg (by omega), if_neg (by omega)]
      by_cases h88 : n = 8
      · rw [if_pos (by omega), show ((((i % 8 : Nat) : Int)) == 4) = false from beq_eq_false_iff_ne.mpr (fun e => h8' ⟨h88, by omega⟩)]
      · rw [if_neg (by omega)]
theorem rw_go (key : ByteArray) (n : Nat) (hn : n = 4 ∨ n = 6 ∨ n = 8) (h : key.size = 4 * n) (d : Nat) : ∀ (i : Nat) (ws : List ByteArray), ws.length = i → n ≤ i → i + d = 4 * n + 28 → allS 4 ws → Ev (fun k => clavigerref08_Words.l0 k key ws (n : Int) (i : Int)) (goB n d i ws) := by
  induction d with
  | zero =>
    intro i ws hl hi hb hs
    have hrn : rndI (key.size : Int) = ((n + 6 : Nat) : Int) := by rw [rnd_ok (by unfold okN; omega)]; congr 2; omega
    have h7 : wrap64 (wrap64 (4 * ((n + 6 : Nat) : Int)) + 4) = ((4 * n + 28 : Nat) : Int) := by rw [wrap_id (x := 4 * ((n + 6 : Nat) : Int)) (by omega) (by omega), wrap_id (by omega) (by omega)]; omega
    refine Ev.step (f := fun _ => some ws) (fun k => ?_) (Ev.now _)
    simp only [clavigerref08_Words.l0]
    rw [rrounds_i, Option.bind_some, hrn, h7, if_neg (by omega)]
  | succ d ih =>
    intro i ws hl hi hb hs
    refine rw_step key n hn h i ws hl hi (by omega) hs _ ?_
    simp only [goB]
    refine ih (i + 1) _ (by rw [List.length_append, List.length_singleton, hl]) (by omega) (by omega) (fun x hx => ?_)
    rcases List.mem_append.1 hx with hx | hx
    · exact hs x hx
    · rw [List.mem_singleton.1 hx]
      exact stepB_size n i (getD_size hs (by omega)) (getD_size hs (by omega))
theorem rw_first (key : ByteArray) (n : Nat) (hn : n = 4 ∨ n = 6 ∨ n = 8) (h : key.size = 4 * n) (res : List ByteArray) (hr : Ev (fun k => clavigerref08_Words.l0 k key (pcs 4 n key) (n : Int) (n : Int)) res) (d : Nat) : ∀ i, n - i = d → i ≤ n → Ev (fun k => clavigerref08_Words.l0 k key (pcs 4 i key) (n : Int) (i : Int)) res := by
  induction d with
  | zero =>
    intro i hd hi
    obtain rfl : i = n := by omega
    exact hr
  | succ d ih =>
    intro i hd hi
    have hrn : rndI (key.size : Int) = ((n + 6 : Nat) : Int) := by rw [rnd_ok (by unfold okN; omega)]; congr 2; omega
    have h7 : wrap64 (wrap64 (4 * ((n + 6 : Nat) : Int)) + 4) = ((4 * n + 28 : Nat) : Int) := by rw [wrap_id (x := 4 * ((n + 6 : Nat) : Int)) (by omega) (by omega), wrap_id (by omega) (by omega)]; omega
    have h3 : wrap64 ((i : Int) + 1) = ((i + 1 : Nat) : Int) := by unfold wrap64; omega
    have h4 : wrap64 (4 * (i : Int)) = ((4 * i : Nat) : Int) := by unfold wrap64; omega
    have h5 : wrap64 (((4 * i : Nat) : Int) + 4) = ((4 * i + 4 : Nat) : Int) := by unfold wrap64; omega
    have e : pcs 4 (i + 1) key = pcs 4 i key ++ [key.extract (4 * i) (4 * i + 4)] := by
      unfold pcs; rw [List.range_succ, List.map_append]; rfl
    have hh := ih (i + 1) (by omega) (by omega)
    rw [e] at hh
    refine Ev.step (fun k => ?_) hh
    simp only [clavigerref08_Words.l0]
    rw [rrounds_i, Option.bind_some, hrn, h7, if_pos (by omega), if_pos (by omega), h4, h5, h3, if_pos (by omega), if_pos (by omega), if_pos (by omega), if_pos (by rw [pcs_length]; omega), Int.toNat_natCast, Int.toNat_natCast]
theorem rwords_c (key : ByteArray) : Ev (fun k => clavigerref08_Words.f k key) (wordsT key) := by
  unfold clavigerref08_Words.f wordsT
  by_cases h : okN key.size
  · rw [if_pos h]
    have h4 : key.size = 4 * (key.size / 4) := by rcases h with h | h | h <;> omega
    have hn : key.size / 4 = 4 ∨ key.size / 4 = 6 ∨ key.size / 4 = 8 := by rcases h with h | h | h <;> omega
    refine evs (rrounds_i _) (evn (by rw [rnd_ok h]; omega) ?_)
    rw [show wrap64 ((key.size : Int) / 4) = ((key.size / 4 : Nat) : Int) by unfold wrap64; omega]
    have hp := pcs_size (n := 4) (m := key.size / 4) (s := key) (by omega)
    have := rw_first key (key.size / 4) hn h4 (wordsB key) (rw_go key _ hn h4 (3 * (key.size / 4) + 28) _ _ (pcs_length _ _ _) (Nat.le_refl _) (by omega) hp) _ 0 rfl (by omega)
    exact this
  · rw [if_neg h]
    exact evs (rrounds_i _) (evp (rnd_no h) (Ev.now _))
theorem quads_get : ∀ (j : Nat) (l : List ByteArray), 4 * j + 3 < l.length → quads l = quads (l.take (4 * j)) ++ (((l.getD (4 * j) ByteArray.empty ++ l.getD (4 * j + 1) ByteArray.empty) ++ l.getD (4 * j + 2) ByteArray.empty) ++ l.getD (4 * j + 3) ByteArray.empty) :: quads (l.drop (4 * j + 4))
  | 0, a :: b :: c :: d :: l, _ => by simp [quads, ByteArray.append_assoc]
  | j + 1, a :: b :: c :: d :: l, h => by
    have := quads_get j l (by simp at h; omega)
    rw [show 4 * (j + 1) = 4 * j + 1 + 1 + 1 + 1 by omega]
    simp only [List.take_succ_cons, quads, List.cons_append]
    rw [this]
    rfl
theorem quads_take (l : List ByteArray) (j : Nat) (h : 4 * j + 3 < l.length) : quads (l.take (4 * (j + 1))) = quads (l.take (4 * j)) ++ [((l.getD (4 * j) ByteArray.empty ++ l.getD (4 * j + 1) ByteArray.empty) ++ l.getD (4 * j + 2) ByteArray.empty) ++ l.getD (4 * j + 3) ByteArray.empty] := by
  have hlen : (l.take (4 * (j + 1))).length = 4 * j + 4 := by rw [List.length_take]; omega
  have e := quads_get j (l.take (4 * (j + 1))) (by omega)
  rw [List.drop_of_length_le (by omega), List.take_take, show min (4 * j) (4 * (j + 1)) = 4 * j by omega] at e
  rw [e]
  have g : ∀ q, q < 4 * j + 4 → (l.take (4 * (j + 1))).getD q ByteArray.empty = l.getD q ByteArray.empty := fun q hq => by
    rw [List.getD_eq_getElem?_getD, List.getD_eq_getElem?_getD, List.getElem?_take_of_lt (by omega)]
  rw [g _ (by omega), g _ (by omega), g _ (by omega), g _ (by omega)]
  rfl
theorem rkeysL (l : List ByteArray) (m : Nat) (hl : l.length = 4 * m) (hm : m ≤ 100) (hs : allS 4 l) (d : Nat) : ∀ j, m - j = d → j ≤ m → Ev (fun k => clavigerref08_Keys.l0 k l (quads (l.take (4 * j))) ((4 * j : Nat) : Int)) (quads l, 0) := by
  induction d with
  | zero =>
    intro j hd hj
    obtain rfl : j = m := by omega
    refine Ev.step (f := fun _ => some (quads l, 0)) (fun k => ?_) (Ev.now _)
    simp only [clavigerref08_Keys.l0]
    rw [if_neg (by omega), List.take_of_length_le (by omega)]
  | succ d ih =>
    intro j hd hj
    have hh := ih (j + 1) (by omega) (by omega)
    rw [quads_take l j (by omega)] at hh
    have e1 : wrap64 (((4 * j : Nat) : Int) + 1) = ((4 * j + 1 : Nat) : Int) := by unfold wrap64; omega
    have e2 : wrap64 (((4 * j : Nat) : Int) + 2) = ((4 * j + 2 : Nat) : Int) := by unfold wrap64; omega
    have e3 : wrap64 (((4 * j : Nat) : Int) + 3) = ((4 * j + 3 : Nat) : Int) := by unfold wrap64; omega
    have e4 : wrap64 (((4 * j : Nat) : Int) + 4) = ((4 * (j + 1) : Nat) : Int) := by unfold wrap64; omega
    have s0 := getD_size hs (j := 4 * j) (by omega)
    have s1 := getD_size hs (j := 4 * j + 1) (by omega)
    have s2 := getD_size hs (j := 4 * j + 2) (by omega)
    have s3 := getD_size hs (j := 4 * j + 3) (by omega)
    have hq : (quads (l.take (4 * j))).length = j := (quads_all j _ (by rw [List.length_take]; omega) (fun x hx => hs x (List.mem_of_mem_take hx))).2.1
    refine Ev.step (fun k => ?_) hh
    simp only [clavigerref08_Keys.l0, e1, e2, e3, e4, rdO, ByteArray.size_append, s0, s1, s2, s3]
    rw [if_pos (by omega), if_pos (by omega), if_pos (by omega), if_pos (by omega), if_pos (by omega), if_pos (by omega), if_pos (by omega), if_pos (by omega), if_pos (by omega), if_pos (by omega), if_pos (by omega), if_pos (by omega)]
theorem rkeys_c {key : ByteArray} (h : okN key.size) : Ev (fun k => clavigerref08_Keys.f k key) (ksB key, 0) := by
  have hw := rwords_c key
  rw [wordsT, if_pos h] at hw
  obtain ⟨w1, w2, _⟩ := words_facts h
  have hk : key.size ≤ 32 := by rcases h with h | h | h <;> omega
  unfold clavigerref08_Keys.f
  refine evs (rrounds_i _) (evn (by rw [rnd_ok h]; omega) (evb hw ?_))
  exact rkeysL (wordsB key) _ w1 (by omega) w2 _ 0 rfl (by omega)
theorem rkeys_n {key : ByteArray} (h : ¬ okN key.size) : Ev (fun k => clavigerref08_Keys.f k key) ([], 2) := by
  unfold clavigerref08_Keys.f
  exact evs (rrounds_i _) (evp (rnd_no h) (Ev.now _))
end Go.Proofs.Ytokkhnjedmlbhaa.M
end
section
namespace Go.Proofs.Ytokkhnjedmlbhaa.M
def encR (key s : ByteArray) : ByteArray × Int := if s.size = 16 then (encT (ksB key) s, 0) else (⟨#[]⟩, 4)
def decR (key s : ByteArray) : ByteArray × Int := if s.size = 16 then (decT (ksB key) s, 0) else (⟨#[]⟩, 4)
end Go.Proofs.Ytokkhnjedmlbhaa.M
namespace Go.Proofs.Ytokkhnjedmlbhaa.Pr
open Go.RowKit Go.Proofs.YtokkhnjedmlbhaaW.PrintWords Go.Proofs.YtokkhnjedmlbhaaW.PrintLast Go.Proofs.YtokkhnjedmlbhaaW.PrintMore Go.Proofs.YtokkhnjedmlbhaaHw Go.Proofs.YtokkhnjedmlbhaaGf
/-- A cipher of a key in memory. -/
def IsK (w : World) (g : Nat) (key : ByteArray) : Prop := IsC w g key.size (M.ksB key)
theorem IsK.below {w w1 : World} {g : Nat} {key : ByteArray} (h : IsK w g key) (hb : Below w.heap.size w w1) : IsK w1 g key := IsC.below h hb
theorem new_ok (key : ByteArray) (w : World) (h : M.okN key.size) :
    Calls Try.prog 104 #[.string key] w fun e w' => ∃ g : Nat, e = .returned (.tuple #[.pointer (some ⟨g, 0, none⟩), .int .i64 0]) ∧ IsK w' g key ∧ Below w.heap.size w w' := by
  obtain ⟨k, hk⟩ := Ev.rounds (M.keys_c h)
  exact new_calls k key (M.ksB key) w hk (by have := (M.ks_len h).1; omega)
theorem new_bad (key : ByteArray) (w : World) (h : ¬ M.okN key.size) :
    Calls Try.prog 104 #[.string key] w fun e w' => e = .returned (.tuple #[.pointer none, .int .i64 2]) ∧ Below w.heap.size w w' := by
  obtain ⟨k, hk⟩ := Ev.rounds (M.keys_n h)
  exact new_err k key [] 2 w hk (by decide)
theorem enc_any (g : Nat) (key s : ByteArray) (w : World) (hC : IsK w g key) (hk : M.okN key.size) :
    Calls Try.prog 106 #[.pointer (some ⟨g, 0, none⟩), .string s] w fun e w' => e = .returned (.tuple #[.string (M.encR key s).1, .int .i64 (M.encR key s).2]) ∧ Below w.heap.size w w' := by
  unfold M.encR
  by_cases hs : s.size = 16
  · rw [if_pos hs]
    exact enc_calls g key.size (M.ksB key) s w hC hs (M.ks_len hk).1 (M.ks_len hk).2 (M.ks_facts hk).2.1
  · rw [if_neg hs]
    have HC : Aside0 (IsC w g key.size (M.ksB key)) := ⟨hC⟩
    have HS := Aside0.mk hs
    clear hC hs hk
    go_enter Try.func106, Try.ntmps106
    go_wp2_with (go_at_call 193; (with_reducible refine (may_size g _ _ s _ HC.out HS.out).mono ?_); rintro e w' ⟨rfl, hw'⟩; have hw2 := hw'.symm; subst hw2)
    go_ret2
    exact ⟨rfl, Below.refl _ _⟩
theorem dec_any (g : Nat) (key s : ByteArray) (w : World) (hC : IsK w g key) (hk : M.okN key.size) :
    Calls Try.prog 107 #[.pointer (some ⟨g, 0, none⟩), .string s] w fun e w' => e = .returned (.tuple #[.string (M.decR key s).1, .int .i64 (M.decR key s).2]) ∧ Below w.heap.size w w' := by
  unfold M.decR
  by_cases hs : s.size = 16
  · rw [if_pos hs]
    exact dec_calls g key.size (M.ksB key) s w hC hs (M.ks_len hk).1 (M.ks_len hk).2 (M.ks_facts hk).2.1
  · rw [if_neg hs]
    have HC : Aside0 (IsC w g key.size (M.ksB key)) := ⟨hC⟩
    have HS := Aside0.mk hs
    clear hC hs hk
    go_enter Try.func107, Try.ntmps107
    go_wp2
    refine scope_pass 0 (fun _ _ => False) (fun _ _ => 0) rfl (fun _ _ h => h.elim) ?_
    intro _
    go_wp2_with (go_at_call 193; (with_reducible refine (may_size g _ _ s _ HC.out HS.out).mono ?_); rintro e w' ⟨rfl, hw'⟩; have hw2 := hw'.symm; subst hw2)
    simp only [Exit.jump]
    go_ret2
    exact ⟨rfl, Below.refl _ _⟩
def aes_Encrypt.f (a0 a1 : ByteArray) : Option (ByteArray × Int) := some (if M.okN a0.size then M.encR a0 a1 else (⟨#[]⟩, 2))
def aes_Decrypt.f (a0 a1 : ByteArray) : Option (ByteArray × Int) := some (if M.okN a0.size then M.decR a0 a1 else (⟨#[]⟩, 2))
end Go.Proofs.Ytokkhnjedmlbhaa.Pr
end
section
namespace Go.Proofs.Ytokkhnjedmlbhaa.M
open Go.RowKit Go.Proofs.Ytokkhnjedmlbhaa.Pr Go.Proofs.YtokkhnjedmlbhaaW.PrintWords Go.Proofs.YtokkhnjedmlbhaaW.PrintLast Go.Proofs.YtokkhnjedmlbhaaW.PrintMore Go.Proofs.YtokkhnjedmlbhaaGf
set_option linter.unusedSimpArgs false
theorem xor_c (a b : ByteArray) (h : min a.size b.size ≤ 281474976710656) : octets_Xor.f a b = some (xorT a b) := by
  unfold octets_Xor.f
  rw [if_pos h]
  unfold xorT
  rw [← strOfNums_cast, List.map_map]
  congr 2
  unfold xorRow
  apply List.map_congr_left
  intro i hi
  have := List.mem_range.1 hi
  rw [if_pos this, bt_bb, bt_bb, bx (bb_lt a i) (bb_lt b i)]
  rfl
end Go.Proofs.Ytokkhnjedmlbhaa.M
end
section
namespace Go.Proofs.Ytokkhnjedmlbhaa.Pr
open Go.RowKit Go.Proofs.YtokkhnjedmlbhaaW.PrintWords Go.Proofs.YtokkhnjedmlbhaaW.PrintLast Go.Proofs.YtokkhnjedmlbhaaW.PrintMore Go.Proofs.YtokkhnjedmlbhaaHw Go.Proofs.YtokkhnjedmlbhaaGf
/-- A row of bytes, made behind w0, that holds t. -/
def OB (w0 W : World) (v : Value) (t : ByteArray) : Prop := W.ownsRow w0.heap.size 5 1 v (bytesOf t).length (nums .u8 (bytesOf t))
theorem bytesOf_app (a b : ByteArray) : bytesOf (a ++ b) = bytesOf a ++ bytesOf b := by rw [M.bytesOf_nb, M.bytesOf_nb, M.bytesOf_nb, M.nb_append, List.map_append]
theorem strOf_bytes (t : ByteArray) : strOfNums (bytesOf t) = t := by rw [M.bytesOf_nb, M.strOfNums_cast, M.mkB_nb]
theorem OB.text {w0 W : World} {v : Value} {t : ByteArray} (h : OB w0 W v t) : (convert 66 9 v).run Try.prog W = .ok (.string t) W := by
  have h2 := own_string (P := Try.prog) (src := 66) (dst := 9) (e := 5) Try.underlying66 Try.underlying5 Try.underlying9 h
  rwa [strOf_bytes] at h2
theorem OB.below {w0 w w1 : World} {v : Value} {t : ByteArray} (h : OB w0 w v t) (hb : Below w.heap.size w w1) : OB w0 w1 v t := own_move h (fun q hq => hb.block q (World.ownsRow.lt h q hq).2)
theorem OB.drewN {w0 w : World} {v : Value} {t : ByteArray} (h : OB w0 w v t) (n : Nat) : OB w0 (w.drewN n) v t := own_move h (fun _ _ => rfl)
theorem info8 : (Try.prog.info? 5).map (fun i => (i.zero, i.size, i.bytes)) = some (some (.int .u8 0), 1, 1) := by kernel_rfl
theorem make8 (n : Nat) (hn : n ≤ 281474976710656) (W : World) : (Instr.makeSlice 66 (.int .i64 0) (.int .i64 (n : Int))).run Try.prog W = .ok (.slice (some ⟨W.heap.size, 0, none⟩) 0 n) (W.alloc (.cells (madeCells #[.int .u8 0] n) 5)) := by
  obtain ⟨i0, hi, hz0, hz1, hz2⟩ := info_parts info8
  have h := run_make (P := Try.prog) W 66 5 i0 (.int .u8 0) Try.underlying66 hi hz0 .i64 .i64 0 (n : Int) (by omega) (by omega) (by rw [hz2]; omega) (by omega)
  simp only [Int.toNat_natCast, Int.toNat_zero, hz1, Nat.mul_one] at h
  exact h
theorem OB.made (w0 W : World) (n : Nat) (hn : n ≤ 281474976710656) (hB : w0.heap.size ≤ W.heap.size) : OB w0 (W.alloc (.cells (madeCells #[.int .u8 0] n) 5)) (.slice (some ⟨W.heap.size, 0, none⟩) 0 n) ⟨#[]⟩ := by
  have h := World.ownsRow_made (base := w0.heap.size) (e := 5) (size := 1) W (madeCells #[.int .u8 0] n) n hB (by simp only [maxLen]; omega) (by simp [size_madeCells])
  show World.ownsRow _ _ _ 1 _ 0 []
  simpa using h
/-- A row of texts at its value: nothing is said of an empty one's place. -/
def SR (W : World) (A : Option Addr) (ps : List ByteArray) : Prop := 0 < ps.length → ∃ g, A = some ⟨g, 0, none⟩ ∧ StrRow W g ps
theorem SR.of_R {w : World} {base : Nat} {ok : Nat → Prop} {v : Value} {ps : List ByteArray} (h : Kd.R Kd.string 9 w base ok v ps) : ∃ A c, v = .slice A ps.length c ∧ SR w A ps := by
  by_cases hn : 0 < ps.length
  · obtain ⟨g, cap, rfl, _, hS⟩ := StrRow.of_R h hn
    exact ⟨_, _, rfl, fun _ => ⟨g, rfl, hS⟩⟩
  · obtain ⟨A, c, rfl⟩ := Kd.R_slice h
    exact ⟨A, c, rfl, fun h2 => absurd h2 hn⟩
theorem StrRow.grown8 {w w1 : World} {g : Nat} {ps : List ByteArray} {w0 : World} {v : Value} {t : ByteArray} (h : StrRow w g ps) (ho : OB w0 w v t) (hg : w.grownBy w1 v.ownBlock) : StrRow w1 g ps := by
  refine h.same (hg.block g h.lt (fun e => ?_))
  obtain ⟨cells, hc⟩ := own_typed ho g e.symm
  obtain ⟨cur, h1, _⟩ := h
  rw [hc] at h1
  simp at h1
theorem SR.grown8 {w w1 : World} {A : Option Addr} {ps : List ByteArray} {w0 : World} {v : Value} {t : ByteArray} (h : SR w A ps) (ho : OB w0 w v t) (hg : w.grownBy w1 v.ownBlock) : SR w1 A ps := fun hn => by
  obtain ⟨g, e, hS⟩ := h hn
  exact ⟨g, e, hS.grown8 ho hg⟩
theorem SR.below {w w1 : World} {A : Option Addr} {ps : List ByteArray} (h : SR w A ps) (hb : Below w.heap.size w w1) : SR w1 A ps := fun hn => by
  obtain ⟨g, e, hS⟩ := h hn
  exact ⟨g, e, hS.below hb⟩
section
variable {P : Program} {ops : Array Oper} {rest : List Oper} {o : Oper} {a : Act} {Q : Exit → Act → World → Prop}
theorem OB.append {w0 W : World} (hgd : o.guard = none) (s x : Operand) (ho : o.op = .call { callee := .builtin .append, args := #[s, x], argTypes := #[66, 9] })
    (v : Value) (t y : ByteArray) (hs : a.eval s = v) (hx : a.eval x = .string y) (HO : OB w0 W v t) (HB : Below w0.heap.size w0 W) (hl : t.size + y.size ≤ 140737488355328)
    (h : ∀ v1 w1, OB w0 w1 v1 (t ++ y) → Below w0.heap.size w0 w1 → W.grownBy w1 v.ownBlock → wpList Try.prog ops Q rest (a.put o.dst v1) w1) : wpList Try.prog ops Q (o :: rest) a W := by
  refine print_append_str (w0 := w0) w0.heap.size hgd s x 66 9 5 ho Try.underlying66 Try.underlying9 info8 v (bytesOf t) y hs hx HO HB HB.size (by rw [bytesOf_length]; exact hl) ?_
  intro v1 w1 h1 h2 h3
  refine h v1 w1 ?_ h2 h3
  unfold OB
  rw [bytesOf_app]
  exact h1
end
end Go.Proofs.Ytokkhnjedmlbhaa.Pr
end
section
namespace Go.Proofs.Ytokkhnjedmlbhaa.M
open Go.RowKit Go.Proofs.Ytokkhnjedmlbhaa.Pr Go.Proofs.YtokkhnjedmlbhaaW.PrintWords Go.Proofs.YtokkhnjedmlbhaaW.PrintLast Go.Proofs.YtokkhnjedmlbhaaW.PrintMore Go.Proofs.YtokkhnjedmlbhaaGf
set_option linter.unusedSimpArgs false
theorem bb_ext (s : ByteArray) (a j i : Nat) (_hj : j ≤ s.size) (hi : a + i < j) : bb (s.extract a j) i = bb s (a + i) := by
  rw [bb_nb, bb_nb, extract_nb, nb_mkB (isB_drop (isB_take (isB_nb s) _) _)]
  rw [List.getD_eq_getElem?_getD, List.getD_eq_getElem?_getD, List.getElem?_drop, List.getElem?_take_of_lt hi]
def be8 (g : Nat → Nat) : Nat := ((((((g 0 * 256 + g 1) * 256 + g 2) * 256 + g 3) * 256 + g 4) * 256 + g 5) * 256 + g 6) * 256 + g 7
theorem beT8 (s : ByteArray) : beT s 8 = be8 (bb s) := by simp [beT, be8]
def l8 (u : Nat) : List Nat := [u / 72057594037927936 % 256, u / 281474976710656 % 256, u / 1099511627776 % 256, u / 4294967296 % 256, u / 16777216 % 256, u / 65536 % 256, u / 256 % 256, u % 256]
theorem put8 (u : Nat) : octets_Put.f (u : Int) 8 = some (mkB (l8 u)) := by
  unfold octets_Put.f
  rw [if_neg (by decide), if_neg (by decide)]
  rfl
theorem be8_lt (g : Nat → Nat) (h : ∀ i, g i < 256) : be8 g < 18446744073709551616 := by
  have h0 := h 0; have h1 := h 1; have h2 := h 2; have h3 := h 3; have h4 := h 4; have h5 := h 5; have h6 := h 6; have h7 := h 7
  unfold be8
  omega
/-- The bytes of twice a number of eight bytes, and one bit. -/
theorem l8_twice (g : Nat → Nat) (h : ∀ i, g i < 256) (c : Nat) (hc : c < 2) : l8 (2 * (be8 g % 9223372036854775808) + c) = [2 * g 0 % 256 + g 1 / 128, 2 * g 1 % 256 + g 2 / 128, 2 * g 2 % 256 + g 3 / 128, 2 * g 3 % 256 + g 4 / 128, 2 * g 4 % 256 + g 5 / 128, 2 * g 5 % 256 + g 6 / 128, 2 * g 6 % 256 + g 7 / 128, 2 * g 7 % 256 + c] := by
  have h0 := h 0; have h1 := h 1; have h2 := h 2; have h3 := h 3; have h4 := h 4; have h5 := h 5; have h6 := h 6; have h7 := h 7
  unfold l8 be8
  generalize g 0 = a at *; generalize g 1 = b at *; generalize g 2 = c at *; generalize g 3 = d at *; generalize g 4 = e at *; generalize g 5 = p at *; generalize g 6 = q at *; generalize g 7 = r at *
  simp only [List.cons.injEq, and_true]
  refine ⟨by omega, by omega, by omega, by omega, by omega, by omega, by omega, by omega⟩
theorem be8_top (g : Nat → Nat) (h : ∀ i, g i < 256) : be8 g / 9223372036854775808 = g 0 / 128 := by
  have h0 := h 0; have h1 := h 1; have h2 := h 2; have h3 := h 3; have h4 := h 4; have h5 := h 5; have h6 := h 6; have h7 := h 7
  unfold be8
  generalize g 0 = a at *; generalize g 1 = b at *; generalize g 2 = c at *; generalize g 3 = d at *; generalize g 4 = e at *; generalize g 5 = p at *; generalize g 6 = q at *; generalize g 7 = r at *
  omega
theorem l8_xor (u e : Nat) (he : e < 256) : l8 (u ^^^ e) = [u / 72057594037927936 % 256, u / 281474976710656 % 256, u / 1099511627776 % 256, u / 4294967296 % 256, u / 16777216 % 256, u / 65536 % 256, u / 256 % 256, (u % 256) ^^^ e] := by
  have x (k : Nat) := xor_div_mod u e k
  have h7 := x 56; have h6 := x 48; have h5 := x 40; have h4 := x 32; have h3 := x 24; have h2 := x 16; have h1 := x 8; have h0 := x 0
  simp only [Nat.reducePow, Nat.div_one] at h0 h1 h2 h3 h4 h5 h6 h7
  unfold l8
  rw [h7, h6, h5, h4, h3, h2, h1, h0, Nat.mod_eq_of_lt he, Nat.div_eq_of_lt (show e < 72057594037927936 by omega), Nat.div_eq_of_lt (show e < 281474976710656 by omega), Nat.div_eq_of_lt (show e < 1099511627776 by omega), Nat.div_eq_of_lt (show e < 4294967296 by omega), Nat.div_eq_of_lt (show e < 16777216 by omega), Nat.div_eq_of_lt (show e < 65536 by omega), Nat.div_eq_of_lt he]
  simp only [Nat.zero_mod, Nat.xor_zero]
theorem dbl_c (b : ByteArray) : Ev (fun k => cmac_Double.f k b) (dblT b) := by
  unfold cmac_Double.f dblT
  by_cases hs : b.size = 16
  · rw [if_pos hs]
    have hb := bb_lt b
    have s1 : (b.extract 0 8).size = 8 := by rw [ByteArray.size_extract]; omega
    have s2 : (b.extract 8 b.size).size = 8 := by rw [ByteArray.size_extract]; omega
    have g1 := get_c (b.extract 0 8) (by omega) (by omega)
    have g2 := get_c (b.extract 8 b.size) (by omega) (by omega)
    rw [s1, beT8] at g1
    rw [s2, beT8] at g2
    have e1 : be8 (bb (b.extract 0 8)) = be8 (bb b) := by
      unfold be8
      rw [bb_ext b 0 8 0 (by omega) (by omega), bb_ext b 0 8 1 (by omega) (by omega), bb_ext b 0 8 2 (by omega) (by omega), bb_ext b 0 8 3 (by omega) (by omega), bb_ext b 0 8 4 (by omega) (by omega), bb_ext b 0 8 5 (by omega) (by omega), bb_ext b 0 8 6 (by omega) (by omega), bb_ext b 0 8 7 (by omega) (by omega)]
    have e2 : be8 (bb (b.extract 8 b.size)) = be8 (fun i => bb b (8 + i)) := by
      unfold be8
      rw [bb_ext b 8 b.size 0 (by omega) (by omega), bb_ext b 8 b.size 1 (by omega) (by omega), bb_ext b 8 b.size 2 (by omega) (by omega), bb_ext b 8 b.size 3 (by omega) (by omega), bb_ext b 8 b.size 4 (by omega) (by omega), bb_ext b 8 b.size 5 (by omega) (by omega), bb_ext b 8 b.size 6 (by omega) (by omega), bb_ext b 8 b.size 7 (by omega) (by omega)]
    rw [e1] at g1
    rw [e2] at g2
    have hH := be8_lt (bb b) hb
    have hL := be8_lt (fun i => bb b (8 + i)) (fun i => hb _)
    have t1 := be8_top (bb b) hb
    have t2 := be8_top (fun i => bb b (8 + i)) (fun i => hb _)
    have w1 := l8_twice (bb b) hb (bb b 8 / 128) (by have := hb 8; omega)
    have w2 := l8_twice (fun i => bb b (8 + i)) (fun i => hb _) 0 (by omega)
    simp only [Nat.add_zero] at t2
    have c0 : bb b 0 / 128 < 2 := by have := hb 0; omega
    have c8 : bb b 8 / 128 < 2 := by have := hb 8; omega
    have a1 : Go.bits .or .u64 (IntKind.u64.wrap (((be8 (bb b) : Nat) : Int) * 2)) (((be8 (fun i => bb b (8 + i)) : Nat) : Int) / 9223372036854775808) = ((2 * (be8 (bb b) % 9223372036854775808) + bb b 8 / 128 : Nat) : Int) := by
      rw [show IntKind.u64.wrap (((be8 (bb b) : Nat) : Int) * 2) = ((2 ^ 1 * (be8 (bb b) % 9223372036854775808) : Nat) : Int) by rw [IntKind.wrap_u64]; omega, show (((be8 (fun i => bb b (8 + i)) : Nat) : Int) / 9223372036854775808) = ((bb b 8 / 128 : Nat) : Int) by rw [← t2]; omega, u64_or_nat _ _ (by omega) (by omega), or_add (by omega)]
    have a2 : Go.bits .xor .u64 (IntKind.u64.wrap (((be8 (fun i => bb b (8 + i)) : Nat) : Int) * 2)) (IntKind.u64.wrap ((((be8 (bb b) : Nat) : Int) / 9223372036854775808) * 135)) = (((2 * (be8 (fun i => bb b (8 + i)) % 9223372036854775808) + 0) ^^^ (bb b 0 / 128 * 135) : Nat) : Int) := by
      rw [show IntKind.u64.wrap (((be8 (fun i => bb b (8 + i)) : Nat) : Int) * 2) = ((2 * (be8 (fun i => bb b (8 + i)) % 9223372036854775808) + 0 : Nat) : Int) by rw [IntKind.wrap_u64]; omega, show IntKind.u64.wrap ((((be8 (bb b) : Nat) : Int) / 9223372036854775808) * 135) = ((bb b 0 / 128 * 135 : Nat) : Int) by rw [IntKind.wrap_u64, ← t1]; omega, u64_xor_nat _ _ (by omega) (by omega)]
    refine evp (by omega) (evp (by decide) (evp (by omega) (evb g1 (evb g2 ?_))))
    simp only []
    rw [a1, a2, put8, put8]
    simp only [Option.bind_some]
    rw [if_pos (by rw [mkB_size, mkB_size]; show 8 + 8 ≤ _; omega), mkB_append, l8_xor _ _ (by omega)]
    have w3 := w2
    unfold l8 at w3
    simp only [List.cons.injEq, and_true] at w3
    obtain ⟨q0, q1, q2, q3, q4, q5, q6, q7⟩ := w3
    rw [q0, q1, q2, q3, q4, q5, q6, q7, w1]
    exact Ev.now _
  · rw [if_neg hs]
    exact evn (by omega) (Ev.now _)
theorem ext_ext (s : ByteArray) (a n : Nat) : (s.extract a s.size).extract 0 n = s.extract a (a + n) := by
  rw [extract_nb, extract_nb, extract_nb, nb_mkB (isB_drop (isB_take (isB_nb s) _) _)]
  congr 1
  rw [List.drop_zero, List.take_of_length_le (l := nb s) (by rw [nb_length]; exact Nat.le_refl _), List.drop_take]
  congr 1
  omega
theorem ext_tail (s : ByteArray) (a n : Nat) : (s.extract a s.size).extract n (s.extract a s.size).size = s.extract (a + n) s.size := by
  rw [extract_nb, extract_nb, extract_nb, nb_mkB (isB_drop (isB_take (isB_nb s) _) _)]
  congr 1
  rw [List.take_of_length_le (l := nb s) (by rw [nb_length]; exact Nat.le_refl _), List.take_of_length_le (by rw [mkB_size]; exact Nat.le_refl _), List.drop_drop]
theorem ext_clip (s : ByteArray) (a b : Nat) (h : s.size ≤ b) : s.extract a b = s.extract a s.size := by
  rw [extract_nb, extract_nb]
  congr 2
  rw [List.take_of_length_le (by rw [nb_length]; exact h), List.take_of_length_le (by rw [nb_length]; exact Nat.le_refl _)]
theorem pcs_snoc (n m : Nat) (s : ByteArray) : pcs n (m + 1) s = pcs n m s ++ [s.extract (n * m) (n * m + n)] := by
  unfold pcs; rw [List.range_succ, List.map_append]; rfl
theorem piecesGL (n : Nat) (s : ByteArray) (m : Nat) (h1 : n * m < s.size) (h2 : s.size ≤ n * m + n) (hm : m < 1000000) (d : Nat) : ∀ i, m - i = d → i ≤ m → Ev (fun k => octets_Pieces.l0 k (s.extract (n * i) s.size) (n : Int) (pcs n i s)) (pcs n (m + 1) s) := by
  induction d with
  | zero =>
    intro i hd hi
    obtain rfl : i = m := by omega
    refine Ev.step (f := fun _ => some (pcs n i s ++ [s.extract (n * i) s.size])) (fun k => ?_) ?_
    · simp only [octets_Pieces.l0]
      rw [if_neg (by rw [ByteArray.size_extract]; omega), if_pos (by rw [pcs_length]; omega)]
    · rw [pcs_snoc, ext_clip s _ (n * i + n) h2]
      exact Ev.now _
  | succ d ih =>
    intro i hd hi
    have hh := ih (i + 1) (by omega) (by omega)
    have hle : n * (i + 1) ≤ n * m := Nat.mul_le_mul_left n (by omega)
    rw [Nat.mul_succ] at hle
    rw [pcs_snoc, Nat.mul_succ] at hh
    refine Ev.step (fun k => ?_) hh
    simp only [octets_Pieces.l0]
    rw [if_pos (by rw [ByteArray.size_extract]; omega), if_pos (by omega), if_pos (by rw [ByteArray.size_extract]; omega), if_pos (by rw [pcs_length]; omega), Int.toNat_natCast, ext_ext, ext_tail]
/-- Any text's pieces. -/
theorem piecesG (n : Nat) (hn : 0 < n) (hn2 : n ≤ 1000) (s : ByteArray) (m : Nat) (h1 : n * m < s.size) (h2 : s.size ≤ n * m + n) (hm : m < 1000000) : Ev (fun k => octets_Pieces.f k s (n : Int)) (pcs n (m + 1) s) := by
  have hd : s.size / n ≤ s.size := Nat.div_le_self _ _
  have hb : n * m ≤ 1000 * m := Nat.mul_le_mul_right m hn2
  have e : ((s.size : Int) / (n : Int)) = ((s.size / n : Nat) : Int) := by rw [Int.natCast_ediv]
  unfold octets_Pieces.f
  refine evn (by omega) ?_
  rw [toList_ne (by omega)]
  have hh := piecesGL n s m h1 h2 hm _ 0 rfl (by omega)
  rw [Nat.mul_zero, ext_all] at hh
  refine Ev.step (fun k => ?_) hh
  simp only [octets_Pieces.j0]
  rw [if_neg (by simp), if_neg (by omega), e]
  generalize s.size / n = q at *
  rw [wrap_id (x := (q : Int)) (by omega) (by omega), wrap_id (by omega) (by omega), if_pos (by omega), if_pos (by omega)]
  rfl
theorem pieces0 (n : Int) : Ev (fun k => octets_Pieces.f k ⟨#[]⟩ n) [] := by
  unfold octets_Pieces.f
  by_cases h : n < 1
  · exact evp h (Ev.step (f := fun _ => some []) (fun k => by simp only [octets_Pieces.j0]; rw [if_pos True.intro]) (Ev.now _))
  · exact evn h (Ev.step (f := fun _ => some []) (fun k => by simp only [octets_Pieces.j0]; rw [if_pos (by decide +kernel)]) (Ev.now _))
def zeros (z : Nat) : ByteArray := mkB (List.replicate z 0)
def padT (s : ByteArray) (n : Nat) : ByteArray := s ++ zeros ((n - s.size % n) % n)
theorem zeros_c (z : Nat) (hz : z ≤ 65552) : octets_Zeros.f (z : Int) = some (zeros z) := by
  unfold octets_Zeros.f
  by_cases h : z = 0
  · subst h; rw [if_pos (by decide)]; rfl
  · rw [if_neg (by omega), if_neg (by omega), if_pos (by omega), if_pos (by omega), Int.toNat_natCast]
    unfold zeros
    rw [← strOfNums_cast, List.map_replicate]
    rfl
theorem zeros_size (z : Nat) : (zeros z).size = z := by unfold zeros; rw [mkB_size, List.length_replicate]
theorem pad_c (s : ByteArray) (n : Nat) (h1 : 1 ≤ n) (h2 : n ≤ 65535) (hs : s.size < 1000000000) : octets_Pad.f s (n : Int) = some (padT s n) := by
  have hm : s.size % n < n := Nat.mod_lt _ h1
  have hz : (n - s.size % n) % n < n := Nat.mod_lt _ h1
  have e : Int.tmod (wrap64 ((n : Int) - ((s.size : Int) % (n : Int)))) (n : Int) = (((n - s.size % n) % n : Nat) : Int) := by
    rw [show (s.size : Int) % (n : Int) = ((s.size % n : Nat) : Int) from (Int.natCast_emod _ _).symm]
    generalize s.size % n = q at *
    rw [wrap_id (by omega) (by omega), show ((n : Int) - (q : Int)) = ((n - q : Nat) : Int) by omega, Int.tmod_eq_emod_of_nonneg (by omega), ← Int.natCast_emod]
  unfold octets_Pad.f
  rw [if_neg (by omega), if_neg (by omega), if_neg (by omega), e, zeros_c _ (by omega)]
  simp only [Option.bind_some]
  rw [if_pos (by rw [zeros_size]; omega)]
  rfl
end Go.Proofs.Ytokkhnjedmlbhaa.M
end
