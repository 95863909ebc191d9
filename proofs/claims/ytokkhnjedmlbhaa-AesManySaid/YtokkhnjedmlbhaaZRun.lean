-- several texts in one (by the session's program shake.py)
import Derived.Test.YtokkhnjedmlbhaaZFieldP
import Derived.Test.YtokkhnjedmlbhaaZKeysA
import Derived.Test.YtokkhnjedmlbhaaZAesAdd
import Derived.Test.YtokkhnjedmlbhaaZPrg01x
import Derived.Test.YtokkhnjedmlbhaaZPrg06
import Derived.Test.YtokkhnjedmlbhaaZPrg08
import Derived.Test.YtokkhnjedmlbhaaZSubW
import Derived.RegionTactic
import Derived.Laws.CopyOwn
import Derived.ChangeAlike
import Derived.Test.YtokkhnjedmlbhaaZAesEnc
section
namespace Go.Proofs.Ytokkhnjedmlbhaa.Pr
open Go.RowKit Go.Proofs.YtokkhnjedmlbhaaW.PrintWords Go.Proofs.YtokkhnjedmlbhaaW.PrintLast Go.Proofs.YtokkhnjedmlbhaaW.PrintMore
attribute [local go_sem] max2_int min2_int max_two min_two max_three min_three max_four min_four   -- for this text's walks alone
set_option linter.unusedVariables false
set_option linter.unusedSimpArgs false

def slices_Equal_string_string.l0 : Nat → List ByteArray → List ByteArray → Int → Int → Option (Bool)
 | 0, _, _, _, _ => none
 | k + 1, x0, x1, x12, x13 => if x13 < x12 then (if 0 ≤ x13 then (if x13 < (x0.length : Int) then (if x13 < (x1.length : Int) then (if (rdOf ByteArray.empty x0 x13).toList = (rdOf ByteArray.empty x1 x13).toList then (slices_Equal_string_string.l0 k x0 x1 x12 (wrap64 (x13 + 1))) else (some false)) else (none)) else (none)) else (none)) else (some true)
def slices_Equal_string_string.f (k : Nat) (l0 : List ByteArray) (l1 : List ByteArray) : Option (Bool) := if (l0.length : Int) = (l1.length : Int) then (slices_Equal_string_string.l0 k l0 l1 (l0.length : Int) 0) else (some false)
theorem slices_Equal_string_string.mono_l : ∀ k, (∀ y1 y2 y3 y4, LeO (slices_Equal_string_string.l0 k y1 y2 y3 y4) (slices_Equal_string_string.l0 (k + 1) y1 y2 y3 y4))
 | 0 => fun _ _ _ _ r h => by simp [slices_Equal_string_string.l0] at h
 | k + 1 => by
  have ih0 := slices_Equal_string_string.mono_l k
  ·intro y1 y2 y3 y4
   unfold slices_Equal_string_string.l0
   repeat' first
   | (with_reducible exact ih0 _ _ _ _)
   | (with_reducible exact LeO.refl _)
   | (with_reducible exact LeO.none _)
   | (with_reducible refine LeO.ite ?_ ?_)
   | (with_reducible refine LeO.bind ?_ (fun _ => ?_))
theorem slices_Equal_string_string.mono : ∀ a0 a1 k, LeO (slices_Equal_string_string.f k a0 a1) (slices_Equal_string_string.f (k + 1) a0 a1) := by
 intro a0 a1 k
 have ih0 := slices_Equal_string_string.mono_l k
 unfold slices_Equal_string_string.f
 repeat' first
   | (with_reducible exact ih0 _ _ _ _)
   | (with_reducible exact LeO.refl _)
   | (with_reducible exact LeO.none _)
   | (with_reducible refine LeO.ite ?_ ?_)
   | (with_reducible refine LeO.bind ?_ (fun _ => ?_))
end Go.Proofs.Ytokkhnjedmlbhaa.Pr
end
section
namespace Go.Proofs.Ytokkhnjedmlbhaa.M
open Go.RowKit Go.Proofs.Ytokkhnjedmlbhaa.Pr Go.Proofs.YtokkhnjedmlbhaaW.PrintWords Go.Proofs.YtokkhnjedmlbhaaW.PrintLast Go.Proofs.YtokkhnjedmlbhaaW.PrintMore Go.Proofs.YtokkhnjedmlbhaaGf
set_option linter.unusedSimpArgs false
def rndI (n : Int) : Int := if n = 16 then 10 else if n = 24 then 12 else if n = 32 then 14 else 0
theorem rounds_i (n : Int) : sched_Rounds.f n = some (rndI n) := by
  unfold sched_Rounds.f rndI
  by_cases h1 : n = 16
  · subst h1; decide +kernel
  · rw [if_neg h1, if_neg h1]
    by_cases h2 : n = 24
    · subst h2; decide +kernel
    · rw [if_neg h2, if_neg h2]
      by_cases h3 : n = 32
      · subst h3; decide +kernel
      · rw [if_neg h3, if_neg h3]
theorem rrounds_i (n : Int) : clavigerref08_Rounds.f n = some (rndI n) := by
  unfold clavigerref08_Rounds.f rndI
  by_cases h1 : n = 16
  · subst h1; decide +kernel
  · rw [if_neg h1, if_neg h1]
    by_cases h2 : n = 24
    · subst h2; decide +kernel
    · rw [if_neg h2, if_neg h2]
      by_cases h3 : n = 32
      · subst h3; decide +kernel
      · rw [if_neg h3, if_neg h3]
theorem rnd_ok {key : ByteArray} (h : okN key.size) : rndI (key.size : Int) = ((key.size / 4 + 6 : Nat) : Int) := by
  unfold rndI
  rcases h with h | h | h <;> rw [h] <;> rfl
theorem rnd_no {key : ByteArray} (h : ¬ okN key.size) : rndI (key.size : Int) = 0 := by
  unfold okN at h
  unfold rndI
  rw [if_neg (by omega), if_neg (by omega), if_neg (by omega)]
theorem rdO (l : List ByteArray) (i : Nat) : rdOf ByteArray.empty l (i : Int) = l.getD i ByteArray.empty := rfl
theorem put4 {u : Nat} (_hu : u < 4294967296) : octets_Put.f (u : Int) 4 = some (wB u) := by
  unfold octets_Put.f
  rw [if_neg (by decide), if_neg (by decide)]
  rfl
theorem drop_cons {l : List Nat} {i : Nat} (h : i < l.length) : l.drop i = l.getD i 0 :: l.drop (i + 1) := by
  rw [List.drop_eq_getElem_cons h]
  simp [List.getD_eq_getElem?_getD, h]
theorem wordsL (us : List Nat) (hl : us.length ≤ 1000) (hu : ∀ u ∈ us, u < 4294967296) (d : Nat) : ∀ (i : Nat) (out : List ByteArray), us.length - i = d → i ≤ us.length → out.length ≤ i → Ev (fun k => sched_Words.l0 k out (us.map Int.ofNat) (us.length : Int) (i : Int)) (out ++ (us.drop i).map wB) := by
  induction d with
  | zero =>
    intro i out hd hi ho
    refine Ev.step (f := fun _ => some out) (fun k => ?_) ?_
    · simp only [sched_Words.l0]
      rw [if_neg (by omega)]
    · rw [List.drop_of_length_le (by omega), List.map_nil, List.append_nil]
      exact Ev.now _
  | succ d ih =>
    intro i out hd hi ho
    have hh := ih (i + 1) (out ++ [wB (us.getD i 0)]) (by omega) (by omega) (by rw [List.length_append, List.length_singleton]; omega)
    have hv := getD_lt hu i
    rw [List.append_assoc, List.singleton_append, ← List.map_cons, ← drop_cons (by omega)] at hh
    refine Ev.step (fun k => ?_) hh
    simp only [sched_Words.l0]
    rw [if_pos (by omega), if_pos (by omega), if_pos (by rw [List.length_map]; omega), rd_cast, show IntKind.u64.wrap ((us.getD i 0 : Nat) : Int) = ((us.getD i 0 : Nat) : Int) by rw [IntKind.wrap_u64]; omega, put4 hv]
    simp only [Option.bind_some]
    rw [if_pos (by omega), wrap_id (by omega) (by omega)]
    rfl
theorem sT_size : (mkB sT).size = 256 := by rw [mkB_size]; simp [sT]
theorem expF_c (n : Nat) (hn : n = 4 ∨ n = 6 ∨ n = 8) (key : ByteArray) (h : key.size = 4 * n) : ∃ vs : List Nat, Ev (fun k => expF k n key) (vs.map Int.ofNat) ∧ vs.map wB = wordsB key ∧ (∀ u ∈ vs, u < 4294967296) ∧ vs.length = 4 * n + 28 := by
  obtain ⟨us, h1, h2, h3⟩ := expL1_c (pcs 4 n key) [] (pcs_size (by omega)) (fun u hu => by cases hu)
  have hl : us.length = n := by have := congrArg List.length h2; rw [List.length_map, List.length_append, List.length_map, pcs_length] at this; simpa using this
  obtain ⟨vs, g1, g2, g3, g4⟩ := expL2_c n hn (3 * n + 28) n us hl (Nat.le_refl _) (by omega) h3
  have hp : Ev (fun k => octets_Pieces.f k key 4) (pcs 4 n key) := pieces_m (n := 4) (by omega) (by omega) (by omega) h
  rw [show (n - 1) / n = 0 by rcases hn with rfl | rfl | rfl <;> rfl] at g1
  refine ⟨vs, ?_, ?_, g3, by omega⟩
  · unfold expF
    refine evb table_c (evp sT_size (evb hp (evp (pcs_length _ _ _) (evb h1 (evp (by rw [List.length_map]; exact hl) ?_)))))
    show Ev (fun _ => expL2 (mkB sT) n (3 * n + 28) n ((pw 2 0 : Nat) : Int) (us.map Int.ofNat)) _
    rw [g1]
    exact Ev.now _
  · rw [g2, h2, List.map_nil, List.nil_append]
    unfold wordsB
    rw [h, show 4 * n / 4 = n by omega]
theorem expand_c {key : ByteArray} (h : okN key.size) : ∃ vs : List Nat, Ev (fun k => sched_expand.f k key) (vs.map Int.ofNat) ∧ vs.map wB = wordsB key ∧ (∀ u ∈ vs, u < 4294967296) ∧ vs.length = 4 * (key.size / 4) + 28 := by
  unfold sched_expand.f
  rcases h with h | h | h
  · obtain ⟨vs, g1, g2, g3, g4⟩ := expF_c 4 (by omega) key (by omega)
    exact ⟨vs, evp h g1, g2, g3, by omega⟩
  · obtain ⟨vs, g1, g2, g3, g4⟩ := expF_c 6 (by omega) key (by omega)
    exact ⟨vs, evn (by omega) (evp h g1), g2, g3, by omega⟩
  · obtain ⟨vs, g1, g2, g3, g4⟩ := expF_c 8 (by omega) key (by omega)
    exact ⟨vs, evn (by omega) (evn (by omega) (evp h g1)), g2, g3, by omega⟩
def wordsT (key : ByteArray) : List ByteArray := if okN key.size then wordsB key else []
theorem words_c (key : ByteArray) : Ev (fun k => sched_Words.f k key) (wordsT key) := by
  unfold wordsT
  by_cases h : okN key.size
  · rw [if_pos h]
    obtain ⟨vs, g1, g2, g3, g4⟩ := expand_c h
    have hb : vs.length ≤ 1000 := by rcases h with h | h | h <;> omega
    unfold sched_Words.f
    refine evb g1 ?_
    have := wordsL vs hb g3 _ 0 [] rfl (by omega) (by simp)
    rw [List.drop_zero, List.nil_append, g2] at this
    rw [List.length_map]
    exact this
  · rw [if_neg h]
    unfold okN at h
    unfold sched_Words.f
    have e : ∀ k, sched_expand.f k key = some [] := fun k => by unfold sched_expand.f; rw [if_neg (by omega), if_neg (by omega), if_neg (by omega)]
    simp only [e, Option.bind_some]
    exact Ev.step (f := fun _ => some []) (fun k => by simp only [sched_Words.l0]; rw [if_neg (by simp)]) (Ev.now _)
theorem ks_ne {key : ByteArray} (h : okN key.size) : ∃ a l, ksB key = a :: l := by
  have := (ks_len h).1
  cases e : ksB key with
  | nil => rw [e] at this; simp at this
  | cons a l => exact ⟨a, l, rfl⟩
theorem keys_c {key : ByteArray} (h : okN key.size) : Ev (fun k => sched_Keys.f k key) (ksB key, 0) := by
  have hw := words_c key
  rw [wordsT, if_pos h] at hw
  obtain ⟨f1, f2, f3, _⟩ := ks_facts h
  obtain ⟨w1, w2, _⟩ := words_facts h
  have hc : (catB (wordsB key)).size = 4 * (wordsB key).length := cat_size 4 _ w2
  have hk : key.size ≤ 32 := by rcases h with h | h | h <;> omega
  obtain ⟨a, l, e⟩ := ks_ne h
  unfold sched_Keys.f
  refine evs (rounds_i _) (evn (by rw [rnd_ok h]; omega) (evb hw (evs (join_c _ (by omega) (by omega)) ?_)))
  rw [← f3, e]
  rw [e] at f1 f2 f3
  rw [List.length_cons] at f1
  refine evb (pieces_c 16 (by omega) (by omega) a l f2 (by omega) (by rw [f3]; omega)) (Ev.now _)
theorem keys_n {key : ByteArray} (h : ¬ okN key.size) : Ev (fun k => sched_Keys.f k key) ([], 2) := by
  unfold sched_Keys.f
  exact evs (rounds_i _) (evp (rnd_no h) (Ev.now _))
theorem rconst_c (n : Int) (h1 : 1 ≤ n) (h2 : n ≤ 255) : Ev (fun k => clavigerref08_Constant.f k n) ((pw 2 (n.toNat - 1) : Nat) : Int) := by
  unfold clavigerref08_Constant.f
  refine evn (by omega) (evn (by omega) ?_)
  rw [wrap_id (by omega) (by omega)]
  refine evb (rpow_c (a := 2) (by omega) (n - 1)) ?_
  rw [show pw 2 (n.toNat - 1) = powI 2 (n - 1) by unfold powI; congr 1; omega]
  exact Ev.now _
theorem rw_step (key : ByteArray) (n : Nat) (hn : n = 4 ∨ n = 6 ∨ n = 8) (h : key.size = 4 * n) (i : Nat) (ws : List ByteArray) (hl : ws.length = i) (hi : n ≤ i) (hb : i < 4 * n + 28) (hs : allS 4 ws) (res : List ByteArray)
    (hr : Ev (fun k => clavigerref08_Words.l0 k key (ws ++ [stepB n i (ws.getD (i - n) ByteArray.empty) (ws.getD (i - 1) ByteArray.empty)]) (n : Int) ((i + 1 : Nat) : Int)) res) :
    Ev (fun k => clavigerref08_Words.l0 k key ws (n : Int) (i : Int)) res := by
  have h1 : wrap64 ((i : Int) - 1) = ((i - 1 : Nat) : Int) := by unfold wrap64; omega
  have h2 : wrap64 ((i : Int) - (n : Int)) = ((i - n : Nat) : Int) := by unfold wrap64; omega
  have h3 : wrap64 ((i : Int) + 1) = ((i + 1 : Nat) : Int) := by unfold wrap64; omega
  have h4 : Int.tmod (i : Int) (n : Int) = ((i % n : Nat) : Int) := by rw [Int.tmod_eq_emod_of_nonneg (by omega)]; omega
  have h5 : wrap64 (Int.tdiv (i : Int) (n : Int)) = ((i / n : Nat) : Int) := by
    rw [Int.tdiv_eq_ediv_of_nonneg (by omega), ← Int.natCast_ediv]
    have : i / n ≤ i := Nat.div_le_self _ _
    generalize i / n = q at *
    unfold wrap64; omega
  have h6 : Int.tmod (i : Int) 8 = ((i % 8 : Nat) : Int) := by rw [Int.tmod_eq_emod_of_nonneg (by omega)]; omega
  have hrn : rndI (key.size : Int) = ((n + 6 : Nat) : Int) := by rw [rnd_ok (by unfold okN; omega)]; congr 2; omega
  have h7 : wrap64 (wrap64 (4 * ((n + 6 : Nat) : Int)) + 4) = ((4 * n + 28 : Nat) : Int) := by rw [wrap_id (x := 4 * ((n + 6 : Nat) : Int)) (by omega) (by omega), wrap_id (by omega) (by omega)]; omega
  have ht := getD_size hs (j := i - 1) (by omega)
  have hq := getD_size hs (j := i - n) (by omega)
  generalize et : ws.getD (i - 1) ByteArray.empty = t at *
  generalize eq : ws.getD (i - n) ByteArray.empty = q at *
  have h8 : (t.extract 1 4).size = 3 := by rw [ByteArray.size_extract]; omega
  have h9 : (t.extract 0 1).size = 1 := by rw [ByteArray.size_extract]; omega
  by_cases hm : i % n = 0
  · have hd1 : 1 ≤ i / n := Nat.div_pos hi (by omega)
    have hd2 : i / n ≤ 60 := Nat.le_trans (Nat.div_le_self _ _) (by omega)
    have hc := rconst_c ((i / n : Nat) : Int) (by omega) (by omega)
    rw [Int.toNat_natCast] at hc
    refine Ev.step (f := fun k => (clavigerref06_Subs.f k (t.extract 1 4 ++ t.extract 0 1)).bind fun t215 => (clavigerref08_Constant.f k ((i / n : Nat) : Int)).bind fun t216 => (clavigerref01_Xor.f k t215 (strOfNums [t216, 0, 0, 0])).bind fun t220 => (clavigerref01_Xor.f k q t220).bind fun t222 => clavigerref08_Words.l0 k key (ws ++ [t222]) (n : Int) ((i + 1 : Nat) : Int)) (fun k => ?_) ?_
    · simp only [clavigerref08_Words.l0]
      rw [rrounds_i, Option.bind_some, hrn, h7, if_pos (by omega), if_neg (by omega), h1, h2, h3, h4, h5, rdO, rdO, et, eq]
      rw [if_pos (by omega), if_pos (by omega), if_neg (by omega), if_pos (by omega), if_pos (by omega), if_pos (by omega), if_pos (by omega), if_pos (by omega), if_pos (by omega)]
      simp only [show (0 : Int) ≤ ((i - n : Nat) : Int) from by omega, show ((i - n : Nat) : Int) < (ws.length : Int) from by omega, show ws.length < 8796093022208 from by omega, if_true]
    · refine evb (rSubs_c _ (by rw [ByteArray.size_append]; omega)) (evb hc ?_)
      have e : strOfNums [((pw 2 (i / n - 1) : Nat) : Int), 0, 0, 0] = mkB [pw 2 (i / n - 1), 0, 0, 0] := strOfNums_cast [pw 2 (i / n - 1), 0, 0, 0]
      rw [e]
      refine evb (rxor_c _ _ (by rw [mkB_size, List.length_map, nb_length, ByteArray.size_append]; omega) (by rw [mkB_size]; show 4 ≤ 140737488355328; omega)) (evb (rxor_c _ _ (by omega) (by rw [xorT_size, mkB_size, mkB_size]; show min _ 4 ≤ _; omega)) ?_)
      have e2 : stepB n i q t = xorT q (xorT (mkB ((nb (t.extract 1 4 ++ t.extract 0 1)).map sN)) (mkB [pw 2 (i / n - 1), 0, 0, 0])) := by unfold stepB; rw [if_pos hm]; rfl
      rw [← e2]
      exact hr
  · have hj : ∀ (b : Bool) (v : ByteArray), stepB n i q t = v → (b = true → v = xorT q (sbT t)) → (b = false → v = xorT q t) → Ev (fun k => clavigerref08_Words.j1 k key ws (n : Int) (i : Int) t b) res := by
      intro b v hv hv1 hv2
      cases b with
      | true =>
        refine Ev.step (f := fun k => (clavigerref06_Subs.f k t).bind fun t226 => (clavigerref01_Xor.f k q t226).bind fun t228 => clavigerref08_Words.l0 k key (ws ++ [t228]) (n : Int) ((i + 1 : Nat) : Int)) (fun k => ?_) ?_
        · simp only [clavigerref08_Words.j1]
          rw [h2, h3, rdO, eq]
          simp only [show (0 : Int) ≤ ((i - n : Nat) : Int) from by omega, show ((i - n : Nat) : Int) < (ws.length : Int) from by omega, show ws.length < 8796093022208 from by omega, if_true]
        · refine evb (rSubs_c _ (by omega)) (evb (rxor_c _ _ (by omega) (by rw [mkB_size, List.length_map, nb_length]; omega)) ?_)
          rw [← show v = xorT q (mkB ((nb t).map sN)) from hv1 rfl, ← hv]
          exact hr
      | false =>
        refine Ev.step (f := fun k => (clavigerref01_Xor.f k q t).bind fun t228 => clavigerref08_Words.l0 k key (ws ++ [t228]) (n : Int) ((i + 1 : Nat) : Int)) (fun k => ?_) ?_
        · simp only [clavigerref08_Words.j1]
          rw [if_neg (by simp), h2, h3, rdO, eq]
          simp only [show (0 : Int) ≤ ((i - n : Nat) : Int) from by omega, show ((i - n : Nat) : Int) < (ws.length : Int) from by omega, show ws.length < 8796093022208 from by omega, if_true]
        · refine evb (rxor_c _ _ (by omega) (by omega)) ?_
          rw [← hv2 rfl, ← hv]
          exact hr
    by_cases h8' : n = 8 ∧ i % 8 = 4
    · refine Ev.step (f := fun k => clavigerref08_Words.j1 k key ws (n : Int) (i : Int) t true) (fun k => ?_) (hj true _ rfl (fun _ => by unfold stepB; rw [if_neg hm, if_pos h8']) (fun h => by cases h))
      simp only [clavigerref08_Words.l0]
      rw [rrounds_i, Option.bind_some, hrn, h7, if_pos (by omega), if_neg (by omega), h1, h4, h6, rdO, et]
      rw [if_pos (by omega), if_pos (by omega), if_neg (by omega), if_neg (by omega), if_pos (by omega), show ((((i % 8 : Nat) : Int)) == 4) = true from beq_iff_eq.mpr (by omega)]
    · have hx : stepB n i q t = xorT q t := by unfold stepB; rw [if_neg hm, if_neg h8']
      refine Ev.step (f := fun k => clavigerref08_Words.j1 k key ws (n : Int) (i : Int) t false) (fun k => ?_) (hj false _ rfl (fun h => by cases h) (fun _ => hx))
      simp only [clavigerref08_Words.l0]
      rw [rrounds_i, Option.bind_some, hrn, h7, if_pos (by omega), if_neg (by omega), h1, h4, h6, rdO, et]
      rw [if_pos (by omega), if_pos (by omega), if_neg (by omega), if_neg (by omega)]
      by_cases h88 : n = 8
      · rw [if_pos (by omega), show ((((i % 8 : Nat) : Int)) == 4) = false from beq_eq_false_iff_ne.mpr (fun e => h8' ⟨h88, by omega⟩)]
      · rw [if_neg (by omega)]
theorem rw_go (key : ByteArray) (n : Nat) (hn : n = 4 ∨ n = 6 ∨ n = 8) (h : key.size = 4 * n) (d : Nat) : ∀ (i : Nat) (ws : List ByteArray), ws.length = i → n ≤ i → i + d = 4 * n + 28 → allS 4 ws → Ev (fun k => clavigerref08_Words.l0 k key ws (n : Int) (i : Int)) (goB n d i ws) := by
  induction d with
  | zero =>
    intro i ws hl hi hb hs
    have hrn : rndI (key.size : Int) = ((n + 6 : Nat) : Int) := by rw [rnd_ok (by unfold okN; omega)]; congr 2; omega
    have h7 : wrap64 (wrap64 (4 * ((n + 6 : Nat) : Int)) + 4) = ((4 * n + 28 : Nat) : Int) := by rw [wrap_id (x := 4 * ((n + 6 : Nat) : Int)) (by omega) (by omega), wrap_id (by omega) (by omega)]; omega
    refine Ev.step (f := fun _ => some ws) (fun k => ?_) (Ev.now _)
    simp only [clavigerref08_Words.l0]
    rw [rrounds_i, Option.bind_some, hrn, h7, if_neg (by omega)]
  | succ d ih =>
    intro i ws hl hi hb hs
    refine rw_step key n hn h i ws hl hi (by omega) hs _ ?_
    simp only [goB]
    refine ih (i + 1) _ (by rw [List.length_append, List.length_singleton, hl]) (by omega) (by omega) (fun x hx => ?_)
    rcases List.mem_append.1 hx with hx | hx
    · exact hs x hx
    · rw [List.mem_singleton.1 hx]
      exact stepB_size n i (getD_size hs (by omega)) (getD_size hs (by omega))
theorem rw_first (key : ByteArray) (n : Nat) (hn : n = 4 ∨ n = 6 ∨ n = 8) (h : key.size = 4 * n) (res : List ByteArray) (hr : Ev (fun k => clavigerref08_Words.l0 k key (pcs 4 n key) (n : Int) (n : Int)) res) (d : Nat) : ∀ i, n - i = d → i ≤ n → Ev (fun k => clavigerref08_Words.l0 k key (pcs 4 i key) (n : Int) (i : Int)) res := by
  induction d with
  | zero =>
    intro i hd hi
    obtain rfl : i = n := by omega
    exact hr
  | succ d ih =>
    intro i hd hi
    have hrn : rndI (key.size : Int) = ((n + 6 : Nat) : Int) := by rw [rnd_ok (by unfold okN; omega)]; congr 2; omega
    have h7 : wrap64 (wrap64 (4 * ((n + 6 : Nat) : Int)) + 4) = ((4 * n + 28 : Nat) : Int) := by rw [wrap_id (x := 4 * ((n + 6 : Nat) : Int)) (by omega) (by omega), wrap_id (by omega) (by omega)]; omega
    have h3 : wrap64 ((i : Int) + 1) = ((i + 1 : Nat) : Int) := by unfold wrap64; omega
    have h4 : wrap64 (4 * (i : Int)) = ((4 * i : Nat) : Int) := by unfold wrap64; omega
    have h5 : wrap64 (((4 * i : Nat) : Int) + 4) = ((4 * i + 4 : Nat) : Int) := by unfold wrap64; omega
    have e : pcs 4 (i + 1) key = pcs 4 i key ++ [key.extract (4 * i) (4 * i + 4)] := by
      unfold pcs; rw [List.range_succ, List.map_append]; rfl
    have hh := ih (i + 1) (by omega) (by omega)
    rw [e] at hh
    refine Ev.step (fun k => ?_) hh
    simp only [clavigerref08_Words.l0]
    rw [rrounds_i, Option.bind_some, hrn, h7, if_pos (by omega), if_pos (by omega), h4, h5, h3, if_pos (by omega), if_pos (by omega), if_pos (by omega), if_pos (by rw [pcs_length]; omega), Int.toNat_natCast, Int.toNat_natCast]
theorem rwords_c (key : ByteArray) : Ev (fun k => clavigerref08_Words.f k key) (wordsT key) := by
  unfold clavigerref08_Words.f wordsT
  by_cases h : okN key.size
  · rw [if_pos h]
    have h4 : key.size = 4 * (key.size / 4) := by rcases h with h | h | h <;> omega
    have hn : key.size / 4 = 4 ∨ key.size / 4 = 6 ∨ key.size / 4 = 8 := by rcases h with h | h | h <;> omega
    refine evs (rrounds_i _) (evn (by rw [rnd_ok h]; omega) ?_)
    rw [show wrap64 ((key.size : Int) / 4) = ((key.size / 4 : Nat) : Int) by unfold wrap64; omega]
    have hp := pcs_size (n := 4) (m := key.size / 4) (s := key) (by omega)
    have := rw_first key (key.size / 4) hn h4 (wordsB key) (rw_go key _ hn h4 (3 * (key.size / 4) + 28) _ _ (pcs_length _ _ _) (Nat.le_refl _) (by omega) hp) _ 0 rfl (by omega)
    exact this
  · rw [if_neg h]
    exact evs (rrounds_i _) (evp (rnd_no h) (Ev.now _))
theorem quads_get : ∀ (j : Nat) (l : List ByteArray), 4 * j + 3 < l.length → quads l = quads (l.take (4 * j)) ++ (((l.getD (4 * j) ByteArray.empty ++ l.getD (4 * j + 1) ByteArray.empty) ++ l.getD (4 * j + 2) ByteArray.empty) ++ l.getD (4 * j + 3) ByteArray.empty) :: quads (l.drop (4 * j + 4))
  | 0, a :: b :: c :: d :: l, _ => by simp [quads, ByteArray.append_assoc]
  | j + 1, a :: b :: c :: d :: l, h => by
    have := quads_get j l (by simp at h; omega)
    rw [show 4 * (j + 1) = 4 * j + 1 + 1 + 1 + 1 by omega]
    simp only [List.take_succ_cons, quads, List.cons_append]
    rw [this]
    rfl
theorem quads_take (l : List ByteArray) (j : Nat) (h : 4 * j + 3 < l.length) : quads (l.take (4 * (j + 1))) = quads (l.take (4 * j)) ++ [((l.getD (4 * j) ByteArray.empty ++ l.getD (4 * j + 1) ByteArray.empty) ++ l.getD (4 * j + 2) ByteArray.empty) ++ l.getD (4 * j + 3) ByteArray.empty] := by
  have hlen : (l.take (4 * (j + 1))).length = 4 * j + 4 := by rw [List.length_take]; omega
  have e := quads_get j (l.take (4 * (j + 1))) (by omega)
  rw [List.drop_of_length_le (by omega), List.take_take, show min (4 * j) (4 * (j + 1)) = 4 * j by omega] at e
  rw [e]
  have g : ∀ q, q < 4 * j + 4 → (l.take (4 * (j + 1))).getD q ByteArray.empty = l.getD q ByteArray.empty := fun q hq => by
    rw [List.getD_eq_getElem?_getD, List.getD_eq_getElem?_getD, List.getElem?_take_of_lt (by omega)]
  rw [g _ (by omega), g _ (by omega), g _ (by omega), g _ (by omega)]
  rfl
theorem rkeysL (l : List ByteArray) (m : Nat) (hl : l.length = 4 * m) (hm : m ≤ 100) (hs : allS 4 l) (d : Nat) : ∀ j, m - j = d → j ≤ m → Ev (fun k => clavigerref08_Keys.l0 k l (quads (l.take (4 * j))) ((4 * j : Nat) : Int)) (quads l, 0) := by
  induction d with
  | zero =>
    intro j hd hj
    obtain rfl : j = m := by omega
    refine Ev.step (f := fun _ => some (quads l, 0)) (fun k => ?_) (Ev.now _)
    simp only [clavigerref08_Keys.l0]
    rw [if_neg (by omega), List.take_of_length_le (by omega)]
  | succ d ih =>
    intro j hd hj
    have hh := ih (j + 1) (by omega) (by omega)
    rw [quads_take l j (by omega)] at hh
    have e1 : wrap64 (((4 * j : Nat) : Int) + 1) = ((4 * j + 1 : Nat) : Int) := by unfold wrap64; omega
    have e2 : wrap64 (((4 * j : Nat) : Int) + 2) = ((4 * j + 2 : Nat) : Int) := by unfold wrap64; omega
    have e3 : wrap64 (((4 * j : Nat) : Int) + 3) = ((4 * j + 3 : Nat) : Int) := by unfold wrap64; omega
    have e4 : wrap64 (((4 * j : Nat) : Int) + 4) = ((4 * (j + 1) : Nat) : Int) := by unfold wrap64; omega
    have s0 := getD_size hs (j := 4 * j) (by omega)
    have s1 := getD_size hs (j := 4 * j + 1) (by omega)
    have s2 := getD_size hs (j := 4 * j + 2) (by omega)
    have s3 := getD_size hs (j := 4 * j + 3) (by omega)
    have hq : (quads (l.take (4 * j))).length = j := (quads_all j _ (by rw [List.length_take]; omega) (fun x hx => hs x (List.mem_of_mem_take hx))).2.1
    refine Ev.step (fun k => ?_) hh
    simp only [clavigerref08_Keys.l0, e1, e2, e3, e4, rdO, ByteArray.size_append, s0, s1, s2, s3]
    rw [if_pos (by omega), if_pos (by omega), if_pos (by omega), if_pos (by omega), if_pos (by omega), if_pos (by omega), if_pos (by omega), if_pos (by omega), if_pos (by omega), if_pos (by omega), if_pos (by omega), if_pos (by omega)]
theorem rkeys_c {key : ByteArray} (h : okN key.size) : Ev (fun k => clavigerref08_Keys.f k key) (ksB key, 0) := by
  have hw := rwords_c key
  rw [wordsT, if_pos h] at hw
  obtain ⟨w1, w2, _⟩ := words_facts h
  have hk : key.size ≤ 32 := by rcases h with h | h | h <;> omega
  unfold clavigerref08_Keys.f
  refine evs (rrounds_i _) (evn (by rw [rnd_ok h]; omega) (evb hw ?_))
  exact rkeysL (wordsB key) _ w1 (by omega) w2 _ 0 rfl (by omega)
theorem rkeys_n {key : ByteArray} (h : ¬ okN key.size) : Ev (fun k => clavigerref08_Keys.f k key) ([], 2) := by
  unfold clavigerref08_Keys.f
  exact evs (rrounds_i _) (evp (rnd_no h) (Ev.now _))
end Go.Proofs.Ytokkhnjedmlbhaa.M
end
section
namespace Go.Proofs.Ytokkhnjedmlbhaa.M
def encR (key s : ByteArray) : ByteArray × Int := if s.size = 16 then (encT (ksB key) s, 0) else (⟨#[]⟩, 4)
def decR (key s : ByteArray) : ByteArray × Int := if s.size = 16 then (decT (ksB key) s, 0) else (⟨#[]⟩, 4)
end Go.Proofs.Ytokkhnjedmlbhaa.M
namespace Go.Proofs.Ytokkhnjedmlbhaa.Pr
open Go.RowKit Go.Proofs.YtokkhnjedmlbhaaW.PrintWords Go.Proofs.YtokkhnjedmlbhaaW.PrintLast Go.Proofs.YtokkhnjedmlbhaaW.PrintMore Go.Proofs.YtokkhnjedmlbhaaHw Go.Proofs.YtokkhnjedmlbhaaGf
/-- A cipher of a key in memory. -/
def IsK (w : World) (g : Nat) (key : ByteArray) : Prop := IsC w g key.size (M.ksB key)
theorem IsK.below {w w1 : World} {g : Nat} {key : ByteArray} (h : IsK w g key) (hb : Below w.heap.size w w1) : IsK w1 g key := IsC.below h hb
theorem new_ok (key : ByteArray) (w : World) (h : M.okN key.size) :
    Calls Try.prog 104 #[.string key] w fun e w' => ∃ g : Nat, e = .returned (.tuple #[.pointer (some ⟨g, 0, none⟩), .int .i64 0]) ∧ IsK w' g key ∧ Below w.heap.size w w' := by
  obtain ⟨k, hk⟩ := Ev.rounds (M.keys_c h)
  exact new_calls k key (M.ksB key) w hk (by have := (M.ks_len h).1; omega)
theorem new_bad (key : ByteArray) (w : World) (h : ¬ M.okN key.size) :
    Calls Try.prog 104 #[.string key] w fun e w' => e = .returned (.tuple #[.pointer none, .int .i64 2]) ∧ Below w.heap.size w w' := by
  obtain ⟨k, hk⟩ := Ev.rounds (M.keys_n h)
  exact new_err k key [] 2 w hk (by decide)
theorem enc_any (g : Nat) (key s : ByteArray) (w : World) (hC : IsK w g key) (hk : M.okN key.size) :
    Calls Try.prog 106 #[.pointer (some ⟨g, 0, none⟩), .string s] w fun e w' => e = .returned (.tuple #[.string (M.encR key s).1, .int .i64 (M.encR key s).2]) ∧ Below w.heap.size w w' := by
  unfold M.encR
  by_cases hs : s.size = 16
  · rw [if_pos hs]
    exact enc_calls g key.size (M.ksB key) s w hC hs (M.ks_len hk).1 (M.ks_len hk).2 (M.ks_facts hk).2.1
  · rw [if_neg hs]
    have HC : Aside0 (IsC w g key.size (M.ksB key)) := ⟨hC⟩
    have HS := Aside0.mk hs
    clear hC hs hk
    go_enter Try.func106, Try.ntmps106
    go_wp2_with (go_at_call 193; (with_reducible refine (may_size g _ _ s _ HC.out HS.out).mono ?_); rintro e w' ⟨rfl, hw'⟩; have hw2 := hw'.symm; subst hw2)
    go_ret2
    exact ⟨rfl, Below.refl _ _⟩
theorem dec_any (g : Nat) (key s : ByteArray) (w : World) (hC : IsK w g key) (hk : M.okN key.size) :
    Calls Try.prog 107 #[.pointer (some ⟨g, 0, none⟩), .string s] w fun e w' => e = .returned (.tuple #[.string (M.decR key s).1, .int .i64 (M.decR key s).2]) ∧ Below w.heap.size w w' := by
  unfold M.decR
  by_cases hs : s.size = 16
  · rw [if_pos hs]
    exact dec_calls g key.size (M.ksB key) s w hC hs (M.ks_len hk).1 (M.ks_len hk).2 (M.ks_facts hk).2.1
  · rw [if_neg hs]
    have HC : Aside0 (IsC w g key.size (M.ksB key)) := ⟨hC⟩
    have HS := Aside0.mk hs
    clear hC hs hk
    go_enter Try.func107, Try.ntmps107
    go_wp2
    refine scope_pass 0 (fun _ _ => False) (fun _ _ => 0) rfl (fun _ _ h => h.elim) ?_
    intro _
    go_wp2_with (go_at_call 193; (with_reducible refine (may_size g _ _ s _ HC.out HS.out).mono ?_); rintro e w' ⟨rfl, hw'⟩; have hw2 := hw'.symm; subst hw2)
    simp only [Exit.jump]
    go_ret2
    exact ⟨rfl, Below.refl _ _⟩
def aes_Encrypt.f (a0 a1 : ByteArray) : Option (ByteArray × Int) := some (if M.okN a0.size then M.encR a0 a1 else (⟨#[]⟩, 2))
theorem aes_Encrypt.calls (a0 a1 : ByteArray) (r0 : ByteArray) (r1 : Int) (w : World) (h : aes_Encrypt.f a0 a1 = some (r0, r1)) :
    Calls Try.prog 98 #[.string a0, .string a1] w fun e w' => e = .returned (.tuple #[.string r0, .int .i64 r1]) ∧ Below w.heap.size w w' := by
  unfold aes_Encrypt.f at h
  by_cases hk : M.okN a0.size
  · rw [if_pos hk] at h
    obtain ⟨rfl, rfl⟩ : (M.encR a0 a1).1 = r0 ∧ (M.encR a0 a1).2 = r1 := by rw [Option.some.inj h]; exact ⟨rfl, rfl⟩
    have HK := Aside0.mk hk
    clear h hk
    go_enter Try.func98, Try.ntmps98
    go_wp2_with (first | (go_at_call 104; (with_reducible refine (new_ok _ _ HK.out).mono ?_); rintro e w1 ⟨g, rfl, hC, hb1⟩; have HC := Aside0.mk hC; have HB := Aside0.mk hb1; clear hC hb1) | (go_at_call 106; (with_reducible refine (enc_any g a0 a1 _ HC.out HK.out).mono ?_); rintro e w2 ⟨rfl, hb2⟩; have HB2 := Aside0.mk (below_then HB.out HB.out.size hb2); clear hb2))
    go_ret2
    exact ⟨rfl, HB2.out⟩
  · rw [if_neg hk] at h
    obtain ⟨rfl, rfl⟩ := Prod.mk.inj (Option.some.inj h)
    have HK := Aside0.mk hk
    clear h hk
    go_enter Try.func98, Try.ntmps98
    go_wp2_with (go_at_call 104; (with_reducible refine (new_bad _ _ HK.out).mono ?_); rintro e w1 ⟨rfl, hb1⟩; have HB := Aside0.mk hb1; clear hb1)
    go_ret2
    exact ⟨rfl, HB.out⟩
def aes_Decrypt.f (a0 a1 : ByteArray) : Option (ByteArray × Int) := some (if M.okN a0.size then M.decR a0 a1 else (⟨#[]⟩, 2))
end Go.Proofs.Ytokkhnjedmlbhaa.Pr
end
section
namespace Go.Proofs.Ytokkhnjedmlbhaa.Pr
open Go.RowKit Go.Proofs.YtokkhnjedmlbhaaW.PrintWords Go.Proofs.YtokkhnjedmlbhaaW.PrintLast Go.Proofs.YtokkhnjedmlbhaaW.PrintMore Go.Proofs.YtokkhnjedmlbhaaHw
attribute [local go_sem] max2_int min2_int max_two min_two max_three min_three max_four min_four
/-- What lies in the row behind k rounds. -/
def xorRow (a b : ByteArray) (m k : Nat) : List Int := (List.range m).map fun i => if i < k then Go.bits .xor .u8 (bt a i) (bt b i) else bt a i
theorem xorRow_length (a b : ByteArray) (m k : Nat) : (xorRow a b m k).length = m := by simp [xorRow]
theorem xorRow_zero (a b : ByteArray) (m : Nat) (h : m ≤ a.size) : (Lib.byteCells a.data.toList).take m = (xorRow a b m 0).map (Value.int .u8) := by
  apply List.ext_getElem
  · rw [List.length_take, Lib.byteCells_length, List.length_map, xorRow_length, ← Lib.size_eq]; omega
  · intro i h1 h2
    have hi : i < m := by simpa [xorRow] using h2
    simp only [List.getElem_take, Lib.byteCells, List.getElem_map, xorRow, List.getElem_range, Nat.not_lt_zero, if_false]
    rw [← bt_at a (i : Int) (by simp; omega)]
    rfl
theorem xorRow_get (a b : ByteArray) (m k : Nat) (h : k < m) : ((xorRow a b m k).map (Value.int .u8)).toArray[k]? = some (.int .u8 (bt a k)) := by
  simp [xorRow, h]
theorem xorRow_set (a b : ByteArray) (m k : Nat) : ((xorRow a b m k).map (Value.int .u8)).toArray.setIfInBounds k (.int .u8 (Go.bits .xor .u8 (bt a k) (bt b k))) = ((xorRow a b m (k + 1)).map (Value.int .u8)).toArray := by
  apply Array.ext'
  simp only [Array.toList_setIfInBounds]
  apply List.ext_getElem
  · simp [xorRow]
  · intro i h1 h2
    have hi : i < m := by simpa [xorRow] using h2
    rw [List.getElem_set]
    by_cases e : k = i
    · subst e; simp [xorRow]
    · rw [if_neg e]
      simp only [List.getElem_map, xorRow, List.getElem_range]
      have : (i < k) = (i < k + 1) := by apply propext; omega
      simp only [this]
def octets_Xor.f (a b : ByteArray) : Option ByteArray := if min a.size b.size ≤ 281474976710656 then some (strOfNums (xorRow a b (min a.size b.size) (min a.size b.size))) else none
set_option maxHeartbeats 1000000 in
theorem octets_Xor.loop (a b : ByteArray) (m : Nat) (w : World) (hm : m ≤ 281474976710656) (ha : m ≤ a.size) (hb : m ≤ b.size) (hmin : (if (b.size : Int) < (a.size : Int) then (b.size : Int) else (a.size : Int)) = (m : Int)) (hmin2 : (if b.size < a.size then (b.size : Int) else (a.size : Int)) = (m : Int)) :
    Calls Try.prog 170 #[.string a, .string b] w fun e w' => e = .returned (.string (strOfNums (xorRow a b m m))) ∧ Below w.heap.size w w' := by
  have hmk := print_make (P := Try.prog) 66 5 .u8 1 Try.underlying66 (by kernel_rfl) (by decide) m (by omega)
  have hcp : ∀ (ty : TypeId), (Builtin.copy_ #[66, 9] ty #[.slice (some ⟨w.heap.size, 0, none⟩) m m, .string a]).run Try.prog (w.alloc (.cells (madeCells #[.int .u8 0] m) 5)) = .ok (goInt m) ((w.alloc (.cells (madeCells #[.int .u8 0] m) 5)).setRow w.heap.size ((xorRow a b m 0).map (Value.int .u8)).toArray) := fun ty => by
    rw [← xorRow_zero a b m ha]
    exact run_copy_str (P := Try.prog) _ 66 9 ty 5 w.heap.size m m a _ 5 Try.underlying66 (by kernel_rfl) (heap_alloc_new w _) ha (by simp [size_madeCells])
  go_enter Try.func170, Try.ntmps170
  go_wp2
  clear hmk hcp
  have hbk := setRow_heap (w.alloc (.cells (madeCells #[.int .u8 0] m) 5)) w.heap.size _ ((xorRow a b m 0).map (Value.int .u8)).toArray 5 (0, 0) (heap_alloc_new w _)
  have hbl : Below w.heap.size w ((w.alloc (.cells (madeCells #[.int .u8 0] m) 5)).setRow w.heap.size ((xorRow a b m 0).map (Value.int .u8)).toArray) := below_setRow ((Below.refl _ _).alloc (Nat.le_refl _) _) (Nat.le_refl _) _
  have HK := Aside0.mk hbk
  have HL := Aside0.mk hbl
  clear hbk hbl hmin hmin2
  go_loopw [18] (fun i wr => ∃ k : Nat, k ≤ m ∧ i = .int .i64 k ∧ Aside0 (wr.heap[w.heap.size]? = some (.cells ((xorRow a b m k).map (Value.int .u8)).toArray 5 (0, 0))) ∧ Aside0 (Below w.heap.size w wr)) (fun i _ => m - (intOf i).toNat)
  case atStart => exact ⟨0, Nat.zero_le _, rfl, HK, HL⟩
  case round =>
    clear HK HL
    obtain ⟨k, hk, rfl, HK, HB⟩ := hrel
    by_cases hlt : k < m
    · have hc : wr.cell? ⟨w.heap.size, k, none⟩ = some (.int .u8 (bt a k)) := (blk_cell HK.out k).trans (xorRow_get a b m k hlt)
      have hf : wr.frozen? ⟨w.heap.size, k, none⟩ = false := blk_frozen HK.out k
      have hbi : k < b.size := by omega
      go_wp2
      go_region
      go_wp2
      have hbt : ((b[k]'hbi).toNat : Int) = bt b k := bt_at b (k : Int) (by simpa using hbi)
      rw [hbt]
      have hs : ((wr.setCell ⟨w.heap.size, k, none⟩ (.int .u8 (Go.bits .xor .u8 (bt a k) (bt b k)))).drew).heap[w.heap.size]? = some (.cells ((xorRow a b m (k + 1)).map (Value.int .u8)).toArray 5 (0, 0)) := by
        rw [← xorRow_set a b m k]
        exact blk_set HK.out k _
      exact ⟨⟨k + 1, hlt, by go_num, ⟨hs⟩, ⟨below_drew1 (below_set HB.out (Nat.le_refl _))⟩⟩, by simp [intOf]; omega⟩
    · obtain rfl : k = m := by omega
      have hcv := run_convert_bytes_arg (P := Try.prog) wr 66 5 Try.underlying66 Try.underlying5 w.heap.size 0 k k (xorRow a b k k) (xorRow_length a b k k) (fun i hi => by
        rw [Nat.zero_add, blk_cell HK.out i]
        simp [List.getD_eq_getElem?_getD, List.getElem?_eq_getElem (show i < (xorRow a b k k).length by rw [xorRow_length]; exact hi)]) 9 Try.underlying9
      go_wp2
      go_ret
      exact ⟨rfl, HB.out⟩
end Go.Proofs.Ytokkhnjedmlbhaa.Pr
end
section
namespace Go.Proofs.Ytokkhnjedmlbhaa.Pr
open Go.RowKit Go.Proofs.YtokkhnjedmlbhaaW.PrintWords Go.Proofs.YtokkhnjedmlbhaaW.PrintLast Go.Proofs.YtokkhnjedmlbhaaW.PrintMore Go.Proofs.YtokkhnjedmlbhaaHw Go.Proofs.YtokkhnjedmlbhaaGf
/-- A row of bytes, made behind w0, that holds t. -/
def OB (w0 W : World) (v : Value) (t : ByteArray) : Prop := W.ownsRow w0.heap.size 5 1 v (bytesOf t).length (nums .u8 (bytesOf t))
theorem bytesOf_app (a b : ByteArray) : bytesOf (a ++ b) = bytesOf a ++ bytesOf b := by rw [M.bytesOf_nb, M.bytesOf_nb, M.bytesOf_nb, M.nb_append, List.map_append]
theorem strOf_bytes (t : ByteArray) : strOfNums (bytesOf t) = t := by rw [M.bytesOf_nb, M.strOfNums_cast, M.mkB_nb]
theorem OB.text {w0 W : World} {v : Value} {t : ByteArray} (h : OB w0 W v t) : (convert 66 9 v).run Try.prog W = .ok (.string t) W := by
  have h2 := own_string (P := Try.prog) (src := 66) (dst := 9) (e := 5) Try.underlying66 Try.underlying5 Try.underlying9 h
  rwa [strOf_bytes] at h2
theorem OB.below {w0 w w1 : World} {v : Value} {t : ByteArray} (h : OB w0 w v t) (hb : Below w.heap.size w w1) : OB w0 w1 v t := own_move h (fun q hq => hb.block q (World.ownsRow.lt h q hq).2)
theorem OB.drewN {w0 w : World} {v : Value} {t : ByteArray} (h : OB w0 w v t) (n : Nat) : OB w0 (w.drewN n) v t := own_move h (fun _ _ => rfl)
theorem info8 : (Try.prog.info? 5).map (fun i => (i.zero, i.size, i.bytes)) = some (some (.int .u8 0), 1, 1) := by kernel_rfl
theorem make8 (n : Nat) (hn : n ≤ 281474976710656) (W : World) : (Instr.makeSlice 66 (.int .i64 0) (.int .i64 (n : Int))).run Try.prog W = .ok (.slice (some ⟨W.heap.size, 0, none⟩) 0 n) (W.alloc (.cells (madeCells #[.int .u8 0] n) 5)) := by
  obtain ⟨i0, hi, hz0, hz1, hz2⟩ := info_parts info8
  have h := run_make (P := Try.prog) W 66 5 i0 (.int .u8 0) Try.underlying66 hi hz0 .i64 .i64 0 (n : Int) (by omega) (by omega) (by rw [hz2]; omega) (by omega)
  simp only [Int.toNat_natCast, Int.toNat_zero, hz1, Nat.mul_one] at h
  exact h
theorem OB.made (w0 W : World) (n : Nat) (hn : n ≤ 281474976710656) (hB : w0.heap.size ≤ W.heap.size) : OB w0 (W.alloc (.cells (madeCells #[.int .u8 0] n) 5)) (.slice (some ⟨W.heap.size, 0, none⟩) 0 n) ⟨#[]⟩ := by
  have h := World.ownsRow_made (base := w0.heap.size) (e := 5) (size := 1) W (madeCells #[.int .u8 0] n) n hB (by simp only [maxLen]; omega) (by simp [size_madeCells])
  show World.ownsRow _ _ _ 1 _ 0 []
  simpa using h
/-- A row of texts at its value: nothing is said of an empty one's place. -/
def SR (W : World) (A : Option Addr) (ps : List ByteArray) : Prop := 0 < ps.length → ∃ g, A = some ⟨g, 0, none⟩ ∧ StrRow W g ps
theorem SR.of_R {w : World} {base : Nat} {ok : Nat → Prop} {v : Value} {ps : List ByteArray} (h : Kd.R Kd.string 9 w base ok v ps) : ∃ A c, v = .slice A ps.length c ∧ SR w A ps := by
  by_cases hn : 0 < ps.length
  · obtain ⟨g, cap, rfl, _, hS⟩ := StrRow.of_R h hn
    exact ⟨_, _, rfl, fun _ => ⟨g, rfl, hS⟩⟩
  · obtain ⟨A, c, rfl⟩ := Kd.R_slice h
    exact ⟨A, c, rfl, fun h2 => absurd h2 hn⟩
theorem StrRow.grown8 {w w1 : World} {g : Nat} {ps : List ByteArray} {w0 : World} {v : Value} {t : ByteArray} (h : StrRow w g ps) (ho : OB w0 w v t) (hg : w.grownBy w1 v.ownBlock) : StrRow w1 g ps := by
  refine h.same (hg.block g h.lt (fun e => ?_))
  obtain ⟨cells, hc⟩ := own_typed ho g e.symm
  obtain ⟨cur, h1, _⟩ := h
  rw [hc] at h1
  simp at h1
theorem SR.grown8 {w w1 : World} {A : Option Addr} {ps : List ByteArray} {w0 : World} {v : Value} {t : ByteArray} (h : SR w A ps) (ho : OB w0 w v t) (hg : w.grownBy w1 v.ownBlock) : SR w1 A ps := fun hn => by
  obtain ⟨g, e, hS⟩ := h hn
  exact ⟨g, e, hS.grown8 ho hg⟩
theorem SR.below {w w1 : World} {A : Option Addr} {ps : List ByteArray} (h : SR w A ps) (hb : Below w.heap.size w w1) : SR w1 A ps := fun hn => by
  obtain ⟨g, e, hS⟩ := h hn
  exact ⟨g, e, hS.below hb⟩
section
variable {P : Program} {ops : Array Oper} {rest : List Oper} {o : Oper} {a : Act} {Q : Exit → Act → World → Prop}
theorem OB.append {w0 W : World} (hgd : o.guard = none) (s x : Operand) (ho : o.op = .call { callee := .builtin .append, args := #[s, x], argTypes := #[66, 9] })
    (v : Value) (t y : ByteArray) (hs : a.eval s = v) (hx : a.eval x = .string y) (HO : OB w0 W v t) (HB : Below w0.heap.size w0 W) (hl : t.size + y.size ≤ 140737488355328)
    (h : ∀ v1 w1, OB w0 w1 v1 (t ++ y) → Below w0.heap.size w0 w1 → W.grownBy w1 v.ownBlock → wpList Try.prog ops Q rest (a.put o.dst v1) w1) : wpList Try.prog ops Q (o :: rest) a W := by
  refine print_append_str (w0 := w0) w0.heap.size hgd s x 66 9 5 ho Try.underlying66 Try.underlying9 info8 v (bytesOf t) y hs hx HO HB HB.size (by rw [bytesOf_length]; exact hl) ?_
  intro v1 w1 h1 h2 h3
  refine h v1 w1 ?_ h2 h3
  unfold OB
  rw [bytesOf_app]
  exact h1
end
end Go.Proofs.Ytokkhnjedmlbhaa.Pr
end
section
namespace Go.Proofs.Ytokkhnjedmlbhaa.M
open Go.RowKit Go.Proofs.Ytokkhnjedmlbhaa.Pr Go.Proofs.YtokkhnjedmlbhaaW.PrintWords Go.Proofs.YtokkhnjedmlbhaaW.PrintLast Go.Proofs.YtokkhnjedmlbhaaW.PrintMore Go.Proofs.YtokkhnjedmlbhaaGf
set_option linter.unusedSimpArgs false
/-- A number, written out ahead of what is made of it. -/
def fN {α : Type} (n : Nat) (f : Nat → α) : α := match n with
  | 0 => f 0
  | m + 1 => f (m + 1)
theorem fN_eq {α : Type} (n : Nat) (f : Nat → α) : fN n f = f n := by cases n <;> rfl
def fL {α : Type} : List Nat → (List Nat → α) → α
  | [], f => f []
  | a :: l, f => fN a fun a => fL l fun l => f (a :: l)
theorem fL_eq {α : Type} : ∀ (l : List Nat) (f : List Nat → α), fL l f = f l
  | [], _ => rfl
  | a :: l, f => by simp only [fL]; rw [fN_eq, fL_eq l]
def lf (l : List Nat) : Nat → Nat := fun i => l.getD i 0
theorem lf_lt {l : List Nat} (h : isB l) (i : Nat) : lf l i < 256 := isB_get h i
theorem lf_rng (g : Nat → Nat) (q : Nat) (hq : q < 16) : lf ((List.range 16).map g) q = g q := by simp [lf, hq]
theorem lf_T {l : List Nat} (hl : l.length = 16) : T (lf l) = mkB l := by
  unfold T
  congr 1
  apply List.ext_getElem (by simp [hl])
  intro i h1 h2
  simp [lf, h2]
theorem nb_T {g : Nat → Nat} (h : ∀ i, g i < 256) : nb (T g) = (List.range 16).map g := nb_mkB (isB_map h _)
def stepF {α : Type} (l k : List Nat) (last : Bool) (c : List Nat → α) : α :=
  fL ((List.range 16).map (F1 (lf l))) fun m => bif last then fL ((List.range 16).map fun q => lf m q ^^^ lf k q) c else fL ((List.range 16).map fun q => MX (lf m) q ^^^ lf k q) c
theorem stepF_eq {α : Type} {l k : List Nat} (hl : isB l) (hk : isB k) (hl2 : l.length = 16) (hk2 : k.length = 16) (last : Bool) (c : List Nat → α) : stepF l k last c = c (nb (doT (mkB l) (mkB k) last)) := by
  have hks : (mkB k).size = 16 := by rw [mkB_size, hk2]
  have e : ∀ q, bb (mkB k) q = lf k q := fun q => bb_mkB hk q
  unfold stepF
  rw [fL_eq, ← lf_T hl2]
  cases last
  · rw [do_mid (lf_lt hl) hks, cond_false, fL_eq, nb_T (fun i => xor_lt (MX_lt (F1_lt _) _) (bb_lt _ _))]
    congr 1
    refine List.map_congr_left (fun q hq => ?_)
    have hq := List.mem_range.1 hq
    rw [e, MX_congr (fun i hi => lf_rng (F1 (lf l)) i hi) hq]
  · rw [do_last (lf_lt hl) hks, cond_true, fL_eq, nb_T (fun i => xor_lt (F1_lt _ _) (bb_lt _ _))]
    congr 1
    refine List.map_congr_left (fun q hq => ?_)
    have hq := List.mem_range.1 hq
    rw [e, lf_rng _ q hq]
def fwdF {α : Type} : List (List Nat) → List Nat → (List Nat → α) → α
  | [], l, c => c l
  | k :: ks, l, c => stepF l k ks.isEmpty fun l => fwdF ks l c
def ok16 (k : List Nat) : Prop := isB k ∧ k.length = 16
theorem fwdF_eq {α : Type} : ∀ (ks : List (List Nat)) (l : List Nat) (c : List Nat → α), (∀ k ∈ ks, ok16 k) → ok16 l → fwdF ks l c = c (nb (fwd (ks.map mkB) (mkB l)))
  | [], l, c, _, hl => by simp only [fwdF, fwd, List.map_nil]; rw [nb_mkB hl.1]
  | k :: ks, l, c, h, hl => by
    have hk := h k (by simp)
    have hd : ok16 (nb (doT (mkB l) (mkB k) ks.isEmpty)) := ⟨isB_nb _, by rw [nb_length]; exact do_size (by rw [mkB_size, hl.2]) (by rw [mkB_size, hk.2]) _⟩
    simp only [fwdF, fwd, List.map_cons]
    rw [stepF_eq hl.1 hk.1 hl.2 hk.2, fwdF_eq ks _ c (fun x hx => h x (by simp [hx])) hd, mkB_nb, List.isEmpty_map]
def encF {α : Type} (ks : List (List Nat)) (l : List Nat) (c : List Nat → α) : α := match ks with
  | [] => c l
  | k :: ks => fL ((List.range 16).map fun q => lf l q ^^^ lf k q) fun l => fwdF ks l c
theorem encF_eq {α : Type} (ks : List (List Nat)) (l : List Nat) (c : List Nat → α) (h : ∀ k ∈ ks, ok16 k) (hl : ok16 l) : encF ks l c = c (nb (encT (ks.map mkB) (mkB l))) := by
  cases ks with
  | nil => simp only [encF, encT, List.map_nil]; rw [nb_mkB hl.1]
  | cons k ks =>
    have hk := h k (by simp)
    have e : kyT (mkB l) (mkB k) = mkB ((List.range 16).map fun q => lf l q ^^^ lf k q) := by
      rw [ky_16 (by rw [mkB_size, hl.2]) (by rw [mkB_size, hk.2])]
      unfold T
      congr 1
      exact List.map_congr_left (fun q _ => by rw [bb_mkB hl.1, bb_mkB hk.1]; rfl)
    simp only [encF, encT, List.map_cons]
    rw [fL_eq, fwdF_eq ks _ c (fun x hx => h x (by simp [hx])) ⟨isB_map (fun a => xor_lt (lf_lt hl.1 a) (lf_lt hk.1 a)) _, by simp⟩, e]
def goR {α : Type} (n : Nat) : Nat → Nat → List (List Nat) → (List (List Nat) → α) → α
  | 0, _, ws, c => c ws
  | d + 1, i, ws, c => fL (nb (stepB n i (mkB (ws.getD (n - 1) [])) (mkB (ws.getD 0 [])))) fun w => goR n d (i + 1) (w :: ws) c
theorem getD_rev (l : List (List Nat)) (j i : Nat) (hi : l.length = i) (hj : j < i) : mkB (l.getD j []) = (l.reverse.map mkB).getD (i - 1 - j) ByteArray.empty := by
  have h1 : j < l.length := by omega
  have h2 : l.length - 1 - j < l.reverse.length := by rw [List.length_reverse]; omega
  subst hi
  rw [List.getD_eq_getElem?_getD, List.getD_eq_getElem?_getD, List.getElem?_map, List.getElem?_eq_getElem h1, List.getElem?_eq_getElem h2]
  simp only [Option.getD_some, Option.map_some]
  rw [List.getElem_reverse]
  congr 2
  omega
theorem goR_eq {α : Type} (n : Nat) (hn : 0 < n) : ∀ (d i : Nat) (ws : List (List Nat)) (c : List (List Nat) → α), ws.length = i → n ≤ i → ∃ vs, goR n d i ws c = c vs ∧ vs.reverse.map mkB = goB n d i (ws.reverse.map mkB) ∧ ((∀ v ∈ ws, isB v) → ∀ v ∈ vs, isB v)
  | 0, _, ws, c, _, _ => ⟨ws, rfl, rfl, id⟩
  | d + 1, i, ws, c, hl, hi => by
    simp only [goR, goB]
    rw [fL_eq, getD_rev ws (n - 1) i hl (by omega), getD_rev ws 0 i hl (by omega), show i - 1 - (n - 1) = i - n by omega, show i - 1 - 0 = i - 1 by omega]
    obtain ⟨vs, h1, h2, h3⟩ := goR_eq n hn d (i + 1) (nb (stepB n i ((ws.reverse.map mkB).getD (i - n) ByteArray.empty) ((ws.reverse.map mkB).getD (i - 1) ByteArray.empty)) :: ws) c (by simp [hl]) (by omega)
    refine ⟨vs, h1, ?_, fun h => h3 (fun v hv => ?_)⟩
    · rw [h2, List.reverse_cons, List.map_append, List.map_singleton, mkB_nb]
    · rcases List.mem_cons.1 hv with rfl | hv
      · exact isB_nb _
      · exact h v hv
def quadL : List (List Nat) → List (List Nat)
  | a :: b :: c :: d :: l => (a ++ (b ++ (c ++ d))) :: quadL l
  | _ => []
theorem quadL_eq : ∀ l : List (List Nat), (quadL l).map mkB = quads (l.map mkB)
  | a :: b :: c :: d :: l => by simp only [quadL, quads, List.map_cons]; rw [quadL_eq l, mkB_append, mkB_append, mkB_append]
  | [] => rfl
  | [_] => rfl
  | [_, _] => rfl
  | [_, _, _] => rfl
/-- A key's words as lists, the last one first. -/
def fourL : List Nat → List (List Nat)
  | a :: b :: c :: d :: l => [a, b, c, d] :: fourL l
  | _ => []
def keysF {α : Type} (n : Nat) (key : List Nat) (c : List (List Nat) → α) : α := goR n (3 * n + 28) n (fourL key).reverse fun ws => c (quadL ws.reverse)
theorem keysF_eq {α : Type} (n : Nat) (hn : n = 4 ∨ n = 6 ∨ n = 8) (key : List Nat) (hkl : key.length = 4 * n) (hf : (fourL key).map mkB = pcs 4 n (mkB key)) (hf2 : ∀ v ∈ fourL key, isB v) (c : List (List Nat) → α) :
    ∃ ks, keysF n key c = c ks ∧ ks.map mkB = ksB (mkB key) ∧ ∀ k ∈ ks, ok16 k := by
  have hs : (mkB key).size = 4 * n := by rw [mkB_size, hkl]
  have hok : okN (mkB key).size := by unfold okN; omega
  have hl : (fourL key).length = n := by have := congrArg List.length hf; rw [List.length_map, pcs_length] at this; exact this
  obtain ⟨vs, h1, h2, h3⟩ := goR_eq n (by omega) (3 * n + 28) n (fourL key).reverse (fun ws => c (quadL ws.reverse)) (by simp [hl]) (Nat.le_refl _)
  have e : (quadL vs.reverse).map mkB = ksB (mkB key) := by
    rw [quadL_eq, h2, List.reverse_reverse, hf]
    unfold ksB wordsB
    rw [hs, show 4 * n / 4 = n by omega]
  have hb := h3 (fun v hv => hf2 v (List.mem_reverse.1 hv))
  refine ⟨_, h1, e, fun k hk => ?_⟩
  have ha := (ks_facts hok).2.1
  rw [← e] at ha
  have hz := ha (mkB k) (List.mem_map_of_mem hk)
  rw [mkB_size] at hz
  refine ⟨?_, hz⟩
  have : ∀ l : List (List Nat), (∀ v ∈ l, isB v) → ∀ k ∈ quadL l, isB k := by
    intro l
    induction l using quadL.induct with
    | case1 a b c d l ih =>
      intro h k hk
      rcases List.mem_cons.1 hk with rfl | hk
      · exact isB_append.2 ⟨h a (by simp), isB_append.2 ⟨h b (by simp), isB_append.2 ⟨h c (by simp), h d (by simp)⟩⟩⟩
      · exact ih (fun v hv => h v (by simp [hv])) k hk
    | case2 t h => intro _ k hk; rw [quadL] at hk; cases hk; exact h
  exact this _ (fun v hv => hb v (List.mem_reverse.1 hv)) k hk
end Go.Proofs.Ytokkhnjedmlbhaa.M
end
