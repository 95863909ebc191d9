/-
  The words and the keys of a key: what the program and the reference make. Plain.
-/
import Derived.Test.YtokkhnjedmlbhaaZKeysA
import Derived.Test.YtokkhnjedmlbhaaZPut
import Derived.Test.YtokkhnjedmlbhaaZPrg01x
import Derived.Test.YtokkhnjedmlbhaaZPrg06
import Derived.Test.YtokkhnjedmlbhaaZPrg08
import Derived.Test.YtokkhnjedmlbhaaZPrg08b
import Derived.Test.YtokkhnjedmlbhaaZPrgsl
import Derived.Test.YtokkhnjedmlbhaaZPrk
namespace Go.Proofs.Ytokkhnjedmlbhaa.M
open Go.RowKit Go.Proofs.Ytokkhnjedmlbhaa.Pr Go.Proofs.YtokkhnjedmlbhaaW.PrintWords Go.Proofs.YtokkhnjedmlbhaaW.PrintLast Go.Proofs.YtokkhnjedmlbhaaW.PrintMore Go.Proofs.YtokkhnjedmlbhaaGf
set_option linter.unusedSimpArgs false
def rndI (n : Int) : Int := if n = 16 then 10 else if n = 24 then 12 else if n = 32 then 14 else 0
theorem rounds_i (n : Int) : sched_Rounds.f n = some (rndI n) := by
  unfold sched_Rounds.f rndI
  by_cases h1 : n = 16
  · subst h1; decide +kernel
  · rw [if_neg h1, if_neg h1]
    by_cases h2 : n = 24
    · subst h2; decide +kernel
    · rw [if_neg h2, if_neg h2]
      by_cases h3 : n = 32
      · subst h3; decide +kernel
      · rw [if_neg h3, if_neg h3]
theorem rrounds_i (n : Int) : clavigerref08_Rounds.f n = some (rndI n) := by
  unfold clavigerref08_Rounds.f rndI
  by_cases h1 : n = 16
  · subst h1; decide +kernel
  · rw [if_neg h1, if_neg h1]
    by_cases h2 : n = 24
    · subst h2; decide +kernel
    · rw [if_neg h2, if_neg h2]
      by_cases h3 : n = 32
      · subst h3; decide +kernel
      · rw [if_neg h3, if_neg h3]
theorem rnd_ok {key : ByteArray} (h : okN key.size) : rndI (key.size : Int) = ((key.size / 4 + 6 : Nat) : Int) := by
  unfold rndI
  rcases h with h | h | h <;> rw [h] <;> rfl
theorem rnd_no {key : ByteArray} (h : ¬ okN key.size) : rndI (key.size : Int) = 0 := by
  unfold okN at h
  unfold rndI
  rw [if_neg (by omega), if_neg (by omega), if_neg (by omega)]
theorem rdO (l : List ByteArray) (i : Nat) : rdOf ByteArray.empty l (i : Int) = l.getD i ByteArray.empty := rfl
theorem put4 {u : Nat} (_hu : u < 4294967296) : octets_Put.f (u : Int) 4 = some (wB u) := by
  unfold octets_Put.f
  rw [if_neg (by decide), if_neg (by decide)]
  rfl
theorem drop_cons {l : List Nat} {i : Nat} (h : i < l.length) : l.drop i = l.getD i 0 :: l.drop (i + 1) := by
  rw [List.drop_eq_getElem_cons h]
  simp [List.getD_eq_getElem?_getD, h]
theorem wordsL (us : List Nat) (hl : us.length ≤ 1000) (hu : ∀ u ∈ us, u < 4294967296) (d : Nat) : ∀ (i : Nat) (out : List ByteArray), us.length - i = d → i ≤ us.length → out.length ≤ i → Ev (fun k => sched_Words.l0 k out (us.map Int.ofNat) (us.length : Int) (i : Int)) (out ++ (us.drop i).map wB) := by
  induction d with
  | zero =>
    intro i out hd hi ho
    refine Ev.step (f := fun _ => some out) (fun k => ?_) ?_
    · simp only [sched_Words.l0]
      rw [if_neg (by omega)]
    · rw [List.drop_of_length_le (by omega), List.map_nil, List.append_nil]
      exact Ev.now _
  | succ d ih =>
    intro i out hd hi ho
    have hh := ih (i + 1) (out ++ [wB (us.getD i 0)]) (by omega) (by omega) (by rw [List.length_append, List.length_singleton]; omega)
    have hv := getD_lt hu i
    rw [List.append_assoc, List.singleton_append, ← List.map_cons, ← drop_cons (by omega)] at hh
    refine Ev.step (fun k => ?_) hh
    simp only [sched_Words.l0]
    rw [if_pos (by omega), if_pos (by omega), if_pos (by rw [List.length_map]; omega), rd_cast, show IntKind.u64.wrap ((us.getD i 0 : Nat) : Int) = ((us.getD i 0 : Nat) : Int) by rw [IntKind.wrap_u64]; omega, put4 hv]
    simp only [Option.bind_some]
    rw [if_pos (by omega), wrap_id (by omega) (by omega)]
    rfl
theorem sT_size : (mkB sT).size = 256 := by rw [mkB_size]; simp [sT]
theorem expF_c (n : Nat) (hn : n = 4 ∨ n = 6 ∨ n = 8) (key : ByteArray) (h : key.size = 4 * n) : ∃ vs : List Nat, Ev (fun k => expF k n key) (vs.map Int.ofNat) ∧ vs.map wB = wordsB key ∧ (∀ u ∈ vs, u < 4294967296) ∧ vs.length = 4 * n + 28 := by
  obtain ⟨us, h1, h2, h3⟩ := expL1_c (pcs 4 n key) [] (pcs_size (by omega)) (fun u hu => by cases hu)
  have hl : us.length = n := by have := congrArg List.length h2; rw [List.length_map, List.length_append, List.length_map, pcs_length] at this; simpa using this
  obtain ⟨vs, g1, g2, g3, g4⟩ := expL2_c n hn (3 * n + 28) n us hl (Nat.le_refl _) (by omega) h3
  have hp : Ev (fun k => octets_Pieces.f k key 4) (pcs 4 n key) := pieces_m (n := 4) (by omega) (by omega) (by omega) h
  rw [show (n - 1) / n = 0 by rcases hn with rfl | rfl | rfl <;> rfl] at g1
  refine ⟨vs, ?_, ?_, g3, by omega⟩
  · unfold expF
    refine evb table_c (evp sT_size (evb hp (evp (pcs_length _ _ _) (evb h1 (evp (by rw [List.length_map]; exact hl) ?_)))))
    show Ev (fun _ => expL2 (mkB sT) n (3 * n + 28) n ((pw 2 0 : Nat) : Int) (us.map Int.ofNat)) _
    rw [g1]
    exact Ev.now _
  · rw [g2, h2, List.map_nil, List.nil_append]
    unfold wordsB
    rw [h, show 4 * n / 4 = n by omega]
theorem expand_c {key : ByteArray} (h : okN key.size) : ∃ vs : List Nat, Ev (fun k => sched_expand.f k key) (vs.map Int.ofNat) ∧ vs.map wB = wordsB key ∧ (∀ u ∈ vs, u < 4294967296) ∧ vs.length = 4 * (key.size / 4) + 28 := by
  unfold sched_expand.f
  rcases h with h | h | h
  · obtain ⟨vs, g1, g2, g3, g4⟩ := expF_c 4 (by omega) key (by omega)
    exact ⟨vs, evp h g1, g2, g3, by omega⟩
  · obtain ⟨vs, g1, g2, g3, g4⟩ := expF_c 6 (by omega) key (by omega)
    exact ⟨vs, evn (by omega) (evp h g1), g2, g3, by omega⟩
  · obtain ⟨vs, g1, g2, g3, g4⟩ := expF_c 8 (by omega) key (by omega)
    exact ⟨vs, evn (by omega) (evn (by omega) (evp h g1)), g2, g3, by omega⟩
def wordsT (key : ByteArray) : List ByteArray := if okN key.size then wordsB key else []
theorem words_c (key : ByteArray) : Ev (fun k => sched_Words.f k key) (wordsT key) := by
  unfold wordsT
  by_cases h : okN key.size
  · rw [if_pos h]
    obtain ⟨vs, g1, g2, g3, g4⟩ := expand_c h
    have hb : vs.length ≤ 1000 := by rcases h with h | h | h <;> omega
    unfold sched_Words.f
    refine evb g1 ?_
    have := wordsL vs hb g3 _ 0 [] rfl (by omega) (by simp)
    rw [List.drop_zero, List.nil_append, g2] at this
    rw [List.length_map]
    exact this
  · rw [if_neg h]
    unfold okN at h
    unfold sched_Words.f
    have e : ∀ k, sched_expand.f k key = some [] := fun k => by unfold sched_expand.f; rw [if_neg (by omega), if_neg (by omega), if_neg (by omega)]
    simp only [e, Option.bind_some]
    exact Ev.step (f := fun _ => some []) (fun k => by simp only [sched_Words.l0]; rw [if_neg (by simp)]) (Ev.now _)
theorem ks_ne {key : ByteArray} (h : okN key.size) : ∃ a l, ksB key = a :: l := by
  have := (ks_len h).1
  cases e : ksB key with
  | nil => rw [e] at this; simp at this
  | cons a l => exact ⟨a, l, rfl⟩
theorem keys_c {key : ByteArray} (h : okN key.size) : Ev (fun k => sched_Keys.f k key) (ksB key, 0) := by
  have hw := words_c key
  rw [wordsT, if_pos h] at hw
  obtain ⟨f1, f2, f3, _⟩ := ks_facts h
  obtain ⟨w1, w2, _⟩ := words_facts h
  have hc : (catB (wordsB key)).size = 4 * (wordsB key).length := cat_size 4 _ w2
  have hk : key.size ≤ 32 := by rcases h with h | h | h <;> omega
  obtain ⟨a, l, e⟩ := ks_ne h
  unfold sched_Keys.f
  refine evs (rounds_i _) (evn (by rw [rnd_ok h]; omega) (evb hw (evs (join_c _ (by omega) (by omega)) ?_)))
  rw [← f3, e]
  rw [e] at f1 f2 f3
  rw [List.length_cons] at f1
  refine evb (pieces_c 16 (by omega) (by omega) a l f2 (by omega) (by rw [f3]; omega)) (Ev.now _)
theorem keys_n {key : ByteArray} (h : ¬ okN key.size) : Ev (fun k => sched_Keys.f k key) ([], 2) := by
  unfold sched_Keys.f
  exact evs (rounds_i _) (evp (rnd_no h) (Ev.now _))
theorem rconst_c (n : Int) (h1 : 1 ≤ n) (h2 : n ≤ 255) : Ev (fun k => clavigerref08_Constant.f k n) ((pw 2 (n.toNat - 1) : Nat) : Int) := by
  unfold clavigerref08_Constant.f
  refine evn (by omega) (evn (by omega) ?_)
  rw [wrap_id (by omega) (by omega)]
  refine evb (rpow_c (a := 2) (by omega) (n - 1)) ?_
  rw [show pw 2 (n.toNat - 1) = powI 2 (n - 1) by unfold powI; congr 1; omega]
  exact Ev.now _
theorem rw_step (key : ByteArray) (n : Nat) (hn : n = 4 ∨ n = 6 ∨ n = 8) (h : key.size = 4 * n) (i : Nat) (ws : List ByteArray) (hl : ws.length = i) (hi : n ≤ i) (hb : i < 4 * n + 28) (hs : allS 4 ws) (res : List ByteArray)
    (hr : Ev (fun k => clavigerref08_Words.l0 k key (ws ++ [stepB n i (ws.getD (i - n) ByteArray.empty) (ws.getD (i - 1) ByteArray.empty)]) (n : Int) ((i + 1 : Nat) : Int)) res) :
    Ev (fun k => clavigerref08_Words.l0 k key ws (n : Int) (i : Int)) res := by
  have h1 : wrap64 ((i : Int) - 1) = ((i - 1 : Nat) : Int) := by unfold wrap64; omega
  have h2 : wrap64 ((i : Int) - (n : Int)) = ((i - n : Nat) : Int) := by unfold wrap64; omega
  have h3 : wrap64 ((i : Int) + 1) = ((i + 1 : Nat) : Int) := by unfold wrap64; omega
  have h4 : Int.tmod (i : Int) (n : Int) = ((i % n : Nat) : Int) := by rw [Int.tmod_eq_emod_of_nonneg (by omega)]; omega
  have h5 : wrap64 (Int.tdiv (i : Int) (n : Int)) = ((i / n : Nat) : Int) := by
    rw [Int.tdiv_eq_ediv_of_nonneg (by omega), ← Int.natCast_ediv]
    have : i / n ≤ i := Nat.div_le_self _ _
    generalize i / n = q at *
    unfold wrap64; omega
  have h6 : Int.tmod (i : Int) 8 = ((i % 8 : Nat) : Int) := by rw [Int.tmod_eq_emod_of_nonneg (by omega)]; omega
  have hrn : rndI (key.size : Int) = ((n + 6 : Nat) : Int) := by rw [rnd_ok (by unfold okN; omega)]; congr 2; omega
  have h7 : wrap64 (wrap64 (4 * ((n + 6 : Nat) : Int)) + 4) = ((4 * n + 28 : Nat) : Int) := by rw [wrap_id (x := 4 * ((n + 6 : Nat) : Int)) (by omega) (by omega), wrap_id (by omega) (by omega)]; omega
  have ht := getD_size hs (j := i - 1) (by omega)
  have hq := getD_size hs (j := i - n) (by omega)
  generalize et : ws.getD (i - 1) ByteArray.empty = t at *
  generalize eq : ws.getD (i - n) ByteArray.empty = q at *
  have h8 : (t.extract 1 4).size = 3 := by rw [ByteArray.size_extract]; omega
  have h9 : (t.extract 0 1).size = 1 := by rw [ByteArray.size_extract]; omega
  by_cases hm : i % n = 0
  · have hd1 : 1 ≤ i / n := Nat.div_pos hi (by omega)
    have hd2 : i / n ≤ 60 := Nat.le_trans (Nat.div_le_self _ _) (by omega)
    have hc := rconst_c ((i / n : Nat) : Int) (by omega) (by omega)
    rw [Int.toNat_natCast] at hc
    refine Ev.step (f := fun k => (clavigerref06_Subs.f k (t.extract 1 4 ++ t.extract 0 1)).bind fun t215 => (clavigerref08_Constant.f k ((i / n : Nat) : Int)).bind fun t216 => (clavigerref01_Xor.f k t215 (strOfNums [t216, 0, 0, 0])).bind fun t220 => (clavigerref01_Xor.f k q t220).bind fun t222 => clavigerref08_Words.l0 k key (ws ++ [t222]) (n : Int) ((i + 1 : Nat) : Int)) (fun k => ?_) ?_
    · simp only [clavigerref08_Words.l0]
      rw [rrounds_i, Option.bind_some, hrn, h7, if_pos (by omega), if_neg (by omega), h1, h2, h3, h4, h5, rdO, rdO, et, eq]
      rw [if_pos (by omega), if_pos (by omega), if_neg (by omega), if_pos (by omega), if_pos (by omega), if_pos (by omega), if_pos (by omega), if_pos (by omega), if_pos (by omega)]
      simp only [show (0 : Int) ≤ ((i - n : Nat) : Int) from by omega, show ((i - n : Nat) : Int) < (ws.length : Int) from by omega, show ws.length < 8796093022208 from by omega, if_true]
    · refine evb (rSubs_c _ (by rw [ByteArray.size_append]; omega)) (evb hc ?_)
      have e : strOfNums [((pw 2 (i / n - 1) : Nat) : Int), 0, 0, 0] = mkB [pw 2 (i / n - 1), 0, 0, 0] := strOfNums_cast [pw 2 (i / n - 1), 0, 0, 0]
      rw [e]
      refine evb (rxor_c _ _ (by rw [mkB_size, List.length_map, nb_length, ByteArray.size_append]; omega) (by rw [mkB_size]; show 4 ≤ 140737488355328; omega)) (evb (rxor_c _ _ (by omega) (by rw [xorT_size, mkB_size, mkB_size]; show min _ 4 ≤ _; omega)) ?_)
      have e2 : stepB n i q t = xorT q (xorT (mkB ((nb (t.extract 1 4 ++ t.extract 0 1)).map sN)) (mkB [pw 2 (i / n - 1), 0, 0, 0])) := by unfold stepB; rw [if_pos hm]; rfl
      rw [← e2]
      exact hr
  · have hj : ∀ (b : Bool) (v : ByteArray), stepB n i q t = v → (b = true → v = xorT q (sbT t)) → (b = false → v = xorT q t) → Ev (fun k => clavigerref08_Words.j1 k key ws (n : Int) (i : Int) t b) res := by
      intro b v hv hv1 hv2
      cases b with
      | true =>
        refine Ev.step (f := fun k => (clavigerref06_Subs.f k t).bind fun t226 => (clavigerref01_Xor.f k q t226).bind fun t228 => clavigerref08_Words.l0 k key (ws ++ [t228]) (n : Int) ((i + 1 : Nat) : Int)) (fun k => ?_) ?_
        · simp only [clavigerref08_Words.j1]
          rw [h2, h3, rdO, eq]
          simp only [show (0 : Int) ≤ ((i - n : Nat) : Int) from by omega, show ((i - n : Nat) : Int) < (ws.length : Int) from by omega, show ws.length < 8796093022208 from by omega, if_true]
        · refine evb (rSubs_c _ (by omega)) (evb (rxor_c _ _ (by omega) (by rw [mkB_size, List.length_map, nb_length]; omega)) ?_)
          rw [← show v = xorT q (mkB ((nb t).map sN)) from hv1 rfl, ← hv]
          exact hr
      | false =>
        refine Ev.step (f := fun k => (clavigerref01_Xor.f k q t).bind fun t228 => clavigerref08_Words.l0 k key (ws ++ [t228]) (n : Int) ((i + 1 : Nat) : Int)) (fun k => ?_) ?_
        · simp only [clavigerref08_Words.j1]
          rw [if_neg (by simp), h2, h3, rdO, eq]
          simp only [show (0 : Int) ≤ ((i - n : Nat) : Int) from by omega, show ((i - n : Nat) : Int) < (ws.length : Int) from by omega, show ws.length < 8796093022208 from by omega, if_true]
        · refine evb (rxor_c _ _ (by omega) (by omega)) ?_
          rw [← hv2 rfl, ← hv]
          exact hr
    by_cases h8' : n = 8 ∧ i % 8 = 4
    · refine Ev.step (f := fun k => clavigerref08_Words.j1 k key ws (n : Int) (i : Int) t true) (fun k => ?_) (hj true _ rfl (fun _ => by unfold stepB; rw [if_neg hm, if_pos h8']) (fun h => by cases h))
      simp only [clavigerref08_Words.l0]
      rw [rrounds_i, Option.bind_some, hrn, h7, if_pos (by omega), if_neg (by omega), h1, h4, h6, rdO, et]
      rw [if_pos (by omega), if_pos (by omega), if_neg (by omega), if_neg (by omega), if_pos (by omega), show ((((i % 8 : Nat) : Int)) == 4) = true from beq_iff_eq.mpr (by omega)]
    · have hx : stepB n i q t = xorT q t := by unfold stepB; rw [if_neg hm, if_neg h8']
      refine Ev.step (f := fun k => clavigerref08_Words.j1 k key ws (n : Int) (i : Int) t false) (fun k => ?_) (hj false _ rfl (fun h => by cases h) (fun _ => hx))
      simp only [clavigerref08_Words.l0]
      rw [rrounds_i, Option.bind_some, hrn, h7, if_pos (by omega), if_neg (by omega), h1, h4, h6, rdO, et]
      rw [if_pos (by omega), if_pos (by omega), if_neg (by omega), if_neg (by omega)]
      by_cases h88 : n = 8
      · rw [if_pos (by omega), show ((((i % 8 : Nat) : Int)) == 4) = false from beq_eq_false_iff_ne.mpr (fun e => h8' ⟨h88, by omega⟩)]
      · rw [if_neg (by omega)]
theorem rw_go (key : ByteArray) (n : Nat) (hn : n = 4 ∨ n = 6 ∨ n = 8) (h : key.size = 4 * n) (d : Nat) : ∀ (i : Nat) (ws : List ByteArray), ws.length = i → n ≤ i → i + d = 4 * n + 28 → allS 4 ws → Ev (fun k => clavigerref08_Words.l0 k key ws (n : Int) (i : Int)) (goB n d i ws) := by
  induction d with
  | zero =>
    intro i ws hl hi hb hs
    have hrn : rndI (key.size : Int) = ((n + 6 : Nat) : Int) := by rw [rnd_ok (by unfold okN; omega)]; congr 2; omega
    have h7 : wrap64 (wrap64 (4 * ((n + 6 : Nat) : Int)) + 4) = ((4 * n + 28 : Nat) : Int) := by rw [wrap_id (x := 4 * ((n + 6 : Nat) : Int)) (by omega) (by omega), wrap_id (by omega) (by omega)]; omega
    refine Ev.step (f := fun _ => some ws) (fun k => ?_) (Ev.now _)
    simp only [clavigerref08_Words.l0]
    rw [rrounds_i, Option.bind_some, hrn, h7, if_neg (by omega)]
  | succ d ih =>
    intro i ws hl hi hb hs
    refine rw_step key n hn h i ws hl hi (by omega) hs _ ?_
    simp only [goB]
    refine ih (i + 1) _ (by rw [List.length_append, List.length_singleton, hl]) (by omega) (by omega) (fun x hx => ?_)
    rcases List.mem_append.1 hx with hx | hx
    · exact hs x hx
    · rw [List.mem_singleton.1 hx]
      exact stepB_size n i (getD_size hs (by omega)) (getD_size hs (by omega))
theorem rw_first (key : ByteArray) (n : Nat) (hn : n = 4 ∨ n = 6 ∨ n = 8) (h : key.size = 4 * n) (res : List ByteArray) (hr : Ev (fun k => clavigerref08_Words.l0 k key (pcs 4 n key) (n : Int) (n : Int)) res) (d : Nat) : ∀ i, n - i = d → i ≤ n → Ev (fun k => clavigerref08_Words.l0 k key (pcs 4 i key) (n : Int) (i : Int)) res := by
  induction d with
  | zero =>
    intro i hd hi
    obtain rfl : i = n := by omega
    exact hr
  | succ d ih =>
    intro i hd hi
    have hrn : rndI (key.size : Int) = ((n + 6 : Nat) : Int) := by rw [rnd_ok (by unfold okN; omega)]; congr 2; omega
    have h7 : wrap64 (wrap64 (4 * ((n + 6 : Nat) : Int)) + 4) = ((4 * n + 28 : Nat) : Int) := by rw [wrap_id (x := 4 * ((n + 6 : Nat) : Int)) (by omega) (by omega), wrap_id (by omega) (by omega)]; omega
    have h3 : wrap64 ((i : Int) + 1) = ((i + 1 : Nat) : Int) := by unfold wrap64; omega
    have h4 : wrap64 (4 * (i : Int)) = ((4 * i : Nat) : Int) := by unfold wrap64; omega
    have h5 : wrap64 (((4 * i : Nat) : Int) + 4) = ((4 * i + 4 : Nat) : Int) := by unfold wrap64; omega
    have e : pcs 4 (i + 1) key = pcs 4 i key ++ [key.extract (4 * i) (4 * i + 4)] := by
      unfold pcs; rw [List.range_succ, List.map_append]; rfl
    have hh := ih (i + 1) (by omega) (by omega)
    rw [e] at hh
    refine Ev.step (fun k => ?_) hh
    simp only [clavigerref08_Words.l0]
    rw [rrounds_i, Option.bind_some, hrn, h7, if_pos (by omega), if_pos (by omega), h4, h5, h3, if_pos (by omega), if_pos (by omega), if_pos (by omega), if_pos (by rw [pcs_length]; omega), Int.toNat_natCast, Int.toNat_natCast]
theorem rwords_c (key : ByteArray) : Ev (fun k => clavigerref08_Words.f k key) (wordsT key) := by
  unfold clavigerref08_Words.f wordsT
  by_cases h : okN key.size
  · rw [if_pos h]
    have h4 : key.size = 4 * (key.size / 4) := by rcases h with h | h | h <;> omega
    have hn : key.size / 4 = 4 ∨ key.size / 4 = 6 ∨ key.size / 4 = 8 := by rcases h with h | h | h <;> omega
    refine evs (rrounds_i _) (evn (by rw [rnd_ok h]; omega) ?_)
    rw [show wrap64 ((key.size : Int) / 4) = ((key.size / 4 : Nat) : Int) by unfold wrap64; omega]
    have hp := pcs_size (n := 4) (m := key.size / 4) (s := key) (by omega)
    have := rw_first key (key.size / 4) hn h4 (wordsB key) (rw_go key _ hn h4 (3 * (key.size / 4) + 28) _ _ (pcs_length _ _ _) (Nat.le_refl _) (by omega) hp) _ 0 rfl (by omega)
    exact this
  · rw [if_neg h]
    exact evs (rrounds_i _) (evp (rnd_no h) (Ev.now _))
theorem quads_get : ∀ (j : Nat) (l : List ByteArray), 4 * j + 3 < l.length → quads l = quads (l.take (4 * j)) ++ (((l.getD (4 * j) ByteArray.empty ++ l.getD (4 * j + 1) ByteArray.empty) ++ l.getD (4 * j + 2) ByteArray.empty) ++ l.getD (4 * j + 3) ByteArray.empty) :: quads (l.drop (4 * j + 4))
  | 0, a :: b :: c :: d :: l, _ => by simp [quads, ByteArray.append_assoc]
  | j + 1, a :: b :: c :: d :: l, h => by
    have := quads_get j l (by simp at h; omega)
    rw [show 4 * (j + 1) = 4 * j + 1 + 1 + 1 + 1 by omega]
    simp only [List.take_succ_cons, quads, List.cons_append]
    rw [this]
    rfl
theorem quads_take (l : List ByteArray) (j : Nat) (h : 4 * j + 3 < l.length) : quads (l.take (4 * (j + 1))) = quads (l.take (4 * j)) ++ [((l.getD (4 * j) ByteArray.empty ++ l.getD (4 * j + 1) ByteArray.empty) ++ l.getD (4 * j + 2) ByteArray.empty) ++ l.getD (4 * j + 3) ByteArray.empty] := by
  have hlen : (l.take (4 * (j + 1))).length = 4 * j + 4 := by rw [List.length_take]; omega
  have e := quads_get j (l.take (4 * (j + 1))) (by omega)
  rw [List.drop_of_length_le (by omega), List.take_take, show min (4 * j) (4 * (j + 1)) = 4 * j by omega] at e
  rw [e]
  have g : ∀ q, q < 4 * j + 4 → (l.take (4 * (j + 1))).getD q ByteArray.empty = l.getD q ByteArray.empty := fun q hq => by
    rw [List.getD_eq_getElem?_getD, List.getD_eq_getElem?_getD, List.getElem?_take_of_lt (by omega)]
  rw [g _ (by omega), g _ (by omega), g _ (by omega), g _ (by omega)]
  rfl
theorem rkeysL (l : List ByteArray) (m : Nat) (hl : l.length = 4 * m) (hm : m ≤ 100) (hs : allS 4 l) (d : Nat) : ∀ j, m - j = d → j ≤ m → Ev (fun k => clavigerref08_Keys.l0 k l (quads (l.take (4 * j))) ((4 * j : Nat) : Int)) (quads l, 0) := by
  induction d with
  | zero =>
    intro j hd hj
    obtain rfl : j = m := by omega
    refine Ev.step (f := fun _ => some (quads l, 0)) (fun k => ?_) (Ev.now _)
    simp only [clavigerref08_Keys.l0]
    rw [if_neg (by omega), List.take_of_length_le (by omega)]
  | succ d ih =>
    intro j hd hj
    have hh := ih (j + 1) (by omega) (by omega)
    rw [quads_take l j (by omega)] at hh
    have e1 : wrap64 (((4 * j : Nat) : Int) + 1) = ((4 * j + 1 : Nat) : Int) := by unfold wrap64; omega
    have e2 : wrap64 (((4 * j : Nat) : Int) + 2) = ((4 * j + 2 : Nat) : Int) := by unfold wrap64; omega
    have e3 : wrap64 (((4 * j : Nat) : Int) + 3) = ((4 * j + 3 : Nat) : Int) := by unfold wrap64; omega
    have e4 : wrap64 (((4 * j : Nat) : Int) + 4) = ((4 * (j + 1) : Nat) : Int) := by unfold wrap64; omega
    have s0 := getD_size hs (j := 4 * j) (by omega)
    have s1 := getD_size hs (j := 4 * j + 1) (by omega)
    have s2 := getD_size hs (j := 4 * j + 2) (by omega)
    have s3 := getD_size hs (j := 4 * j + 3) (by omega)
    have hq : (quads (l.take (4 * j))).length = j := (quads_all j _ (by rw [List.length_take]; omega) (fun x hx => hs x (List.mem_of_mem_take hx))).2.1
    refine Ev.step (fun k => ?_) hh
    simp only [clavigerref08_Keys.l0, e1, e2, e3, e4, rdO, ByteArray.size_append, s0, s1, s2, s3]
    rw [if_pos (by omega), if_pos (by omega), if_pos (by omega), if_pos (by omega), if_pos (by omega), if_pos (by omega), if_pos (by omega), if_pos (by omega), if_pos (by omega), if_pos (by omega), if_pos (by omega), if_pos (by omega)]
theorem rkeys_c {key : ByteArray} (h : okN key.size) : Ev (fun k => clavigerref08_Keys.f k key) (ksB key, 0) := by
  have hw := rwords_c key
  rw [wordsT, if_pos h] at hw
  obtain ⟨w1, w2, _⟩ := words_facts h
  have hk : key.size ≤ 32 := by rcases h with h | h | h <;> omega
  unfold clavigerref08_Keys.f
  refine evs (rrounds_i _) (evn (by rw [rnd_ok h]; omega) (evb hw ?_))
  exact rkeysL (wordsB key) _ w1 (by omega) w2 _ 0 rfl (by omega)
theorem rkeys_n {key : ByteArray} (h : ¬ okN key.size) : Ev (fun k => clavigerref08_Keys.f k key) ([], 2) := by
  unfold clavigerref08_Keys.f
  exact evs (rrounds_i _) (evp (rnd_no h) (Ev.now _))
theorem tl_iff (a b : ByteArray) : a.toList = b.toList ↔ a = b := by
  refine ⟨fun h => ?_, fun h => by rw [h]⟩
  rw [tl_eq, tl_eq] at h
  exact ByteArray.ext (Array.ext' h)
theorem seqL (l m : List ByteArray) (hl : l.length = m.length) (hb : l.length < 1000000) (d : Nat) : ∀ i, l.length - i = d → i ≤ l.length → Ev (fun k => slices_Equal_string_string.l0 k l m (l.length : Int) (i : Int)) (decide (l.drop i = m.drop i)) := by
  induction d with
  | zero =>
    intro i hd hi
    refine Ev.step (f := fun _ => some true) (fun k => ?_) ?_
    · simp only [slices_Equal_string_string.l0]
      rw [if_neg (by omega)]
    · rw [List.drop_of_length_le (by omega), List.drop_of_length_le (by omega), decide_eq_true rfl]
      exact Ev.now _
  | succ d ih =>
    intro i hd hi
    have g : ∀ x : List ByteArray, i < x.length → x.drop i = x.getD i ByteArray.empty :: x.drop (i + 1) := fun x hx => by
      rw [List.drop_eq_getElem_cons hx]; simp [List.getD_eq_getElem?_getD, hx]
    have hw : wrap64 ((i : Int) + 1) = ((i + 1 : Nat) : Int) := by unfold wrap64; omega
    rw [g l (by omega), g m (by omega)]
    by_cases e : l.getD i ByteArray.empty = m.getD i ByteArray.empty
    · have hh := ih (i + 1) (by omega) (by omega)
      rw [show decide (l.getD i ByteArray.empty :: l.drop (i + 1) = m.getD i ByteArray.empty :: m.drop (i + 1)) = decide (l.drop (i + 1) = m.drop (i + 1)) from decide_eq_decide.2 ⟨fun h => (List.cons.inj h).2, fun h => by rw [e, h]⟩]
      refine Ev.step (fun k => ?_) hh
      simp only [slices_Equal_string_string.l0]
      rw [if_pos (by omega), if_pos (by omega), if_pos (by omega), if_pos (by omega), rdO, rdO, if_pos ((tl_iff _ _).2 e), hw]
    · rw [decide_eq_false (fun h => e (List.cons.inj h).1)]
      refine Ev.step (f := fun _ => some false) (fun k => ?_) (Ev.now _)
      simp only [slices_Equal_string_string.l0]
      rw [if_pos (by omega), if_pos (by omega), if_pos (by omega), if_pos (by omega), rdO, rdO, if_neg (fun h => e ((tl_iff _ _).1 h))]
theorem seq_c (l m : List ByteArray) (hb : l.length < 1000000) : Ev (fun k => slices_Equal_string_string.f k l m) (decide (l = m)) := by
  unfold slices_Equal_string_string.f
  by_cases hl : l.length = m.length
  · exact evp (by omega) (seqL l m hl hb _ 0 rfl (by omega))
  · rw [decide_eq_false (fun h => hl (congrArg List.length h))]
    exact evn (by omega) (Ev.now _)
end Go.Proofs.Ytokkhnjedmlbhaa.M
