-- several texts in one (by the session's program shake.py)
import Derived.Test.YtokkhnjedmlbhaaZKeysB
import Derived.Test.YtokkhnjedmlbhaaZPrL08SchedBegins
import Derived.Test.YtokkhnjedmlbhaaZPrL08SchedTells
import Derived.Test.YtokkhnjedmlbhaaZPrL08awake
import Derived.Test.YtokkhnjedmlbhaaZPrk
import Derived.Test.YtokkhnjedmlbhaaRows
import Derived.JoinedOf
import Derived.KernelRfl
section
namespace Go.Proofs.Ytokkhnjedmlbhaa.M
open Go.RowKit Go.Proofs.Ytokkhnjedmlbhaa.Pr Go.Proofs.YtokkhnjedmlbhaaW.PrintWords Go.Proofs.YtokkhnjedmlbhaaW.PrintLast Go.Proofs.YtokkhnjedmlbhaaW.PrintMore Go.Proofs.YtokkhnjedmlbhaaGf
set_option linter.unusedSimpArgs false
set_option maxRecDepth 100000 in
theorem awake08 : Ev (fun k => clavigerlaw08_awake.f k) true := by
  unfold clavigerlaw08_awake.f
  have h1 : okN (⟨#[43, 126, 21, 22, 40, 174, 210, 166, 171, 247, 21, 136, 9, 207, 79, 60]⟩ : ByteArray).size := .inl rfl
  have h2 : okN (⟨#[48, 49, 50, 51, 52, 53, 54, 55, 56, 57, 97, 98, 99, 100, 101, 102]⟩ : ByteArray).size := .inl rfl
  have h3 : ¬ okN (⟨#[48]⟩ : ByteArray).size := by decide
  have w := words_c ⟨#[43, 126, 21, 22, 40, 174, 210, 166, 171, 247, 21, 136, 9, 207, 79, 60]⟩
  rw [wordsT, if_pos h1] at w
  have wl := (words_facts h1).1
  have kl := (ks_facts h2).1
  refine evb w (evb (keys_c h2) (evb (keys_n h3) (evp (by rw [wl]; rfl) (evp (by rw [wl]; decide) (evp (by decide +kernel) (evp ?_ (evp ?_ (evp (by decide +kernel) (evp rfl (evp rfl ?_))))))))))
  · show ((ksB _).length : Int) = 11
    rw [kl]; rfl
  · show 0 < ((ksB _).length : Int)
    rw [kl]; decide
  · exact evs (rounds_i 32) (Ev.now _)
theorem const_c (n : Int) (h : n ≤ 9223372036854775807) : ∃ r, Ev (fun k => sched_Constant.f k n) r ∧ Ev (fun k => clavigerref08_Constant.f k n) r := by
  unfold sched_Constant.f clavigerref08_Constant.f
  by_cases h1 : n < 1
  · exact ⟨0, evp h1 (Ev.now _), evp h1 (Ev.now _)⟩
  · by_cases h2 : n > 255
    · exact ⟨0, evn h1 (evp h2 (Ev.now _)), evn h1 (evp h2 (Ev.now _))⟩
    · rw [wrap_id (by omega) (by omega)]
      exact ⟨_, evn h1 (evn h2 (evb (pow_c (a := 2) (by omega) (n - 1) (by omega)) (Ev.now _))), evn h1 (evn h2 (evb (rpow_c (a := 2) (by omega) (n - 1)) (Ev.now _)))⟩
def keysT (key : ByteArray) : List ByteArray × Int := if okN key.size then (ksB key, 0) else ([], 2)
theorem keys_t (key : ByteArray) : Ev (fun k => sched_Keys.f k key) (keysT key) := by
  unfold keysT
  by_cases h : okN key.size
  · rw [if_pos h]; exact keys_c h
  · rw [if_neg h]; exact keys_n h
theorem rkeys_t (key : ByteArray) : Ev (fun k => clavigerref08_Keys.f k key) (keysT key) := by
  unfold keysT
  by_cases h : okN key.size
  · rw [if_pos h]; exact rkeys_c h
  · rw [if_neg h]; exact rkeys_n h
theorem keysT_len (key : ByteArray) : (keysT key).1.length < 1000000 := by
  unfold keysT
  by_cases h : okN key.size
  · rw [if_pos h]; have := (ks_len h).2; show (ksB key).length < _; omega
  · rw [if_neg h]; decide
theorem wordsT_len (key : ByteArray) : (wordsT key).length < 1000000 := by
  unfold wordsT
  by_cases h : okN key.size
  · rw [if_pos h, (words_facts h).1]; rcases h with h | h | h <;> rw [h] <;> decide
  · rw [if_neg h]; decide
theorem seq_same (l : List ByteArray) (h : l.length < 1000000) : Ev (fun k => slices_Equal_string_string.f k l l) true := by
  have := seq_c l l h
  rwa [decide_eq_true rfl] at this
theorem SchedTells : clavigerlaw08_SchedTells.Pure := by
  intro key n hk hn
  refine Ev.rounds (?_ : Ev _ true)
  obtain ⟨_, hn2⟩ := of_i64 hn
  unfold clavigerlaw08_SchedTells.f
  by_cases h : (key.size : Int) > 100
  · exact evp h (evb awake08 (Ev.now _))
  · obtain ⟨c, c1, c2⟩ := const_c n hn2
    refine evn h (evb (keys_t key) (evb (rkeys_t key) (evs (rounds_i n) (evs (rrounds_i n) (evp rfl (evb c1 (evb c2 (evp rfl ?_))))))))
    refine evb (words_c key) (evb (rwords_c key) (evb (seq_same _ (wordsT_len key)) (evp rfl (evb (seq_same _ (keysT_len key)) (evp rfl (evp rfl (evb awake08 (Ev.now _))))))))
theorem SchedBegins : clavigerlaw08_SchedBegins.Pure := by
  intro a b ha hb
  refine Ev.rounds (?_ : Ev _ true)
  have aw : ∀ x : Bool, x = true → Ev (fun n => clavigerlaw08_SchedBegins.j0 n a b x) true := fun x hx => by
    subst hx
    exact Ev.step (f := fun n => (clavigerlaw08_awake.f n).bind fun t => some t) (fun n => by simp only [clavigerlaw08_SchedBegins.j0]; rw [if_pos True.intro]) (evb awake08 (Ev.now _))
  unfold clavigerlaw08_SchedBegins.f
  by_cases h : (a.size : Int) > 100
  · exact evp h (aw true rfl)
  · refine evn h ?_
    by_cases h' : (b.size : Int) > 100
    · exact aw _ (decide_eq_true h')
    · rw [decide_eq_false h']
      by_cases ok : okN a.size
      · obtain ⟨f1, f2, f3, r, f4⟩ := ks_facts ok
        have hl := ks_len ok
        have hsz : (catB (ksB a)).size = 16 * (ksB a).length := cat_size 16 _ f2
        have hsa : (catB (ksB a)).size = a.size + r.size := by rw [f4, ByteArray.size_append]
        have hx : (catB (ksB a)).extract 0 a.size = a := by rw [f4, ext_left]
        have hne : (((catB (ksB a)).extract 0 ((a.size : Int) : Int).toNat).toList != a.toList) = false := by rw [Int.toNat_natCast, hx]; simp
        have hw1 : wrap64 (((a.size / 4 + 6 : Nat) : Int) + 1) = ((a.size / 4 + 7 : Nat) : Int) := by unfold wrap64; omega
        have hw2 : wrap64 (16 * ((ksB a).length : Int)) = ((16 * (ksB a).length : Nat) : Int) := by unfold wrap64; omega
        refine Ev.step (f := fun k => (sched_Keys.f k a).bind fun bt461 => (if bt461.2 = 0 then ((octets_Join.f bt461.1).bind fun t467 => ((sched_Rounds.f (a.size : Int)).bind fun t468 => (if (bt461.1.length : Int) = (wrap64 (t468 + 1)) then (if (t467.size : Int) = (wrap64 (16 * (bt461.1.length : Int))) then (if 0 ≤ (a.size : Int) then (if (a.size : Int) ≤ (t467.size : Int) then (clavigerlaw08_SchedBegins.j1 k a b bt461.1 ((t467.extract 0 ((a.size : Int) : Int).toNat).toList != a.toList)) else (none)) else (none)) else (clavigerlaw08_SchedBegins.j1 k a b bt461.1 true)) else (clavigerlaw08_SchedBegins.j1 k a b bt461.1 true)))) else (if (bt461.1.length : Int) = 0 then ((sched_Rounds.f (a.size : Int)).bind fun t465 => (if t465 = 0 then ((clavigerlaw08_awake.f k).bind fun t466 => (some t466)) else (some false))) else (some false)))) (fun k => by simp only [clavigerlaw08_SchedBegins.j0]; rw [if_neg (by simp)]) ?_
        refine evb (keys_c ok) (evp rfl (evs (join_c (ksB a) (by omega) (by omega)) (evs (rounds_i _) (evp (by rw [rnd_ok ok, hw1]; show ((ksB a).length : Int) = _; rw [f1]) (evp (by show ((catB (ksB a)).size : Int) = wrap64 (16 * ((ksB a).length : Int)); rw [hw2, hsz]) (evp (by omega) (evp (by show (a.size : Int) ≤ ((catB (ksB a)).size : Int); omega) ?_)))))))
        show Ev (fun k => clavigerlaw08_SchedBegins.j1 k a b (ksB a) (((catB (ksB a)).extract 0 ((a.size : Int) : Int).toNat).toList != a.toList)) true
        rw [hne]
        refine Ev.step (f := fun k => (sched_Keys.f k b).bind fun bt469 => ((slices_Equal_string_string.f k (ksB a) bt469.1).bind fun t473 => (if (t473 == (a.toList == b.toList)) = true then ((clavigerlaw08_awake.f k).bind fun t474 => (some t474)) else (some false)))) (fun k => by simp only [clavigerlaw08_SchedBegins.j1]; rw [if_neg (by simp)]) ?_
        refine evb (keys_t b) (evb (seq_c (ksB a) (keysT b).1 (by omega)) (evp ?_ (evb awake08 (Ev.now _))))
        have e : decide (ksB a = (keysT b).1) = decide (a = b) := by
          refine decide_eq_decide.2 ⟨fun e => ?_, fun e => by subst e; unfold keysT; rw [if_pos ok]⟩
          unfold keysT at e
          by_cases okb : okN b.size
          · rw [if_pos okb] at e; exact ks_inj ok okb e
          · rw [if_neg okb] at e
            have : (ksB a).length = 0 := by rw [e]; rfl
            omega
        have e2 : (a.toList == b.toList) = decide (a = b) := by
          by_cases h : a = b
          · rw [h, decide_eq_true rfl]; exact beq_self_eq_true _
          · rw [decide_eq_false h]; exact beq_eq_false_iff_ne.mpr (fun e => h ((tl_iff _ _).1 e))
        rw [e, e2]
        exact beq_self_eq_true _
      · refine Ev.step (f := fun k => (sched_Keys.f k a).bind fun bt461 => (if bt461.2 = 0 then ((octets_Join.f bt461.1).bind fun t467 => ((sched_Rounds.f (a.size : Int)).bind fun t468 => (if (bt461.1.length : Int) = (wrap64 (t468 + 1)) then (if (t467.size : Int) = (wrap64 (16 * (bt461.1.length : Int))) then (if 0 ≤ (a.size : Int) then (if (a.size : Int) ≤ (t467.size : Int) then (clavigerlaw08_SchedBegins.j1 k a b bt461.1 ((t467.extract 0 ((a.size : Int) : Int).toNat).toList != a.toList)) else (none)) else (none)) else (clavigerlaw08_SchedBegins.j1 k a b bt461.1 true)) else (clavigerlaw08_SchedBegins.j1 k a b bt461.1 true)))) else (if (bt461.1.length : Int) = 0 then ((sched_Rounds.f (a.size : Int)).bind fun t465 => (if t465 = 0 then ((clavigerlaw08_awake.f k).bind fun t466 => (some t466)) else (some false))) else (some false)))) (fun k => by simp only [clavigerlaw08_SchedBegins.j0]; rw [if_neg (by simp)]) ?_
        exact evb (keys_n ok) (evn (by decide) (evp rfl (evs (rounds_i _) (evp (rnd_no ok) (evb awake08 (Ev.now _))))))
end Go.Proofs.Ytokkhnjedmlbhaa.M
end
section
namespace Go.Proofs.Ytokkhnjedmlbhaa.RowAid
set_option maxRecDepth 100000
def c (n : Nat) : Char := Char.ofNat n
def L : List Char := [c 104, c 97, c 114, c 110, c 101, c 115, c 115, c 32, c 50, c 53, c 55, c 48, c 97, c 52, c 51, c 49, c 101, c 53, c 52, c 48, c 48, c 98, c 97, c 54, c 51, c 101, c 54, c 102, c 101, c 53, c 55, c 55, c 55, c 56, c 102, c 97, c 52, c 56, c 50, c 99, c 57, c 102, c 56, c 101, c 100, c 98, c 57, c 99, c 53, c 50, c 50, c 51, c 53, c 48, c 97, c 101, c 101, c 53, c 51, c 48, c 98, c 102, c 54, c 97, c 50, c 53, c 49, c 99, c 57, c 50, c 99, c 52, c 32, c 99, c 117, c 116, c 32, c 97, c 116, c 32, c 99, c 108, c 97, c 118, c 105, c 103, c 101, c 114, c 47, c 99, c 108, c 97, c 118, c 105, c 103, c 101, c 114, c 108, c 97, c 119, c 48, c 53, c 46, c 70, c 105, c 101, c 108, c 100, c 84, c 101, c 108, c 108, c 115, c 32, c 99, c 108, c 97, c 118, c 105, c 103, c 101, c 114, c 47, c 99, c 108, c 97, c 118, c 105, c 103, c 101, c 114, c 108, c 97, c 119, c 48, c 53, c 46, c 70, c 105, c 101, c 108, c 100, c 76, c 97, c 119, c 115, c 32, c 99, c 108, c 97, c 118, c 105, c 103, c 101, c 114, c 47, c 99, c 108, c 97, c 118, c 105, c 103, c 101, c 114, c 108, c 97, c 119, c 48, c 53, c 46, c 70, c 105, c 101, c 108, c 100, c 68, c 111, c 116, c 115, c 32, c 99, c 108, c 97, c 118, c 105, c 103, c 101, c 114, c 47, c 99, c 108, c 97, c 118, c 105, c 103, c 101, c 114, c 108, c 97, c 119, c 48, c 55, c 46, c 82, c 111, c 117, c 110, c 100, c 65, c 100, c 100, c 115, c 32, c 99, c 108, c 97, c 118, c 105, c 103, c 101, c 114, c 47, c 99, c 108, c 97, c 118, c 105, c 103, c 101, c 114, c 108, c 97, c 119, c 48, c 54, c 46, c 83, c 98, c 111, c 120, c 66, c 121, c 32, c 99, c 108, c 97, c 118, c 105, c 103, c 101, c 114, c 47, c 99, c 108, c 97, c 118, c 105, c 103, c 101, c 114, c 108, c 97, c 119, c 51, c 56, c 46, c 79, c 112, c 101, c 110, c 66, c 97, c 99, c 107, c 32, c 99, c 108, c 97, c 118, c 105, c 103, c 101, c 114, c 47, c 99, c 108, c 97, c 118, c 105, c 103, c 101, c 114, c 108, c 97, c 119, c 48, c 54, c 46, c 83, c 98, c 111, c 120, c 84, c 101, c 108, c 108, c 115, c 32, c 99, c 108, c 97, c 118, c 105, c 103, c 101, c 114, c 47, c 99, c 108, c 97, c 118, c 105, c 103, c 101, c 114, c 108, c 97, c 119, c 48, c 54, c 46, c 83, c 98, c 111, c 120, c 79, c 110, c 99, c 101, c 32, c 99, c 108, c 97, c 118, c 105, c 103, c 101, c 114, c 47, c 99, c 108, c 97, c 118, c 105, c 103, c 101, c 114, c 108, c 97, c 119, c 51, c 56, c 46, c 79, c 112, c 101, c 110, c 66, c 105, c 110, c 100, c 115, c 32, c 99, c 108, c 97, c 118, c 105, c 103, c 101, c 114, c 47, c 99, c 108, c 97, c 118, c 105, c 103, c 101, c 114, c 108, c 97, c 119, c 48, c 55, c 46, c 82, c 111, c 117, c 110, c 100, c 84, c 101, c 108, c 108, c 115, c 32, c 99, c 108, c 97, c 118, c 105, c 103, c 101, c 114, c 47, c 99, c 108, c 97, c 118, c 105, c 103, c 101, c 114, c 108, c 97, c 119, c 48, c 55, c 46, c 82, c 111, c 117, c 110, c 100, c 66, c 97, c 99, c 107, c 32, c 99, c 108, c 97, c 118, c 105, c 103, c 101, c 114, c 47, c 99, c 108, c 97, c 118, c 105, c 103, c 101, c 114, c 108, c 97, c 119, c 48, c 56, c 46, c 83, c 99, c 104, c 101, c 100, c 66, c 101, c 103, c 105, c 110, c 115, c 32, c 99, c 108, c 97, c 118, c 105, c 103, c 101, c 114, c 47, c 99, c 108, c 97, c 118, c 105, c 103, c 101, c 114, c 108, c 97, c 119, c 48, c 56, c 46, c 83, c 99, c 104, c 101, c 100, c 84, c 101, c 108, c 108, c 115, c 32, c 99, c 108, c 97, c 118, c 105, c 103, c 101, c 114, c 47, c 99, c 108, c 97, c 118, c 105, c 103, c 101, c 114, c 108, c 97, c 119, c 48, c 57, c 46, c 65, c 101, c 115, c 84, c 101, c 108, c 108, c 115, c 32, c 99, c 108, c 97, c 118, c 105, c 103, c 101, c 114, c 47, c 99, c 108, c 97, c 118, c 105, c 103, c 101, c 114, c 108, c 97, c 119, c 48, c 57, c 46, c 65, c 101, c 115, c 66, c 97, c 99, c 107, c 32, c 99, c 108, c 97, c 118, c 105, c 103, c 101, c 114, c 47, c 99, c 108, c 97, c 118, c 105, c 103, c 101, c 114, c 108, c 97, c 119, c 48, c 57, c 46, c 65, c 101, c 115, c 77, c 97, c 110, c 121, c 32, c 99, c 108, c 97, c 118, c 105, c 103, c 101, c 114, c 47, c 99, c 108, c 97, c 118, c 105, c 103, c 101, c 114, c 108, c 97, c 119, c 49, c 49, c 46, c 67, c 109, c 97, c 99, c 68, c 111, c 117, c 98, c 108, c 101, c 115, c 32, c 99, c 108, c 97, c 118, c 105, c 103, c 101, c 114, c 47, c 99, c 108, c 97, c 118, c 105, c 103, c 101, c 114, c 108, c 97, c 119, c 49, c 49, c 46, c 67, c 109, c 97, c 99, c 84, c 101, c 108, c 108, c 115, c 32, c 99, c 108, c 97, c 118, c 105, c 103, c 101, c 114, c 47, c 99, c 108, c 97, c 118, c 105, c 103, c 101, c 114, c 108, c 97, c 119, c 49, c 48, c 46, c 67, c 98, c 99, c 84, c 101, c 108, c 108, c 115, c 32, c 99, c 108, c 97, c 118, c 105, c 103, c 101, c 114, c 47, c 99, c 108, c 97, c 118, c 105, c 103, c 101, c 114, c 108, c 97, c 119, c 49, c 48, c 46, c 67, c 98, c 99, c 66, c 97, c 99, c 107, c 32, c 99, c 108, c 97, c 118, c 105, c 103, c 101, c 114, c 47, c 99, c 108, c 97, c 118, c 105, c 103, c 101, c 114, c 108, c 97, c 119, c 49, c 49, c 46, c 67, c 109, c 97, c 99, c 67, c 104, c 101, c 99, c 107, c 115, c 32, c 99, c 108, c 97, c 118, c 105, c 103, c 101, c 114, c 47, c 99, c 108, c 97, c 118, c 105, c 103, c 101, c 114, c 108, c 97, c 119, c 49, c 50, c 46, c 75, c 100, c 102, c 84, c 101, c 108, c 108, c 115, c 32, c 99, c 108, c 97, c 118, c 105, c 103, c 101, c 114, c 47, c 99, c 108, c 97, c 118, c 105, c 103, c 101, c 114, c 108, c 97, c 119, c 49, c 50, c 46, c 75, c 100, c 102, c 66, c 101, c 103, c 105, c 110, c 115, c 32, c 99, c 108, c 97, c 118, c 105, c 103, c 101, c 114, c 47, c 99, c 108, c 97, c 118, c 105, c 103, c 101, c 114, c 108, c 97, c 119, c 51, c 53, c 46, c 68, c 101, c 114, c 105, c 118, c 101, c 84, c 101, c 108, c 108, c 115, c 32, c 99, c 108, c 97, c 118, c 105, c 103, c 101, c 114, c 47, c 99, c 108, c 97, c 118, c 105, c 103, c 101, c 114, c 108, c 97, c 119, c 51, c 53, c 46, c 68, c 101, c 114, c 105, c 118, c 101, c 83, c 105, c 122, c 101, c 115, c 32, c 99, c 108, c 97, c 118, c 105, c 103, c 101, c 114, c 47, c 99, c 108, c 97, c 118, c 105, c 103, c 101, c 114, c 108, c 97, c 119, c 49, c 52, c 46, c 80, c 97, c 100, c 119, c 114, c 97, c 112, c 84, c 101, c 108, c 108, c 115, c 32, c 99, c 108, c 97, c 118, c 105, c 103, c 101, c 114, c 47, c 99, c 108, c 97, c 118, c 105, c 103, c 101, c 114, c 108, c 97, c 119, c 49, c 52, c 46, c 80, c 97, c 100, c 119, c 114, c 97, c 112, c 66, c 97, c 99, c 107, c 32, c 99, c 108, c 97, c 118, c 105, c 103, c 101, c 114, c 47, c 99, c 108, c 97, c 118, c 105, c 103, c 101, c 114, c 108, c 97, c 119, c 49, c 52, c 46, c 80, c 97, c 100, c 119, c 114, c 97, c 112, c 79, c 110, c 101, c 32, c 99, c 108, c 97, c 118, c 105, c 103, c 101, c 114, c 47, c 99, c 108, c 97, c 118, c 105, c 103, c 101, c 114, c 108, c 97, c 119, c 51, c 55, c 46, c 83, c 101, c 97, c 108, c 84, c 101, c 108, c 108, c 115, c 32, c 99, c 108, c 97, c 118, c 105, c 103, c 101, c 114, c 47, c 99, c 108, c 97, c 118, c 105, c 103, c 101, c 114, c 108, c 97, c 119, c 51, c 55, c 46, c 83, c 101, c 97, c 108, c 72, c 111, c 108, c 100, c 115, c 32, c 99, c 108, c 97, c 118, c 105, c 103, c 101, c 114, c 47, c 99, c 108, c 97, c 118, c 105, c 103, c 101, c 114, c 108, c 97, c 119, c 49, c 51, c 46, c 87, c 114, c 97, c 112, c 84, c 101, c 108, c 108, c 115, c 32, c 99, c 108, c 97, c 118, c 105, c 103, c 101, c 114, c 47, c 99, c 108, c 97, c 118, c 105, c 103, c 101, c 114, c 108, c 97, c 119, c 49, c 51, c 46, c 87, c 114, c 97, c 112, c 66, c 97, c 99, c 107, c 32, c 99, c 108, c 97, c 118, c 105, c 103, c 101, c 114, c 47, c 99, c 108, c 97, c 118, c 105, c 103, c 101, c 114, c 108, c 97, c 119, c 49, c 51, c 46, c 87, c 114, c 97, c 112, c 79, c 110, c 101, c 32, c 99, c 108, c 97, c 118, c 105, c 103, c 101, c 114, c 47, c 99, c 108, c 97, c 118, c 105, c 103, c 101, c 114, c 108, c 97, c 119, c 51, c 56, c 46, c 79, c 112, c 101, c 110, c 84, c 101, c 108, c 108, c 115]
def WL : List (List Char) := [[c 97, c 116], [c 99, c 108, c 97, c 118, c 105, c 103, c 101, c 114, c 47, c 99, c 108, c 97, c 118, c 105, c 103, c 101, c 114, c 108, c 97, c 119, c 48, c 53, c 46, c 70, c 105, c 101, c 108, c 100, c 84, c 101, c 108, c 108, c 115], [c 99, c 108, c 97, c 118, c 105, c 103, c 101, c 114, c 47, c 99, c 108, c 97, c 118, c 105, c 103, c 101, c 114, c 108, c 97, c 119, c 48, c 53, c 46, c 70, c 105, c 101, c 108, c 100, c 76, c 97, c 119, c 115], [c 99, c 108, c 97, c 118, c 105, c 103, c 101, c 114, c 47, c 99, c 108, c 97, c 118, c 105, c 103, c 101, c 114, c 108, c 97, c 119, c 48, c 53, c 46, c 70, c 105, c 101, c 108, c 100, c 68, c 111, c 116, c 115], [c 99, c 108, c 97, c 118, c 105, c 103, c 101, c 114, c 47, c 99, c 108, c 97, c 118, c 105, c 103, c 101, c 114, c 108, c 97, c 119, c 48, c 55, c 46, c 82, c 111, c 117, c 110, c 100, c 65, c 100, c 100, c 115], [c 99, c 108, c 97, c 118, c 105, c 103, c 101, c 114, c 47, c 99, c 108, c 97, c 118, c 105, c 103, c 101, c 114, c 108, c 97, c 119, c 48, c 54, c 46, c 83, c 98, c 111, c 120, c 66, c 121], [c 99, c 108, c 97, c 118, c 105, c 103, c 101, c 114, c 47, c 99, c 108, c 97, c 118, c 105, c 103, c 101, c 114, c 108, c 97, c 119, c 51, c 56, c 46, c 79, c 112, c 101, c 110, c 66, c 97, c 99, c 107], [c 99, c 108, c 97, c 118, c 105, c 103, c 101, c 114, c 47, c 99, c 108, c 97, c 118, c 105, c 103, c 101, c 114, c 108, c 97, c 119, c 48, c 54, c 46, c 83, c 98, c 111, c 120, c 84, c 101, c 108, c 108, c 115], [c 99, c 108, c 97, c 118, c 105, c 103, c 101, c 114, c 47, c 99, c 108, c 97, c 118, c 105, c 103, c 101, c 114, c 108, c 97, c 119, c 48, c 54, c 46, c 83, c 98, c 111, c 120, c 79, c 110, c 99, c 101], [c 99, c 108, c 97, c 118, c 105, c 103, c 101, c 114, c 47, c 99, c 108, c 97, c 118, c 105, c 103, c 101, c 114, c 108, c 97, c 119, c 51, c 56, c 46, c 79, c 112, c 101, c 110, c 66, c 105, c 110, c 100, c 115], [c 99, c 108, c 97, c 118, c 105, c 103, c 101, c 114, c 47, c 99, c 108, c 97, c 118, c 105, c 103, c 101, c 114, c 108, c 97, c 119, c 48, c 55, c 46, c 82, c 111, c 117, c 110, c 100, c 84, c 101, c 108, c 108, c 115], [c 99, c 108, c 97, c 118, c 105, c 103, c 101, c 114, c 47, c 99, c 108, c 97, c 118, c 105, c 103, c 101, c 114, c 108, c 97, c 119, c 48, c 55, c 46, c 82, c 111, c 117, c 110, c 100, c 66, c 97, c 99, c 107], [c 99, c 108, c 97, c 118, c 105, c 103, c 101, c 114, c 47, c 99, c 108, c 97, c 118, c 105, c 103, c 101, c 114, c 108, c 97, c 119, c 48, c 56, c 46, c 83, c 99, c 104, c 101, c 100, c 66, c 101, c 103, c 105, c 110, c 115], [c 99, c 108, c 97, c 118, c 105, c 103, c 101, c 114, c 47, c 99, c 108, c 97, c 118, c 105, c 103, c 101, c 114, c 108, c 97, c 119, c 48, c 56, c 46, c 83, c 99, c 104, c 101, c 100, c 84, c 101, c 108, c 108, c 115], [c 99, c 108, c 97, c 118, c 105, c 103, c 101, c 114, c 47, c 99, c 108, c 97, c 118, c 105, c 103, c 101, c 114, c 108, c 97, c 119, c 48, c 57, c 46, c 65, c 101, c 115, c 84, c 101, c 108, c 108, c 115], [c 99, c 108, c 97, c 118, c 105, c 103, c 101, c 114, c 47, c 99, c 108, c 97, c 118, c 105, c 103, c 101, c 114, c 108, c 97, c 119, c 48, c 57, c 46, c 65, c 101, c 115, c 66, c 97, c 99, c 107], [c 99, c 108, c 97, c 118, c 105, c 103, c 101, c 114, c 47, c 99, c 108, c 97, c 118, c 105, c 103, c 101, c 114, c 108, c 97, c 119, c 48, c 57, c 46, c 65, c 101, c 115, c 77, c 97, c 110, c 121], [c 99, c 108, c 97, c 118, c 105, c 103, c 101, c 114, c 47, c 99, c 108, c 97, c 118, c 105, c 103, c 101, c 114, c 108, c 97, c 119, c 49, c 49, c 46, c 67, c 109, c 97, c 99, c 68, c 111, c 117, c 98, c 108, c 101, c 115], [c 99, c 108, c 97, c 118, c 105, c 103, c 101, c 114, c 47, c 99, c 108, c 97, c 118, c 105, c 103, c 101, c 114, c 108, c 97, c 119, c 49, c 49, c 46, c 67, c 109, c 97, c 99, c 84, c 101, c 108, c 108, c 115], [c 99, c 108, c 97, c 118, c 105, c 103, c 101, c 114, c 47, c 99, c 108, c 97, c 118, c 105, c 103, c 101, c 114, c 108, c 97, c 119, c 49, c 48, c 46, c 67, c 98, c 99, c 84, c 101, c 108, c 108, c 115], [c 99, c 108, c 97, c 118, c 105, c 103, c 101, c 114, c 47, c 99, c 108, c 97, c 118, c 105, c 103, c 101, c 114, c 108, c 97, c 119, c 49, c 48, c 46, c 67, c 98, c 99, c 66, c 97, c 99, c 107], [c 99, c 108, c 97, c 118, c 105, c 103, c 101, c 114, c 47, c 99, c 108, c 97, c 118, c 105, c 103, c 101, c 114, c 108, c 97, c 119, c 49, c 49, c 46, c 67, c 109, c 97, c 99, c 67, c 104, c 101, c 99, c 107, c 115], [c 99, c 108, c 97, c 118, c 105, c 103, c 101, c 114, c 47, c 99, c 108, c 97, c 118, c 105, c 103, c 101, c 114, c 108, c 97, c 119, c 49, c 50, c 46, c 75, c 100, c 102, c 84, c 101, c 108, c 108, c 115], [c 99, c 108, c 97, c 118, c 105, c 103, c 101, c 114, c 47, c 99, c 108, c 97, c 118, c 105, c 103, c 101, c 114, c 108, c 97, c 119, c 49, c 50, c 46, c 75, c 100, c 102, c 66, c 101, c 103, c 105, c 110, c 115], [c 99, c 108, c 97, c 118, c 105, c 103, c 101, c 114, c 47, c 99, c 108, c 97, c 118, c 105, c 103, c 101, c 114, c 108, c 97, c 119, c 51, c 53, c 46, c 68, c 101, c 114, c 105, c 118, c 101, c 84, c 101, c 108, c 108, c 115], [c 99, c 108, c 97, c 118, c 105, c 103, c 101, c 114, c 47, c 99, c 108, c 97, c 118, c 105, c 103, c 101, c 114, c 108, c 97, c 119, c 51, c 53, c 46, c 68, c 101, c 114, c 105, c 118, c 101, c 83, c 105, c 122, c 101, c 115], [c 99, c 108, c 97, c 118, c 105, c 103, c 101, c 114, c 47, c 99, c 108, c 97, c 118, c 105, c 103, c 101, c 114, c 108, c 97, c 119, c 49, c 52, c 46, c 80, c 97, c 100, c 119, c 114, c 97, c 112, c 84, c 101, c 108, c 108, c 115], [c 99, c 108, c 97, c 118, c 105, c 103, c 101, c 114, c 47, c 99, c 108, c 97, c 118, c 105, c 103, c 101, c 114, c 108, c 97, c 119, c 49, c 52, c 46, c 80, c 97, c 100, c 119, c 114, c 97, c 112, c 66, c 97, c 99, c 107], [c 99, c 108, c 97, c 118, c 105, c 103, c 101, c 114, c 47, c 99, c 108, c 97, c 118, c 105, c 103, c 101, c 114, c 108, c 97, c 119, c 49, c 52, c 46, c 80, c 97, c 100, c 119, c 114, c 97, c 112, c 79, c 110, c 101], [c 99, c 108, c 97, c 118, c 105, c 103, c 101, c 114, c 47, c 99, c 108, c 97, c 118, c 105, c 103, c 101, c 114, c 108, c 97, c 119, c 51, c 55, c 46, c 83, c 101, c 97, c 108, c 84, c 101, c 108, c 108, c 115], [c 99, c 108, c 97, c 118, c 105, c 103, c 101, c 114, c 47, c 99, c 108, c 97, c 118, c 105, c 103, c 101, c 114, c 108, c 97, c 119, c 51, c 55, c 46, c 83, c 101, c 97, c 108, c 72, c 111, c 108, c 100, c 115], [c 99, c 108, c 97, c 118, c 105, c 103, c 101, c 114, c 47, c 99, c 108, c 97, c 118, c 105, c 103, c 101, c 114, c 108, c 97, c 119, c 49, c 51, c 46, c 87, c 114, c 97, c 112, c 84, c 101, c 108, c 108, c 115], [c 99, c 108, c 97, c 118, c 105, c 103, c 101, c 114, c 47, c 99, c 108, c 97, c 118, c 105, c 103, c 101, c 114, c 108, c 97, c 119, c 49, c 51, c 46, c 87, c 114, c 97, c 112, c 66, c 97, c 99, c 107], [c 99, c 108, c 97, c 118, c 105, c 103, c 101, c 114, c 47, c 99, c 108, c 97, c 118, c 105, c 103, c 101, c 114, c 108, c 97, c 119, c 49, c 51, c 46, c 87, c 114, c 97, c 112, c 79, c 110, c 101], [c 99, c 108, c 97, c 118, c 105, c 103, c 101, c 114, c 47, c 99, c 108, c 97, c 118, c 105, c 103, c 101, c 114, c 108, c 97, c 119, c 51, c 56, c 46, c 79, c 112, c 101, c 110, c 84, c 101, c 108, c 108, c 115]]
theorem z0 : Try.prog.initOrder = String.ofList L := by kernel_rfl
theorem z1 : Try.prog.initOrder.toList = L := by rw [z0]; exact String.toList_ofList
theorem z2 : behindMainWord (wordsSigns L) = "cut".toList :: WL := by kernel_rfl
theorem z3 : behindMainWord (wordsSigns Try.prog.initOrder.toList) = "cut".toList :: WL := (congrArg (fun x => behindMainWord (wordsSigns x)) z1).trans z2
theorem strip_cut (r : List (List Char)) : stripLifts liftWords ("cut".toList :: r) = ([], "cut".toList :: r) := by
  unfold liftWords
  simp [stripLifts]
theorem make_cut {P : Program} {r : List (List Char)} (h : behindMainWord (wordsSigns P.initOrder.toList) = "cut".toList :: r) : P.make = some .cut := by
  unfold Program.make
  rw [h]
  simp
theorem lifts_cut {P : Program} {r : List (List Char)} (h : behindMainWord (wordsSigns P.initOrder.toList) = "cut".toList :: r) : P.headLifts = [] := by
  unfold Program.headLifts
  rw [h, strip_cut]
  simp
theorem final_cut {P : Program} {r : List (List Char)} (h : behindMainWord (wordsSigns P.initOrder.toList) = "cut".toList :: r) : P.liftsFinal = false := by
  unfold Program.liftsFinal
  rw [lifts_cut h, h]
  simp
theorem enter_cut {P : Program} {r : List (List Char)} (h : behindMainWord (wordsSigns P.initOrder.toList) = "cut".toList :: r) (h1 : P.laysLater = false) (h2 : P.bearsReflect = false) (h3 : P.doorFits [] = true) : P.mayEnter = true := by
  unfold Program.mayEnter
  rw [h]
  simp only [strip_cut]
  simp [h1, h2, h3]
theorem enter : Try.prog.mayEnter = true := enter_cut z3 (by as_aux_lemma => kernel_rfl) (by as_aux_lemma => kernel_rfl) (by as_aux_lemma => kernel_rfl)
theorem final : Try.prog.liftsFinal = false := final_cut z3
theorem make : Try.prog.make = some .cut := make_cut z3
theorem laid : laidOutB Try.prog = true := by kernel_rfl
theorem rowed : mapsRowed Try.prog = true := by kernel_rfl
theorem heard : Try.prog.stopsHeard = true := by kernel_rfl
theorem plain : Try.prog.plainKeys = true := by kernel_rfl
theorem and_mk {a b : Bool} (h : a = true) (k : b = true) : (a && b) = true := by rw [h, k]; rfl
end Go.Proofs.Ytokkhnjedmlbhaa.RowAid
end
