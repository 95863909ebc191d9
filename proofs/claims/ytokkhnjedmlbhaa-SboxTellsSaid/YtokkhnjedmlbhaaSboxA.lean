/-
  The three laws of sbox, plain.
-/
import Derived.Test.YtokkhnjedmlbhaaSboxP
import Derived.Test.YtokkhnjedmlbhaaPrx0
import Derived.Test.YtokkhnjedmlbhaaPrx10
import Derived.Test.YtokkhnjedmlbhaaPrx17
import Derived.Test.YtokkhnjedmlbhaaPrx18
import Derived.Test.YtokkhnjedmlbhaaPrx9
namespace Go.Proofs.Ytokkhnjedmlbhaa.M
open Go.RowKit Go.Proofs.Ytokkhnjedmlbhaa.Pr Go.Proofs.YtokkhnjedmlbhaaW.PrintWords Go.Proofs.YtokkhnjedmlbhaaW.PrintLast Go.Proofs.YtokkhnjedmlbhaaW.PrintMore Go.Proofs.YtokkhnjedmlbhaaGf
theorem rSubsL (d : Nat) : ∀ (i : Nat) (s : ByteArray), s.size ≤ 140737488355328 → i ≤ s.size → s.size - i = d → Ev (fun k => clavigerref06_Subs.l0 k s (mkB (((nb s).take i).map sN)) (i : Int)) (mkB ((nb s).map sN)) := by
  induction d with
  | zero =>
    intro i s hs hi hd
    obtain rfl : i = s.size := by omega
    rw [List.take_of_length_le (by rw [nb_length]; exact Nat.le_refl _)]
    exact Ev.step (f := fun _ => some (mkB ((nb s).map sN))) (fun k => by simp only [clavigerref06_Subs.l0]; rw [if_neg (by omega)]) (Ev.now _)
  | succ d ih =>
    intro i s hs hi hd
    have hl : i < (nb s).length := by rw [nb_length]; omega
    have hh := ih (i + 1) s hs (by omega) (by omega)
    rw [List.take_succ_eq_append_getElem hl, List.map_append, ← mkB_append] at hh
    refine Ev.step (f := fun k => (clavigerref06_Sub.f k (bt s (i : Int))).bind fun t185 => ((some (([t185] : List Int) : List Int)).bind fun y186 => (if (mkB (((nb s).take i).map sN)).size + (strOfNums y186).size ≤ 9223372036854775807 then (clavigerref06_Subs.l0 k s (mkB (((nb s).take i).map sN) ++ (strOfNums y186)) (wrap64 ((i : Int) + 1))) else (none)))) (fun k => by simp only [clavigerref06_Subs.l0]; rw [if_pos (by omega), if_pos (by omega)]) ?_
    have e : bb s i = (nb s)[i] := by rw [bb_nb, List.getD_eq_getElem?_getD, List.getElem?_eq_getElem hl]; rfl
    rw [bt_bb]
    refine evb (rsub_c (bb_lt s i)) (evs rfl ?_)
    rw [show strOfNums [((sN (bb s i) : Nat) : Int)] = mkB [sN (bb s i)] from strOfNums_cast [sN (bb s i)]]
    refine evp (by rw [mkB_size, mkB_size, List.length_map, List.length_take]; simp; omega) ?_
    rw [wrap_id (by omega) (by omega), e]
    exact hh
theorem rSubs_c (s : ByteArray) (hs : s.size ≤ 140737488355328) : Ev (fun k => clavigerref06_Subs.f k s) (mkB ((nb s).map sN)) := rSubsL s.size 0 s hs (by omega) (by omega)
theorem rBacksL (d : Nat) : ∀ (i : Nat) (s : ByteArray), s.size ≤ 140737488355328 → i ≤ s.size → s.size - i = d → Ev (fun k => clavigerref06_Backs.l0 k s (mkB (((nb s).take i).map bN)) (i : Int)) (mkB ((nb s).map bN)) := by
  induction d with
  | zero =>
    intro i s hs hi hd
    obtain rfl : i = s.size := by omega
    rw [List.take_of_length_le (by rw [nb_length]; exact Nat.le_refl _)]
    exact Ev.step (f := fun _ => some (mkB ((nb s).map bN))) (fun k => by simp only [clavigerref06_Backs.l0]; rw [if_neg (by omega)]) (Ev.now _)
  | succ d ih =>
    intro i s hs hi hd
    have hl : i < (nb s).length := by rw [nb_length]; omega
    have hh := ih (i + 1) s hs (by omega) (by omega)
    rw [List.take_succ_eq_append_getElem hl, List.map_append, ← mkB_append] at hh
    refine Ev.step (f := fun k => (clavigerref06_Back.f k (bt s (i : Int))).bind fun t185 => ((some (([t185] : List Int) : List Int)).bind fun y186 => (if (mkB (((nb s).take i).map bN)).size + (strOfNums y186).size ≤ 9223372036854775807 then (clavigerref06_Backs.l0 k s (mkB (((nb s).take i).map bN) ++ (strOfNums y186)) (wrap64 ((i : Int) + 1))) else (none)))) (fun k => by simp only [clavigerref06_Backs.l0]; rw [if_pos (by omega), if_pos (by omega)]) ?_
    have e : bb s i = (nb s)[i] := by rw [bb_nb, List.getD_eq_getElem?_getD, List.getElem?_eq_getElem hl]; rfl
    rw [bt_bb]
    refine evb (rback_c (bb_lt s i)) (evs rfl ?_)
    rw [show strOfNums [((bN (bb s i) : Nat) : Int)] = mkB [bN (bb s i)] from strOfNums_cast [bN (bb s i)]]
    refine evp (by rw [mkB_size, mkB_size, List.length_map, List.length_take]; simp; omega) ?_
    rw [wrap_id (by omega) (by omega), e]
    exact hh
theorem rBacks_c (s : ByteArray) (hs : s.size ≤ 140737488355328) : Ev (fun k => clavigerref06_Backs.f k s) (mkB ((nb s).map bN)) := rBacksL s.size 0 s hs (by omega) (by omega)
theorem table_all : sbox_Table.f 300 = some (mkB sT) := by decide +kernel
theorem table_c : Ev (fun k => sbox_Table.f k) (mkB sT) := Ev.of sbox_Table.mono (k := 300) table_all
theorem rtable_all : clavigerref06_Table.f 600 = some (mkB sT) := by decide +kernel
theorem rtable_c : Ev (fun k => clavigerref06_Table.f k) (mkB sT) := Ev.of clavigerref06_Table.mono (k := 600) rtable_all
set_option maxRecDepth 100000 in
theorem two_subs : (mkB ((nb ⟨#[0, 83]⟩).map sN)).toList = ([99, 237] : List UInt8) := by decide +kernel
set_option maxRecDepth 100000 in
theorem awake06 : Ev (fun k => clavigerlaw06_awake.f k) true := by
  unfold clavigerlaw06_awake.f
  have h0 := sub_c (show 0 < 256 by omega)
  have h83 := sub_c (show 83 < 256 by omega)
  have hb := back_c (show 237 < 256 by omega)
  rw [show sN 0 = 99 from by decide +kernel] at h0
  rw [show sN 83 = 237 from by decide +kernel] at h83
  rw [show bN 237 = 83 from by decide +kernel] at hb
  have ht := turn_c (show 129 < 256 by omega) 1
  rw [show rot 129 ((1 : Int) % 8).toNat = 3 from by decide +kernel] at ht
  refine evb table_c (evb h0 (evp rfl (evb h83 (evp rfl (evb hb (evp rfl (evp (by rw [mkB_size, sT, List.length_map, List.length_range]; rfl) ?_)))))))
  refine evb (subs_c _ (by decide)) (evp two_subs (evs ht ?_))
  exact Ev.now _
theorem SboxTells : clavigerlaw06_SboxTells.Pure := by
  intro a0 n s w0 w1 hs
  obtain ⟨a, ha, rfl⟩ := of_byte w0
  have hn := of_i64 w1
  refine Ev.rounds (?_ : Ev _ true)
  unfold clavigerlaw06_SboxTells.f
  by_cases h : (s.size : Int) > 200
  · exact evp h (evb awake06 (Ev.now _))
  · refine evn h (evs (turn_c ha n) (evb (rturn_c ha n hn.1 hn.2) (evp rfl ?_)))
    refine evb (sub_c ha) (evb (rsub_c ha) (evp rfl (evb (back_c ha) (evb (rback_c ha) (evp rfl ?_)))))
    refine evb (subs_c s (by omega)) (evb (rSubs_c s (by omega)) (evp rfl (evb (backs_c s (by omega)) (evb (rBacks_c s (by omega)) (evp rfl ?_)))))
    exact evb table_c (evb rtable_c (evp rfl (evb awake06 (Ev.now _))))
theorem SboxOnce : clavigerlaw06_SboxOnce.Pure := by
  intro a0 a1 w0 w1
  obtain ⟨a, ha, rfl⟩ := of_byte w0
  obtain ⟨b, hb, rfl⟩ := of_byte w1
  refine Ev.rounds (?_ : Ev _ true)
  unfold clavigerlaw06_SboxOnce.f
  have h1 := bs_id ha
  have hba := back_c (sN_lt a)
  rw [h1.1] at hba
  have hsb := sub_c (bN_lt a)
  rw [h1.2.1] at hsb
  refine evb (sub_c ha) (evb (sub_c hb) (evb hba (evp rfl (evb (back_c ha) (evb hsb (evp rfl (evp ?_ (evn (by have := h1.2.2.1; omega) (evs (add_c (sN_lt a) ha) (evn (by have := h1.2.2.2; omega) (evb awake06 (Ev.now _))))))))))))
  have hiff : (sN a = sN b) ↔ (a = b) := ⟨fun e => by have := h1.1; rw [e, (bs_id hb).1] at this; exact this.symm, fun e => by rw [e]⟩
  by_cases e : a = b
  · subst e; simp
  · have : ¬ sN a = sN b := fun z => e (hiff.1 z)
    have e1 : (((sN a : Nat) : Int) == ((sN b : Nat) : Int)) = false := by simp; omega
    have e2 : ((a : Int) == (b : Int)) = false := by simp; omega
    rw [e1, e2]; rfl
/-- 99, and the first n turned ones. -/
def byT (b : Nat) : Nat → Nat
  | 0 => 99
  | n + 1 => byT b n ^^^ rot b n
theorem byT_lt {b : Nat} (hb : b < 256) : ∀ n, n ≤ 5 → byT b n < 256
  | 0, _ => by show 99 < 256; omega
  | n + 1, h => xor_lt (byT_lt hb n (by omega)) (rot_lt hb (by omega))
theorem by_all : allB 256 (fun b => Nat.beq (byT b 5) (mixN b)) = true := by decide +kernel
theorem byL (d : Nat) : ∀ (i a : Nat), i ≤ 5 → 5 - i = d → a < 256 → Ev (fun k => clavigerlaw06_SboxBy.l0 k (a : Int) ((inv a : Nat) : Int) ((byT (inv a) i : Nat) : Int) (i : Int)) true := by
  induction d with
  | zero =>
    intro i a hi hd ha
    obtain rfl : i = 5 := by omega
    rw [show byT (inv a) 5 = sN a from Nat.eq_of_beq_eq_true (allB_of by_all _ (inv_lt a))]
    refine Ev.step (f := fun k => (sbox_Sub.f k (a : Int)).bind fun t181 => (if t181 = ((sN a : Nat) : Int) then ((clavigerlaw06_awake.f k).bind fun t182 => (some t182)) else (some false))) (fun k => by simp only [clavigerlaw06_SboxBy.l0]; rw [if_neg (by omega)]) ?_
    exact evb (sub_c ha) (evp rfl (evb awake06 (Ev.now _)))
  | succ d ih =>
    intro i a hi hd ha
    have hh := ih (i + 1) a (by omega) (by omega) ha
    refine Ev.step (f := fun k => (clavigerref06_Turn.f k ((inv a : Nat) : Int) (i : Int)).bind fun t179 => ((clavigerref05_Add.f ((byT (inv a) i : Nat) : Int) t179).bind fun t180 => (clavigerlaw06_SboxBy.l0 k (a : Int) ((inv a : Nat) : Int) t180 (wrap64 ((i : Int) + 1))))) (fun k => by simp only [clavigerlaw06_SboxBy.l0]; rw [if_pos (by omega)]) ?_
    have ht := rturn_c (inv_lt a) (i : Int) (by omega) (by omega)
    rw [show ((i : Int) % 8).toNat = i by omega] at ht
    refine evb ht (evs (radd_c (byT_lt (inv_lt a) i (by omega)) (rot_lt (inv_lt a) (by omega))) ?_)
    rw [wrap_id (by omega) (by omega)]
    exact hh
theorem SboxBy : clavigerlaw06_SboxBy.Pure := by
  intro a0 w0
  obtain ⟨a, ha, rfl⟩ := of_byte w0
  refine Ev.rounds (?_ : Ev _ true)
  unfold clavigerlaw06_SboxBy.f
  exact evb (rinv_c ha) (byL 5 0 a (by omega) (by omega) ha)
end Go.Proofs.Ytokkhnjedmlbhaa.M
