/-
  The reference's Subs and Backs, plain.
-/
import Derived.Test.YtokkhnjedmlbhaaSboxP
import Derived.Test.YtokkhnjedmlbhaaPrg06
import Derived.Test.YtokkhnjedmlbhaaPrk
namespace Go.Proofs.Ytokkhnjedmlbhaa.M
open Go.RowKit Go.Proofs.Ytokkhnjedmlbhaa.Pr Go.Proofs.YtokkhnjedmlbhaaW.PrintWords Go.Proofs.YtokkhnjedmlbhaaW.PrintLast Go.Proofs.YtokkhnjedmlbhaaW.PrintMore Go.Proofs.YtokkhnjedmlbhaaGf
theorem rSubsL (d : Nat) : ∀ (i : Nat) (s : ByteArray), s.size ≤ 140737488355328 → i ≤ s.size → s.size - i = d → Ev (fun k => clavigerref06_Subs.l0 k s (mkB (((nb s).take i).map sN)) (i : Int)) (mkB ((nb s).map sN)) := by
  induction d with
  | zero =>
    intro i s hs hi hd
    obtain rfl : i = s.size := by omega
    rw [List.take_of_length_le (by rw [nb_length]; exact Nat.le_refl _)]
    exact Ev.step (f := fun _ => some (mkB ((nb s).map sN))) (fun k => by simp only [clavigerref06_Subs.l0]; rw [if_neg (by omega)]) (Ev.now _)
  | succ d ih =>
    intro i s hs hi hd
    have hl : i < (nb s).length := by rw [nb_length]; omega
    have hh := ih (i + 1) s hs (by omega) (by omega)
    rw [List.take_succ_eq_append_getElem hl, List.map_append, ← mkB_append] at hh
    refine Ev.step (f := fun k => (clavigerref06_Sub.f k (bt s (i : Int))).bind fun t185 => ((some (([t185] : List Int) : List Int)).bind fun y186 => (if (mkB (((nb s).take i).map sN)).size + (strOfNums y186).size ≤ 9223372036854775807 then (clavigerref06_Subs.l0 k s (mkB (((nb s).take i).map sN) ++ (strOfNums y186)) (wrap64 ((i : Int) + 1))) else (none)))) (fun k => by simp only [clavigerref06_Subs.l0]; rw [if_pos (by omega), if_pos (by omega)]) ?_
    have e : bb s i = (nb s)[i] := by rw [bb_nb, List.getD_eq_getElem?_getD, List.getElem?_eq_getElem hl]; rfl
    rw [bt_bb]
    refine evb (rsub_c (bb_lt s i)) (evs rfl ?_)
    rw [show strOfNums [((sN (bb s i) : Nat) : Int)] = mkB [sN (bb s i)] from strOfNums_cast [sN (bb s i)]]
    refine evp (by rw [mkB_size, mkB_size, List.length_map, List.length_take]; simp; omega) ?_
    rw [wrap_id (by omega) (by omega), e]
    exact hh
theorem rSubs_c (s : ByteArray) (hs : s.size ≤ 140737488355328) : Ev (fun k => clavigerref06_Subs.f k s) (mkB ((nb s).map sN)) := rSubsL s.size 0 s hs (by omega) (by omega)
theorem rBacksL (d : Nat) : ∀ (i : Nat) (s : ByteArray), s.size ≤ 140737488355328 → i ≤ s.size → s.size - i = d → Ev (fun k => clavigerref06_Backs.l0 k s (mkB (((nb s).take i).map bN)) (i : Int)) (mkB ((nb s).map bN)) := by
  induction d with
  | zero =>
    intro i s hs hi hd
    obtain rfl : i = s.size := by omega
    rw [List.take_of_length_le (by rw [nb_length]; exact Nat.le_refl _)]
    exact Ev.step (f := fun _ => some (mkB ((nb s).map bN))) (fun k => by simp only [clavigerref06_Backs.l0]; rw [if_neg (by omega)]) (Ev.now _)
  | succ d ih =>
    intro i s hs hi hd
    have hl : i < (nb s).length := by rw [nb_length]; omega
    have hh := ih (i + 1) s hs (by omega) (by omega)
    rw [List.take_succ_eq_append_getElem hl, List.map_append, ← mkB_append] at hh
    refine Ev.step (f := fun k => (clavigerref06_Back.f k (bt s (i : Int))).bind fun t185 => ((some (([t185] : List Int) : List Int)).bind fun y186 => (if (mkB (((nb s).take i).map bN)).size + (strOfNums y186).size ≤ 9223372036854775807 then (clavigerref06_Backs.l0 k s (mkB (((nb s).take i).map bN) ++ (strOfNums y186)) (wrap64 ((i : Int) + 1))) else (none)))) (fun k => by simp only [clavigerref06_Backs.l0]; rw [if_pos (by omega), if_pos (by omega)]) ?_
    have e : bb s i = (nb s)[i] := by rw [bb_nb, List.getD_eq_getElem?_getD, List.getElem?_eq_getElem hl]; rfl
    rw [bt_bb]
    refine evb (rback_c (bb_lt s i)) (evs rfl ?_)
    rw [show strOfNums [((bN (bb s i) : Nat) : Int)] = mkB [bN (bb s i)] from strOfNums_cast [bN (bb s i)]]
    refine evp (by rw [mkB_size, mkB_size, List.length_map, List.length_take]; simp; omega) ?_
    rw [wrap_id (by omega) (by omega), e]
    exact hh
theorem rBacks_c (s : ByteArray) (hs : s.size ≤ 140737488355328) : Ev (fun k => clavigerref06_Backs.f k s) (mkB ((nb s).map bN)) := rBacksL s.size 0 s hs (by omega) (by omega)
theorem table_all : sbox_Table.f 300 = some (mkB sT) := by decide +kernel
theorem table_c : Ev (fun k => sbox_Table.f k) (mkB sT) := Ev.of sbox_Table.mono (k := 300) table_all
end Go.Proofs.Ytokkhnjedmlbhaa.M
