-- several texts in one (by the session's program shake.py)
import Derived.Test.YtmcpfkgahmdkgaaZPreq3
import Derived.Test.YtmcpfkgahmdkgaaZUnhex
import Derived.Test.YtmcpfkgahmdkgaaZPrg02
section
namespace Go.Proofs.Ytmcpfkgahmdkgaa.M
open Go.RowKit Go.Proofs.Ytmcpfkgahmdkgaa.Pr Go.Proofs.YtmcpfkgahmdkgaaW.PrintWords Go.Proofs.YtmcpfkgahmdkgaaW.PrintLast Go.Proofs.YtmcpfkgahmdkgaaW.PrintMore
set_option linter.unusedSimpArgs false
/-- A digit's sign. -/
def sg (d : Nat) : Nat := if d < 10 then 48 + d else 55 + d
/-- A sign's digit. -/
def sgV (c : Nat) : Option Nat := if 48 ≤ c ∧ c ≤ 57 then some (c - 48) else if 65 ≤ c ∧ c ≤ 70 then some (c - 55) else none
def hexL : List Nat → List Nat
  | [] => []
  | b :: r => sg (b / 16) :: sg (b % 16) :: hexL r
def unhexL : List Nat → Option (List Nat)
  | [] => some []
  | [_] => none
  | a :: b :: r =>
    match sgV a, sgV b with
    | some x, some y => (unhexL r).map (fun q => (16 * x + y) :: q)
    | _, _ => none
theorem sgV_lt {c x : Nat} (h : sgV c = some x) : x < 16 ∧ sg x = c := by
  unfold sgV at h
  split at h
  · rename_i g
    obtain rfl := Option.some.inj h
    exact ⟨by omega, by unfold sg; rw [if_pos (by omega)]; omega⟩
  · split at h
    · rename_i g
      obtain rfl := Option.some.inj h
      exact ⟨by omega, by unfold sg; rw [if_neg (by omega)]; omega⟩
    · cases h
theorem hexL_len (l : List Nat) : (hexL l).length = 2 * l.length := by
  induction l with
  | nil => rfl
  | cons b r ih => simp only [hexL, List.length_cons, ih]; omega
theorem hex_unhex : ∀ {l q : List Nat}, unhexL l = some q → hexL q = l ∧ isB q ∧ 2 * q.length = l.length
  | [], q, h => by obtain rfl := Option.some.inj h; exact ⟨rfl, (fun x hx => by cases hx), rfl⟩
  | [_], q, h => by cases h
  | a :: b :: r, q, h => by
    simp only [unhexL] at h
    cases ha : sgV a with
    | none => rw [ha] at h; cases h
    | some x =>
      cases hb : sgV b with
      | none => rw [ha, hb] at h; cases h
      | some y =>
        rw [ha, hb] at h
        simp only at h
        cases hr : unhexL r with
        | none => rw [hr] at h; cases h
        | some p =>
          rw [hr] at h
          simp only [Option.map_some, Option.some.injEq] at h
          subst h
          obtain ⟨h1, h2, h3⟩ := hex_unhex hr
          obtain ⟨x1, x2⟩ := sgV_lt ha
          obtain ⟨y1, y2⟩ := sgV_lt hb
          refine ⟨?_, ?_, by simp only [List.length_cons]; omega⟩
          · simp only [hexL]
            rw [h1, show (16 * x + y) / 16 = x by omega, show (16 * x + y) % 16 = y by omega, x2, y2]
          · intro z hz
            rcases List.mem_cons.1 hz with rfl | hz
            · omega
            · exact h2 z hz
theorem nb_cons_drop {s : ByteArray} {i b : Nat} {r : List Nat} (h : (nb s).drop i = b :: r) : bb s i = b ∧ i < s.size ∧ (nb s).drop (i + 1) = r ∧ b < 256 := by
  have hi : i < (nb s).length := by
    rcases Nat.lt_or_ge i (nb s).length with g | g
    · exact g
    · rw [List.drop_of_length_le g] at h; cases h
  have hb : b < 256 := isB_nb s b (List.mem_of_mem_drop (i := i) (by rw [h]; simp))
  rw [List.drop_eq_getElem_cons hi] at h
  injection h with h1 h2
  refine ⟨?_, by rw [nb_length] at hi; exact hi, h2, hb⟩
  rw [bb_nb, List.getD_eq_getElem?_getD, List.getElem?_eq_getElem hi]
  exact h1
theorem nb_nil_drop {s : ByteArray} {i : Nat} (h : (nb s).drop i = []) (hi : i ≤ s.size) : i = s.size := by
  have := congrArg List.length h
  rw [List.length_drop, nb_length] at this
  simp at this
  omega
theorem tab_sg (q : Nat) (h : q < 16) : bt (⟨#[48, 49, 50, 51, 52, 53, 54, 55, 56, 57, 65, 66, 67, 68, 69, 70]⟩ : ByteArray) (q : Int) = ((sg q : Nat) : Int) := by
  have k : ∀ q : Fin 16, bt (⟨#[48, 49, 50, 51, 52, 53, 54, 55, 56, 57, 65, 66, 67, 68, 69, 70]⟩ : ByteArray) (q.1 : Int) = ((sg q.1 : Nat) : Int) := by decide +kernel
  exact k ⟨q, h⟩
theorem cut_sg (q : Nat) (h : q < 16) : (⟨#[48, 49, 50, 51, 52, 53, 54, 55, 56, 57, 65, 66, 67, 68, 69, 70]⟩ : ByteArray).extract q (q + 1) = mkB [sg q] := by
  have k : ∀ q : Fin 16, (⟨#[48, 49, 50, 51, 52, 53, 54, 55, 56, 57, 65, 66, 67, 68, 69, 70]⟩ : ByteArray).extract q.1 (q.1 + 1) = mkB [sg q.1] := by decide +kernel
  exact k ⟨q, h⟩
theorem and15 (b : Nat) (h : b < 256) : Go.bits .and .u8 (b : Int) 15 = ((b % 16 : Nat) : Int) := by
  have k : ∀ b : Fin 256, Go.bits .and .u8 (b.1 : Int) 15 = ((b.1 % 16 : Nat) : Int) := by decide +kernel
  exact k ⟨b, h⟩
theorem hexLoop (s : ByteArray) (hs : s.size ≤ 1000000) : ∀ (R O : List Nat) (i : Nat), (nb s).drop i = R → i ≤ s.size → O.length + 2 * R.length ≤ 100000000 → Ev (fun k => digits_Hex.l0 k s (O.map Int.ofNat) (s.size : Int) (i : Int)) (mkB (O ++ hexL R))
  | [], O, i, h, hi, _ => by
    have := nb_nil_drop h hi
    refine evu ?_
    simp only [digits_Hex.l0]
    refine evn (by omega) ?_
    rw [strOfNums_cast, hexL, List.append_nil]
    exact Ev.now _
  | b :: R, O, i, h, hi, ho => by
    obtain ⟨h1, h2, h3, h4⟩ := nb_cons_drop h
    rw [List.length_cons] at ho
    have ih := hexLoop s hs R (O ++ [sg (b / 16), sg (b % 16)]) (i + 1) h3 h2 (by simp; omega)
    refine evu ?_
    simp only [digits_Hex.l0]
    rw [bt_bb, h1, and15 b h4, show ((b : Nat) : Int) / 16 = ((b / 16 : Nat) : Int) by omega, tab_sg _ (by omega), tab_sg _ (by omega), wrap_id (x := (i : Int) + 1) (by omega) (by omega)]
    refine evp (by omega) (evp (by omega) (evp (by omega) (evp (by omega) (evp (by omega) (evp (by omega) (evp (by omega) (evs rfl (evp (by simp; omega) ?_))))))))
    rw [show hexL (b :: R) = [sg (b / 16), sg (b % 16)] ++ hexL R from rfl, ← List.append_assoc]
    rw [List.map_append] at ih
    exact ih
theorem hex_c (s : ByteArray) (hs : s.size ≤ 1000000) : Ev (fun k => digits_Hex.f k s) (mkB (hexL (nb s))) := by
  unfold digits_Hex.f
  rw [wrap_id (by omega) (by omega)]
  refine evp (by omega) (evp (by omega) ?_)
  have := hexLoop s hs (nb s) [] 0 rfl (by omega) (by rw [nb_length]; simp; omega)
  exact this
theorem rhexLoop (s : ByteArray) (hs : s.size ≤ 1000000) : ∀ (R O : List Nat) (i : Nat), (nb s).drop i = R → i ≤ s.size → O.length + 2 * R.length ≤ 100000000 → Ev (fun k => clavigerref02_Hex.l0 k s (mkB O) (i : Int)) (mkB (O ++ hexL R))
  | [], O, i, h, hi, _ => by
    have := nb_nil_drop h hi
    refine evu ?_
    simp only [clavigerref02_Hex.l0]
    refine evn (by omega) ?_
    rw [hexL, List.append_nil]
    exact Ev.now _
  | b :: R, O, i, h, hi, ho => by
    obtain ⟨h1, h2, h3, h4⟩ := nb_cons_drop h
    rw [List.length_cons] at ho
    have ih := rhexLoop s hs R (O ++ [sg (b / 16), sg (b % 16)]) (i + 1) h3 h2 (by simp; omega)
    have t1 : Int.tdiv (b : Int) 16 = ((b / 16 : Nat) : Int) := by rw [Int.tdiv_eq_ediv_of_nonneg (by omega)]; rfl
    have t2 : Int.tmod (b : Int) 16 = ((b % 16 : Nat) : Int) := by rw [Int.tmod_eq_emod_of_nonneg (by omega)]; rfl
    have c1 := cut_sg (b / 16) (by omega)
    have c2 := cut_sg (b % 16) (by omega)
    refine evu ?_
    simp only [clavigerref02_Hex.l0]
    rw [bt_bb, h1, wrap_id (x := (b : Int)) (by omega) (by omega), t1, t2, wrap_id (x := ((b / 16 : Nat) : Int)) (by omega) (by omega), wrap_id (x := ((b / 16 : Nat) : Int) + 1) (by omega) (by omega), wrap_id (x := ((b % 16 : Nat) : Int) + 1) (by omega) (by omega), wrap_id (x := (i : Int) + 1) (by omega) (by omega),
      show Int.toNat (((b / 16 : Nat) : Int) + 1) = b / 16 + 1 by omega, show Int.toNat (((b % 16 : Nat) : Int) + 1) = b % 16 + 1 by omega, Int.toNat_natCast, Int.toNat_natCast, c1, c2, mkB_append, mkB_append]
    refine evp (by omega) (evp (by omega) (evp (by omega) (evp (by omega) (evp (by omega) (evp (by rw [mkB_size, mkB_size]; simp; omega) (evp (by omega) (evp (by omega) (evp (by omega) (evp (by rw [mkB_size, mkB_size]; simp; omega) ?_)))))))))
    rw [show hexL (b :: R) = [sg (b / 16), sg (b % 16)] ++ hexL R from rfl, ← List.append_assoc, List.append_assoc O]
    exact ih
theorem rhex_c (s : ByteArray) (hs : s.size ≤ 1000000) : Ev (fun k => clavigerref02_Hex.f k s) (mkB (hexL (nb s))) := by
  unfold clavigerref02_Hex.f
  have := rhexLoop s hs (nb s) [] 0 rfl (by omega) (by rw [nb_length]; simp; omega)
  exact this
/-- What Unhex answers, plain. -/
def unhexA (t : ByteArray) : ByteArray × Bool :=
  match unhexL (nb t) with
  | some q => (mkB q, true)
  | none => (⟨#[]⟩, false)
def dV (c : Nat) : Int := match sgV c with
  | some x => (x : Int)
  | none => -1
theorem dV_index (c : Nat) (h : c < 256) : Lib.indexByte [48, 49, 50, 51, 52, 53, 54, 55, 56, 57, 65, 66, 67, 68, 69, 70] (Int.toNat (c : Int)).toUInt8 = dV c := by
  have k : ∀ c : Fin 256, Lib.indexByte [48, 49, 50, 51, 52, 53, 54, 55, 56, 57, 65, 66, 67, 68, 69, 70] (Int.toNat (c.1 : Int)).toUInt8 = dV c.1 := by decide +kernel
  exact k ⟨c, h⟩
theorem rval_c (c : Nat) (h : c < 256) : Ev (fun k => clavigerref02_Value.f k (c : Int)) (dV c) := by
  have k : ∀ c : Fin 256, clavigerref02_Value.f 20 (c.1 : Int) = some (dV c.1) := by decide +kernel
  exact Ev.of (clavigerref02_Value.mono _) (k := 20) (k ⟨c, h⟩)
theorem dV_some {c x : Nat} (h : sgV c = some x) : dV c = (x : Int) := by unfold dV; rw [h]
theorem dV_none {c : Nat} (h : sgV c = none) : dV c = -1 := by unfold dV; rw [h]
theorem runhexLoop (t : ByteArray) (ht : t.size ≤ 1000000) (he : t.size % 2 = 0) : ∀ (R O : List Nat) (i : Nat), (nb t).drop i = R → i ≤ t.size → i % 2 = 0 → O.length ≤ 1000000 + i → Ev (fun k => clavigerref02_Unhex.l0 k t (mkB O) (i : Int)) (match unhexL R with | some q => (mkB (O ++ q), true) | none => (⟨#[]⟩, false))
  | [], O, i, h, hi, h2, _ => by
    have := nb_nil_drop h hi
    refine evu ?_
    simp only [clavigerref02_Unhex.l0, unhexL]
    refine evn (by omega) ?_
    rw [List.append_nil]
    exact Ev.now _
  | [_], O, i, h, hi, h2, _ => by
    obtain ⟨-, g2, g3, -⟩ := nb_cons_drop h
    have := nb_nil_drop g3 g2
    omega
  | a :: b :: R, O, i, h, hi, h2, ho => by
    obtain ⟨a1, a2, a3, a4⟩ := nb_cons_drop h
    obtain ⟨b1, b2, b3, b4⟩ := nb_cons_drop a3
    refine evu ?_
    simp only [clavigerref02_Unhex.l0, unhexL]
    rw [bt_bb, a1, wrap_id (x := (i : Int) + 1) (by omega) (by omega), wrap_id (x := (i : Int) + 2) (by omega) (by omega), show (i : Int) + 1 = ((i + 1 : Nat) : Int) by omega, bt_bb, b1, show (i : Int) + 2 = ((i + 1 + 1 : Nat) : Int) by omega]
    refine evp (by omega) (evp (by omega) (evb (rval_c a a4) (evp (by omega) (evp (by omega) (evb (rval_c b b4) ?_)))))
    cases ha : sgV a with
    | none =>
      rw [dV_none ha]
      exact evp (by decide) (Ev.now _)
    | some x =>
      obtain ⟨x1, -⟩ := sgV_lt ha
      rw [dV_some ha]
      refine evn (by omega) ?_
      cases hb : sgV b with
      | none =>
        rw [dV_none hb]
        exact evp (by decide) (Ev.now _)
      | some y =>
        obtain ⟨y1, -⟩ := sgV_lt hb
        rw [dV_some hb]
        refine evn (by omega) (evs rfl ?_)
        rw [wrap_id (x := 16 * (x : Int)) (by omega) (by omega), wrap_id (x := 16 * (x : Int) + (y : Int)) (by omega) (by omega), show (16 * (x : Int) + (y : Int)) % 256 = ((16 * x + y : Nat) : Int) by omega, sNs1, mkB_append]
        refine evp (by rw [mkB_size, mkB_size]; simp; omega) ?_
        have ih := runhexLoop t ht he R (O ++ [16 * x + y]) (i + 1 + 1) b3 b2 (by omega) (by simp; omega)
        cases hr : unhexL R with
        | none => rw [hr] at ih; exact ih
        | some q =>
          rw [hr] at ih
          have ih2 : Ev (fun k => clavigerref02_Unhex.l0 k t (mkB (O ++ [16 * x + y])) ((i + 1 + 1 : Nat) : Int)) (mkB (O ++ [16 * x + y] ++ q), true) := ih
          simp only [Option.map_some]
          rw [List.append_assoc] at ih2
          exact ih2
theorem unhexL_odd : ∀ (l : List Nat), l.length % 2 = 1 → unhexL l = none
  | [], h => by cases h
  | [_], _ => rfl
  | a :: b :: r, h => by
    simp only [unhexL]
    rw [unhexL_odd r (by simp only [List.length_cons] at h; omega)]
    cases sgV a <;> cases sgV b <;> rfl
theorem runhex_c (t : ByteArray) (ht : t.size ≤ 1000000) : Ev (fun k => clavigerref02_Unhex.f k t) (unhexA t) := by
  unfold clavigerref02_Unhex.f unhexA
  by_cases h : (t.size : Int) % 2 = 0
  · refine evp h ?_
    have := runhexLoop t ht (by omega) (nb t) [] 0 rfl (by omega) rfl (by simp)
    exact this
  · refine evn h ?_
    rw [unhexL_odd (nb t) (by rw [nb_length]; omega)]
    exact Ev.now _
theorem vd_dV (t : ByteArray) (j : Nat) : vd t j = dV ((nb t).getD j 0) := by
  unfold vd
  rw [bt_bb, dV_index _ (bb_lt t j), bb_nb]
theorem unhexL_idx : ∀ (m : Nat) (L : List Nat), L.length = 2 * m → unhexL L = if (∀ i, i < m → 0 ≤ dV (L.getD (2 * i) 0) ∧ 0 ≤ dV (L.getD (2 * i + 1) 0)) then some ((List.range m).map fun i => (16 * dV (L.getD (2 * i) 0) + dV (L.getD (2 * i + 1) 0)).toNat) else none
  | 0, L, h => by
    obtain rfl := List.eq_nil_of_length_eq_zero h
    rw [if_pos (fun i hi => absurd hi (by omega))]
    rfl
  | m + 1, [], h => by simp at h
  | m + 1, [_], h => by simp at h; omega
  | m + 1, a :: b :: R, h => by
    have ih := unhexL_idx m R (by simp only [List.length_cons] at h; omega)
    have hsh : ∀ i, (a :: b :: R).getD (2 * (i + 1)) 0 = R.getD (2 * i) 0 ∧ (a :: b :: R).getD (2 * (i + 1) + 1) 0 = R.getD (2 * i + 1) 0 := fun i => by
      rw [show 2 * (i + 1) = 2 * i + 1 + 1 by omega]
      exact ⟨rfl, rfl⟩
    simp only [unhexL]
    by_cases hall : ∀ i, i < m + 1 → 0 ≤ dV ((a :: b :: R).getD (2 * i) 0) ∧ 0 ≤ dV ((a :: b :: R).getD (2 * i + 1) 0)
    · rw [if_pos hall]
      have h0 := hall 0 (by omega)
      have ha : 0 ≤ dV a := h0.1
      have hb : 0 ≤ dV b := h0.2
      have hr : ∀ i, i < m → 0 ≤ dV (R.getD (2 * i) 0) ∧ 0 ≤ dV (R.getD (2 * i + 1) 0) := fun i hi => by
        have := hall (i + 1) (by omega)
        rwa [(hsh i).1, (hsh i).2] at this
      rw [if_pos hr] at ih
      rw [ih]
      cases ea : sgV a with
      | none => rw [dV_none ea] at ha; exact absurd ha (by decide)
      | some x =>
        cases eb : sgV b with
        | none => rw [dV_none eb] at hb; exact absurd hb (by decide)
        | some y =>
          simp only [Option.map_some]
          rw [List.range_succ_eq_map, List.map_cons, List.map_map]
          congr 2
          · show 16 * x + y = (16 * dV a + dV b).toNat
            rw [dV_some ea, dV_some eb]; omega
    · rw [if_neg hall]
      cases ea : sgV a with
      | none => rfl
      | some x =>
        cases eb : sgV b with
        | none => rfl
        | some y =>
          simp only
          rw [ih, if_neg]
          · rfl
          · intro hr
            refine hall (fun i hi => ?_)
            cases i with
            | zero => exact ⟨by show 0 ≤ dV a; rw [dV_some ea]; omega, by show 0 ≤ dV b; rw [dV_some eb]; omega⟩
            | succ i =>
              rw [(hsh i).1, (hsh i).2]
              exact hr i (by omega)
theorem goodTo_iff (t : ByteArray) : ∀ m, goodTo t m = true ↔ ∀ i, i < m → 0 ≤ vd t (2 * i) ∧ 0 ≤ vd t (2 * i + 1)
  | 0 => ⟨fun _ i hi => absurd hi (by omega), fun _ => rfl⟩
  | m + 1 => by
    rw [goodTo, Bool.and_eq_true, Bool.and_eq_true, goodTo_iff t m, decide_eq_true_iff, decide_eq_true_iff]
    refine ⟨fun h i hi => ?_, fun h => ⟨fun i hi => h i (by omega), h m (by omega)⟩⟩
    by_cases e : i = m
    · rw [e]; exact h.2
    · exact h.1 i (by omega)
theorem or_pair : ∀ x y : Nat, x < 16 → y < 16 → Go.bits .or .i64 ((x : Int) * 16) (y : Int) % 256 = ((16 * x + y : Nat) : Int) := by
  have k : ∀ x y : Fin 16, Go.bits .or .i64 ((x.1 : Int) * 16) (y.1 : Int) % 256 = ((16 * x.1 + y.1 : Nat) : Int) := by decide +kernel
  exact fun x y hx hy => k ⟨x, hx⟩ ⟨y, hy⟩
theorem unhex_f (t : ByteArray) : unhexF t = unhexA t := by
  unfold unhexF unhexA
  by_cases h : t.size % 2 = 1
  · rw [if_pos h, unhexL_odd (nb t) (by rw [nb_length]; exact h)]
  · rw [if_neg h, unhexL_idx (t.size / 2) (nb t) (by rw [nb_length]; omega)]
    have hg := goodTo_iff t (t.size / 2)
    simp only [vd_dV] at hg
    by_cases g : goodTo t (t.size / 2) = true
    · rw [if_pos g, if_pos (hg.1 g)]
      congr 1
      rw [← strOfNums_cast, List.map_map]
      congr 1
      unfold hexRow
      apply List.map_congr_left
      intro i hi
      have hi' : i < t.size / 2 := List.mem_range.1 hi
      rw [if_pos hi', vd_dV, vd_dV]
      have hv := hg.1 g i hi'
      show _ = ((16 * dV ((nb t).getD (2 * i) 0) + dV ((nb t).getD (2 * i + 1) 0)).toNat : Int)
      cases ea : sgV ((nb t).getD (2 * i) 0) with
      | none => rw [dV_none ea] at hv; exact absurd hv.1 (by decide)
      | some x =>
        cases eb : sgV ((nb t).getD (2 * i + 1) 0) with
        | none => rw [dV_none eb] at hv; exact absurd hv.2 (by decide)
        | some y =>
          rw [dV_some ea, dV_some eb, or_pair x y (sgV_lt ea).1 (sgV_lt eb).1]
          omega
    · rw [if_neg g, if_neg (fun e => g (hg.2 e))]
theorem unhex_c {t : ByteArray} (ht : t.size ≤ 140737488351232) : digits_Unhex.f t = some (unhexA t) := by
  unfold digits_Unhex.f
  rw [if_pos ht, unhex_f]
end Go.Proofs.Ytmcpfkgahmdkgaa.M
end
section
namespace Go.Proofs.Ytmcpfkgahmdkgaa.Pr
open Go.RowKit Go.Proofs.YtmcpfkgahmdkgaaW.PrintWords Go.Proofs.YtmcpfkgahmdkgaaW.PrintLast Go.Proofs.YtmcpfkgahmdkgaaW.PrintMore
theorem row_strings {w : World} {A : Option Addr} {n : Nat} {l : List ByteArray} (h : Kd.string.C w A n l) (hn : 0 < n) :
    ∃ bk o, A = some ⟨bk, o, none⟩ ∧ (∀ (j : Nat) x, l[j]? = some x → w.cell? ⟨bk, o + j, none⟩ = some (.string x)) ∧ bk < w.heap.size := by
  have hr := Kd.reads_of_C (enc := Value.string) (d := ByteArray.empty) (h1 := fun _ => rfl) h
  obtain ⟨hl, _, hc⟩ := hr
  obtain ⟨ad, e, hc⟩ := hc hn
  have h0 := hc 0 hn
  have e0 : ad.add 0 = ad := by simp [Addr.add]
  rw [e0] at h0
  obtain ⟨bk, o, sp⟩ := ad
  have hs : sp = none := by
    cases sp with
    | none => rfl
    | some x =>
      exfalso
      unfold World.cell? at h0
      split at h0 <;> simp at h0
  subst hs
  refine ⟨bk, o, e, fun j x hj => ?_, World.block_lt_of_cell? w _ h0⟩
  obtain ⟨hjl, hx⟩ := List.getElem?_eq_some_iff.1 hj
  have := hc j (by omega)
  rw [add_at] at this
  rw [this, List.getD_eq_getElem?_getD, hj]
  rfl
/-- The texts, one behind the other. -/
def joinB (l : List ByteArray) : ByteArray := ⟨(Lib.join (l.map (·.data.toList)) []).toArray⟩
def octets_Join.f (l : List ByteArray) : Option ByteArray := if l.length ≤ 140737488355328 then if (Lib.join (l.map (·.data.toList)) []).length ≤ 140737488355328 then some (joinB l) else none else none
theorem octets_Join.calls (A0 : Option Addr) (c0 : Nat) (l0 : List ByteArray) (r : ByteArray) (w : World) (hr0 : Kd.C Kd.string w A0 l0.length l0) (hc0 : l0.length ≤ c0) (h : octets_Join.f l0 = some r) :
    Calls Try.prog 74 #[.slice A0 l0.length c0] w fun e w' => e = .returned (.string r) ∧ Below w.heap.size w w' := by
  unfold octets_Join.f at h
  split at h
  case isFalse => cases h
  case isTrue hN =>
  split at h
  case isFalse => cases h
  case isTrue hlen =>
  obtain rfl := Option.some.inj h
  by_cases hn : 0 < l0.length
  · obtain ⟨bk, o, rfl, hcells, hbk⟩ := row_strings hr0 hn
    have H := Try.strings_Join bk o c0 l0 ⟨#[]⟩ w hcells hbk hN hc0 hlen
    have HH := Aside0.mk H
    clear H hcells h hr0
    go_enter Try.func74, Try.ntmps74
    go_wp2_with (go_at_call 80; refine HH.out.mono ?_; rintro e w1 ⟨rfl, hb⟩)
    go_ret
    exact ⟨rfl, hb⟩
  · obtain rfl : l0 = [] := List.eq_nil_of_length_eq_zero (by omega)
    go_enter Try.func74, Try.ntmps74
    go_wp2_with (go_at_call 80; refine (Try.strings_Join_none A0 c0 ⟨#[]⟩ _).mono ?_; rintro e w1 ⟨rfl, rfl⟩)
    go_ret
    exact ⟨rfl, Below.refl _ _⟩
end Go.Proofs.Ytmcpfkgahmdkgaa.Pr
end
