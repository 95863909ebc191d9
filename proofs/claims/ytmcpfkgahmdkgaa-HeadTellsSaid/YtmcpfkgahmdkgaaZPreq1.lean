-- several texts in one (by the session's program shake.py)
import Derived.Test.YtmcpfkgahmdkgaaZPut
import Derived.Test.YtmcpfkgahmdkgaaZPutG
import Derived.Test.YtmcpfkgahmdkgaaZPrg15
import Derived.Test.YtmcpfkgahmdkgaaZPrg15b
import Derived.Test.YtmcpfkgahmdkgaaZScopes
section
namespace Go.Proofs.Ytmcpfkgahmdkgaa.M
open Go.RowKit Go.Proofs.Ytmcpfkgahmdkgaa.Pr Go.Proofs.YtmcpfkgahmdkgaaW.PrintWords Go.Proofs.YtmcpfkgahmdkgaaW.PrintLast Go.Proofs.YtmcpfkgahmdkgaaW.PrintMore
set_option linter.unusedSimpArgs false
def mayH (c t l : Int) : Prop := 0 ≤ c ∧ c ≤ 3 ∧ 0 ≤ t ∧ t ≤ 2097151 ∧ 0 ≤ l ∧ l ≤ 65535
instance (c t l : Int) : Decidable (mayH c t l) := by unfold mayH; infer_instance
/-- A head's text, and whether it may be written. -/
def encT (c t : Int) (k : Bool) (l : Int) : ByteArray × Int := if mayH c t l then (mkB (encL c.toNat t.toNat k l.toNat), 0) else (⟨#[]⟩, 1)
theorem may_h (c t : Int) (k : Bool) (l : Int) : head_Head_may.f c t k l = some (decide (mayH c t l)) := by
  unfold head_Head_may.f
  have e : mn (mn c t) l ≥ 0 ↔ 0 ≤ c ∧ 0 ≤ t ∧ 0 ≤ l := by unfold mn; split <;> split <;> omega
  by_cases h1 : mn (mn c t) l ≥ 0
  · rw [if_pos h1]
    have h1' := e.1 h1
    by_cases h2 : c ≤ 3
    · rw [if_pos h2]
      by_cases h3 : t ≤ 2097151
      · rw [if_pos h3]
        congr 1
        exact decide_eq_decide.2 (by unfold mayH; omega)
      · rw [if_neg h3, decide_eq_false (by unfold mayH; omega)]
    · rw [if_neg h2, decide_eq_false (by unfold mayH; omega)]
  · rw [if_neg h1, decide_eq_false (fun h => h1 (e.2 (by unfold mayH at h; omega)))]
theorem may_r (c t : Int) (k : Bool) (l : Int) : clavigerref15_may.f c t k l = some (decide (mayH c t l)) := by
  unfold clavigerref15_may.f
  by_cases h1 : c ≥ 0
  · rw [if_pos h1]
    by_cases h2 : c < 4
    · rw [if_pos h2]
      by_cases h3 : t ≥ 0
      · rw [if_pos h3]
        by_cases h4 : t ≤ 2097151
        · rw [if_pos h4]
          by_cases h5 : l ≥ 0
          · rw [if_pos h5]
            congr 1
            exact decide_eq_decide.2 (by unfold mayH; omega)
          · rw [if_neg h5, decide_eq_false (by unfold mayH; omega)]
        · rw [if_neg h4, decide_eq_false (by unfold mayH; omega)]
      · rw [if_neg h3, decide_eq_false (by unfold mayH; omega)]
    · rw [if_neg h2, decide_eq_false (by unfold mayH; omega)]
  · rw [if_neg h1, decide_eq_false (by unfold mayH; omega)]
theorem and_i64_127 (a : Nat) (ha : a < 4611686018427387904) : Go.bits .and .i64 (a : Int) 127 = ((a % 128 : Nat) : Int) := by
  have h1 : (BitVec.ofInt 64 (a : Int)).toNat = a := by
    rw [BitVec.ofInt_natCast, BitVec.toNat_ofNat]; exact Nat.mod_eq_of_lt (by omega)
  show IntKind.i64.wrap ((BitVec.ofInt 64 (a : Int) &&& BitVec.ofInt 64 127).toNat : Int) = _
  rw [BitVec.toNat_and, h1, show (BitVec.ofInt 64 127).toNat = 2 ^ 7 - 1 from rfl, Nat.and_two_pow_sub_one_eq_mod, IntKind.wrap_i64]
  omega
theorem or_i64_128 : ∀ r : Nat, r < 128 → Go.bits .or .i64 (r : Int) 128 % 256 = ((128 + r : Nat) : Int) := by
  have h : ∀ r : Fin 128, Go.bits .or .i64 (r.1 : Int) 128 % 256 = ((128 + r.1 : Nat) : Int) := by decide +kernel
  exact fun r hr => h ⟨r, hr⟩
theorem dgI (q : Nat) (hq : q < 4611686018427387904) : (Go.bits .or .i64 (Go.bits .and .i64 (q : Int) 127) 128) % 256 = ((128 + q % 128 : Nat) : Int) := by
  rw [and_i64_127 q hq, or_i64_128 _ (Nat.mod_lt _ (by omega))]
theorem or_first (c : Nat) (k : Bool) (t : Nat) (hc : c ≤ 3) (ht : t < 32) : Go.bits .or .u8 ((64 * c + 32 * k.toNat : Nat) : Int) (t : Int) = ((64 * c + 32 * k.toNat + t : Nat) : Int) := by
  have h : ∀ c : Fin 4, ∀ k : Bool, ∀ t : Fin 32, Go.bits .or .u8 ((64 * c.1 + 32 * k.toNat : Nat) : Int) (t.1 : Int) = ((64 * c.1 + 32 * k.toNat + t.1 : Nat) : Int) := by decide +kernel
  exact h ⟨c, by omega⟩ k ⟨t, ht⟩
theorem or_cons (c : Nat) (hc : c ≤ 3) : Go.bits .or .u8 ((wrap64 ((c : Int) * 64)) % 256) 32 = ((64 * c + 32 * true.toNat : Nat) : Int) := by
  rcases (show c = 0 ∨ c = 1 ∨ c = 2 ∨ c = 3 by omega) with rfl | rfl | rfl | rfl <;> decide +kernel
theorem shr14 (t : Nat) : shr .i64 (t : Int) 14 = ((t / 16384 : Nat) : Int) := by
  show (t : Int) / 2 ^ min (Int.toNat 14) 64 = _
  rw [show min (Int.toNat 14) 64 = 14 from rfl]
  omega
theorem shr7 (t : Nat) : shr .i64 (t : Int) 7 = ((t / 128 : Nat) : Int) := by
  show (t : Int) / 2 ^ min (Int.toNat 7) 64 = _
  rw [show min (Int.toNat 7) 64 = 7 from rfl]
  omega
theorem shr0 (t : Nat) : shr .i64 (t : Int) 0 = ((t : Nat) : Int) := by
  show (t : Int) / 2 ^ min (Int.toNat 0) 64 = _
  rw [show min (Int.toNat 0) 64 = 0 from rfl]
  omega
theorem enc_j2 (L : List Nat) (hL : L.length ≤ 10) (c t : Int) (k : Bool) (l : Nat) (hl : l ≤ 65535) : Ev (fun n => head_Encode.j2 n (L.map Int.ofNat) c t k (l : Int)) (mkB (L ++ lenL l), 0) := by
  have hlen : (L.map Int.ofNat).length = L.length := List.length_map _
  refine evu ?_
  simp only [head_Encode.j2]
  unfold lenL
  by_cases h1 : l < 128
  · rw [if_pos h1]
    refine evp (by omega) (evp (by omega) ?_)
    rw [show (L.map Int.ofNat) ++ [(l : Int) % 256] = (L ++ [l]).map Int.ofNat by
      rw [List.map_append, show (l : Int) % 256 = Int.ofNat l by show _ = (l : Int); omega]; rfl, strOfNums_cast]
    exact Ev.now _
  · rw [if_neg h1]
    refine evn (by omega) ?_
    by_cases h2 : l < 256
    · rw [if_pos h2]
      refine evp (by omega) (evs rfl (evp (by rw [hlen]; show L.length + 2 < _; omega) ?_))
      rw [show (L.map Int.ofNat) ++ [129, (l : Int) % 256] = (L ++ [129, l]).map Int.ofNat by
        rw [List.map_append, show (l : Int) % 256 = Int.ofNat l by show _ = (l : Int); omega]; rfl, strOfNums_cast]
      exact Ev.now _
    · rw [if_neg h2]
      refine evn (by omega) (evs rfl (evp (by rw [hlen]; show L.length + 3 < _; omega) ?_))
      rw [show (L.map Int.ofNat) ++ [130, (l : Int) / 256 % 256, (l : Int) % 256] = (L ++ [130, l / 256, l % 256]).map Int.ofNat by
        rw [List.map_append, show (l : Int) / 256 % 256 = Int.ofNat (l / 256) by show _ = ((l / 256 : Nat) : Int); omega, show (l : Int) % 256 = Int.ofNat (l % 256) by show _ = ((l % 256 : Nat) : Int); omega]; rfl, strOfNums_cast]
      exact Ev.now _
/-- A step of the digits that writes none. -/
theorem dig_skip (L : List Int) (x : Nat) (c : Int) (t : Nat) (k : Bool) (l : Int) {r : ByteArray × Int} (hx : x ≤ 14) (h0 : shr .i64 (t : Int) (x : Int) = 0) (h : Ev (fun n => head_Encode.l0 n L ((x : Int) - 7) c (t : Int) k l) r) : Ev (fun n => head_Encode.l0 n L (x : Int) c (t : Int) k l) r := by
  refine evu ?_
  simp only [head_Encode.l0]
  refine evp (by omega) (evp (by omega) (evp h0 ?_))
  rw [wrap_id (by omega) (by omega)]
  exact h
theorem dig_put (L : List Int) (hL : L.length ≤ 10) (x : Nat) (c : Int) (t q : Nat) (k : Bool) (l : Int) {r : ByteArray × Int} (hx : x ≤ 14) (hq : q < 4611686018427387904) (h0 : shr .i64 (t : Int) (x : Int) = (q : Int)) (hq0 : q ≠ 0)
    (h : Ev (fun n => head_Encode.l0 n (L ++ [((128 + q % 128 : Nat) : Int)]) ((x : Int) - 7) c (t : Int) k l) r) : Ev (fun n => head_Encode.l0 n L (x : Int) c (t : Int) k l) r := by
  refine evu ?_
  simp only [head_Encode.l0]
  refine evp (by omega) (evp (by omega) (evn (by rw [h0]; omega) (evp (by omega) ?_)))
  rw [wrap_id (by omega) (by omega), h0, dgI q hq]
  exact h
theorem dig_end (L : List Nat) (a : Nat) (hL : L.length ≤ 5) (ha : a < 256) (c : Int) (t : Int) (k : Bool) (l : Nat) (hl : l ≤ 65535) : Ev (fun n => head_Encode.l0 n ((L ++ [a]).map Int.ofNat) (-7) c t k (l : Int)) (mkB (L ++ [a % 128] ++ lenL l), 0) := by
  have hlen : (((L ++ [a]).map Int.ofNat).length : Int) - 1 = (L.length : Int) := by simp
  refine evu ?_
  simp only [head_Encode.l0]
  refine evn (by omega) ?_
  rw [hlen, wrap_id (by omega) (by omega)]
  refine evp (by omega) (evp (by simp; omega) ?_)
  have e1 : rd ((L ++ [a]).map Int.ofNat) (L.length : Int) = (a : Int) := by
    unfold rd
    simp
  have e2 : ((L ++ [a]).map Int.ofNat).set (Int.toNat (L.length : Int)) (Go.bits .and .u8 (a : Int) 127) = (L ++ [a % 128]).map Int.ofNat := by
    rw [and127 a ha, Int.toNat_natCast, List.map_append, List.map_append, List.set_append_right _ _ (by simp)]
    simp
  rw [e1, e2]
  exact enc_j2 _ (by simp; omega) c t k l hl
theorem enc_dig (F : Nat) (c : Int) (t : Nat) (k : Bool) (l : Nat) (ht0 : 31 ≤ t) (ht : t ≤ 2097151) (hl : l ≤ 65535) : Ev (fun n => head_Encode.l0 n ([F].map Int.ofNat) 14 c (t : Int) k (l : Int)) (mkB ((F :: digL t) ++ lenL l), 0) := by
  have e1 := shr14 t
  have e2 := shr7 t
  have e3 := shr0 t
  unfold digL
  by_cases h1 : t < 128
  · rw [if_pos h1]
    refine dig_skip _ 14 c t k l (by omega) (by rw [show ((14 : Nat) : Int) = 14 from rfl, e1]; omega) ?_
    refine dig_skip _ 7 c t k l (by omega) (by rw [show ((7 : Nat) : Int) = 7 from rfl, e2]; omega) ?_
    refine dig_put _ (by simp) 0 c t t k l (by omega) (by omega) e3 (by omega) ?_
    have hh := dig_end [F] (128 + t % 128) (by simp) (by omega) c (t : Int) k l hl
    rw [show (128 + t % 128) % 128 = t by omega] at hh
    exact hh
  · rw [if_neg h1]
    by_cases h2 : t < 16384
    · rw [if_pos h2]
      refine dig_skip _ 14 c t k l (by omega) (by rw [show ((14 : Nat) : Int) = 14 from rfl, e1]; omega) ?_
      refine dig_put _ (by simp) 7 c t (t / 128) k l (by omega) (by omega) e2 (by omega) ?_
      refine dig_put _ (by simp) 0 c t t k l (by omega) (by omega) e3 (by omega) ?_
      have hh := dig_end [F, 128 + t / 128 % 128] (128 + t % 128) (by simp) (by omega) c (t : Int) k l hl
      rw [show (128 + t % 128) % 128 = t % 128 by omega, show t / 128 % 128 = t / 128 by omega] at hh
      rw [show t / 128 % 128 = t / 128 by omega]
      exact hh
    · rw [if_neg h2]
      refine dig_put _ (by simp) 14 c t (t / 16384) k l (by omega) (by omega) e1 (by omega) ?_
      refine dig_put _ (by simp) 7 c t (t / 128) k l (by omega) (by omega) e2 (by omega) ?_
      refine dig_put _ (by simp) 0 c t t k l (by omega) (by omega) e3 (by omega) ?_
      have hh := dig_end [F, 128 + t / 16384 % 128, 128 + t / 128 % 128] (128 + t % 128) (by simp) (by omega) c (t : Int) k l hl
      rw [show (128 + t % 128) % 128 = t % 128 by omega, show t / 16384 % 128 = t / 16384 by omega] at hh
      rw [show t / 16384 % 128 = t / 16384 by omega]
      exact hh
theorem enc_j0 (c t l : Nat) (k : Bool) (hc : c ≤ 3) (ht : t ≤ 2097151) (hl : l ≤ 65535) : Ev (fun n => head_Encode.j0 n [] ((64 * c + 32 * k.toNat : Nat) : Int) (c : Int) (t : Int) k (l : Int)) (mkB (encL c t k l), 0) := by
  refine evu ?_
  simp only [head_Encode.j0]
  unfold encL tagL
  by_cases h : t < 31
  · rw [if_pos h]
    refine evp (by omega) (evp (by decide) ?_)
    rw [show (t : Int) % 256 = (t : Int) by omega, or_first c k t hc (by omega)]
    exact enc_j2 [64 * c + 32 * k.toNat + t] (by simp) _ _ k l hl
  · rw [if_neg h]
    refine evn (by omega) (evp (by decide) ?_)
    have ho := or_first c k 31 hc (by omega)
    rw [show ((31 : Nat) : Int) = 31 from rfl] at ho
    rw [ho]
    exact enc_dig _ _ t k l (by omega) ht hl
theorem henc_c (c t : Int) (k : Bool) (l : Int) : Ev (fun n => head_Encode.f n c t k l) (encT c t k l) := by
  unfold head_Encode.f encT
  refine evs (may_h c t k l) ?_
  by_cases h : mayH c t l
  · rw [if_pos h]
    refine evp (decide_eq_true h) (evs rfl ?_)
    obtain ⟨c0, c3, t0, t3, l0, l3⟩ := h
    obtain ⟨c, rfl⟩ := Int.eq_ofNat_of_zero_le c0
    obtain ⟨t, rfl⟩ := Int.eq_ofNat_of_zero_le t0
    obtain ⟨l, rfl⟩ := Int.eq_ofNat_of_zero_le l0
    simp only [Int.toNat_natCast]
    have hh := enc_j0 c t l k (by omega) (by omega) (by omega)
    cases k with
    | true =>
      refine evp rfl ?_
      rw [or_cons c (by omega)]
      exact hh
    | false =>
      refine evn (by decide) ?_
      rw [show (wrap64 ((c : Int) * 64)) % 256 = ((64 * c + 32 * false.toNat : Nat) : Int) by rw [wrap_id (by omega) (by omega), Bool.toNat_false]; omega]
      exact hh
  · rw [if_neg h]
    exact evn (by simp [h]) (Ev.now _)
end Go.Proofs.Ytmcpfkgahmdkgaa.M
end
section
namespace Go.Proofs.Ytmcpfkgahmdkgaa.M
open Go.RowKit Go.Proofs.Ytmcpfkgahmdkgaa.Pr Go.Proofs.YtmcpfkgahmdkgaaW.PrintWords Go.Proofs.YtmcpfkgahmdkgaaW.PrintLast Go.Proofs.YtmcpfkgahmdkgaaW.PrintMore
set_option linter.unusedSimpArgs false
theorem tm {a : Nat} {b : Nat} : Int.tmod (a : Int) (b : Int) = ((a % b : Nat) : Int) := by
  rw [Int.tmod_eq_emod_of_nonneg (by omega)]; rfl
theorem td {a : Nat} {b : Nat} : Int.tdiv (a : Int) (b : Int) = ((a / b : Nat) : Int) := by
  rw [Int.tdiv_eq_ediv_of_nonneg (by omega)]; rfl
theorem tm128 (a : Nat) : Int.tmod (a : Int) 128 = ((a % 128 : Nat) : Int) := tm (b := 128)
theorem td128 (a : Nat) : Int.tdiv (a : Int) 128 = ((a / 128 : Nat) : Int) := td (b := 128)
theorem rdig_end (L : List Nat) : Ev (fun n => clavigerref15_digits.l0 n 0 (mkB L)) (mkB L) := by
  refine evu ?_
  simp only [clavigerref15_digits.l0]
  exact evn (by decide) (Ev.now _)
theorem rdig_put (q : Nat) (hq0 : 0 < q) (hq : q ≤ 2097151) (L : List Nat) (hL : L.length ≤ 10) {r : ByteArray} (h : Ev (fun n => clavigerref15_digits.l0 n ((q / 128 : Nat) : Int) (mkB ((128 + q % 128) :: L))) r) : Ev (fun n => clavigerref15_digits.l0 n (q : Int) (mkB L)) r := by
  refine evu ?_
  simp only [clavigerref15_digits.l0]
  refine evp (by omega) (evs rfl ?_)
  rw [tm128, td128, wrap_id (x := 128 + ((q % 128 : Nat) : Int)) (by omega) (by omega), wrap_id (x := ((q / 128 : Nat) : Int)) (by omega) (by omega), show (128 + ((q % 128 : Nat) : Int)) % 256 = ((128 + q % 128 : Nat) : Int) by omega, sNs1, mkB_append]
  exact evp (by rw [mkB_size, mkB_size]; simp; omega) h
theorem rdig_c (t : Nat) (ht : t ≤ 2097151) : Ev (fun n => clavigerref15_digits.f n (t : Int)) (mkB (digL t)) := by
  unfold clavigerref15_digits.f
  rw [tm128, td128, show ((t % 128 : Nat) : Int) % 256 = ((t % 128 : Nat) : Int) by omega, sNs1, wrap_id (by omega) (by omega)]
  unfold digL
  by_cases h1 : t < 128
  · rw [if_pos h1, show t / 128 = 0 by omega, show t % 128 = t by omega]
    exact rdig_end _
  · rw [if_neg h1]
    refine rdig_put _ (by omega) (by omega) _ (by simp) ?_
    by_cases h2 : t < 16384
    · rw [if_pos h2, show t / 128 / 128 = 0 by omega, show t / 128 % 128 = t / 128 by omega]
      exact rdig_end _
    · rw [if_neg h2]
      refine rdig_put _ (by omega) (by omega) _ (by simp) ?_
      rw [show t / 128 / 128 / 128 = 0 by omega, show t / 128 / 128 % 128 = t / 16384 by omega]
      exact rdig_end _
theorem renc_j1 (L : List Nat) (hL : L.length ≤ 10) (c t : Int) (k : Bool) (l : Nat) (hl : l ≤ 65535) : Ev (fun n => clavigerref15_Encode.j1 n (mkB L) c t k (l : Int)) (mkB (L ++ lenL l), 0) := by
  refine evu ?_
  simp only [clavigerref15_Encode.j1]
  unfold lenL
  by_cases h1 : l < 128
  · rw [if_pos h1]
    refine evp (by omega) (evs rfl ?_)
    rw [show (l : Int) % 256 = (l : Int) by omega, sNs1]
    refine evp (by rw [mkB_size, mkB_size]; simp; omega) ?_
    rw [mkB_append]
    exact Ev.now _
  · rw [if_neg h1]
    refine evn (by omega) ?_
    have hw : IntKind.u64.wrap (l : Int) = (l : Int) := by rw [IntKind.wrap_u64]; omega
    rw [hw]
    by_cases h2 : l < 256
    · rw [if_pos h2]
      refine evp (by omega) (evp (by rw [mkB_size]; omega) (evb (rput_c l 1 (by omega) (by omega) (by omega)) ?_))
      rw [show lowL l 1 = [l] by show [l / 1 % 256] = _; rw [Nat.div_one, Nat.mod_eq_of_lt h2], show (⟨#[129]⟩ : ByteArray) = mkB [129] from rfl, mkB_append]
      refine evp (by rw [mkB_size, mkB_size]; simp; omega) ?_
      rw [mkB_append, List.append_assoc]
      exact Ev.now _
    · rw [if_neg h2]
      refine evn (by omega) (evp (by rw [mkB_size]; omega) (evb (rput_c l 2 (by omega) (by omega) (by omega)) ?_))
      rw [show lowL l 2 = [l / 256, l % 256] by show [l / 256 % 256, l / 1 % 256] = _; rw [Nat.div_one, Nat.mod_eq_of_lt (show l / 256 < 256 by omega)], show (⟨#[130]⟩ : ByteArray) = mkB [130] from rfl, mkB_append]
      refine evp (by rw [mkB_size, mkB_size]; simp; omega) ?_
      rw [mkB_append, List.append_assoc]
      exact Ev.now _
theorem renc_j0 (c t l : Nat) (k : Bool) (hc : c ≤ 3) (ht : t ≤ 2097151) (hl : l ≤ 65535) : Ev (fun n => clavigerref15_Encode.j0 n ((64 * c + 32 * k.toNat : Nat) : Int) (c : Int) (t : Int) k (l : Int)) (mkB (encL c t k l), 0) := by
  have hk : k.toNat ≤ 1 := Bool.toNat_le k
  refine evu ?_
  simp only [clavigerref15_Encode.j0]
  unfold encL tagL
  by_cases h : t < 31
  · rw [if_pos h]
    refine evp (by omega) ?_
    rw [wrap_id (by omega) (by omega), show (((64 * c + 32 * k.toNat : Nat) : Int) + (t : Int)) % 256 = ((64 * c + 32 * k.toNat + t : Nat) : Int) by omega, sNs1]
    exact renc_j1 _ (by simp) _ _ k l hl
  · rw [if_neg h]
    refine evn (by omega) (evs rfl (evb (rdig_c t ht) ?_))
    have hd : (digL t).length ≤ 3 := by rw [digL_len]; split <;> (try split) <;> omega
    rw [wrap_id (by omega) (by omega), show (((64 * c + 32 * k.toNat : Nat) : Int) + 31) % 256 = ((64 * c + 32 * k.toNat + 31 : Nat) : Int) by omega, sNs1]
    refine evp (by rw [mkB_size, mkB_size]; simp; omega) ?_
    rw [mkB_append]
    exact renc_j1 _ (by simp; omega) _ _ k l hl
theorem renc_c (c t : Int) (k : Bool) (l : Int) : Ev (fun n => clavigerref15_Encode.f n c t k l) (encT c t k l) := by
  unfold clavigerref15_Encode.f encT
  refine evs (may_r c t k l) ?_
  by_cases h : mayH c t l
  · rw [if_pos h]
    refine evp (decide_eq_true h) ?_
    obtain ⟨c0, c3, t0, t3, l0, l3⟩ := h
    obtain ⟨c, rfl⟩ := Int.eq_ofNat_of_zero_le c0
    obtain ⟨t, rfl⟩ := Int.eq_ofNat_of_zero_le t0
    obtain ⟨l, rfl⟩ := Int.eq_ofNat_of_zero_le l0
    simp only [Int.toNat_natCast]
    have hh := renc_j0 c t l k (by omega) (by omega) (by omega)
    cases k with
    | true =>
      refine evp rfl ?_
      rw [wrap_id (x := 64 * (c : Int)) (by omega) (by omega), wrap_id (by omega) (by omega), show 64 * (c : Int) + 32 = ((64 * c + 32 * true.toNat : Nat) : Int) by rw [Bool.toNat_true]; omega]
      exact hh
    | false =>
      refine evn (by decide) ?_
      rw [wrap_id (by omega) (by omega), show 64 * (c : Int) = ((64 * c + 32 * false.toNat : Nat) : Int) by rw [Bool.toNat_false]; omega]
      exact hh
  · rw [if_neg h]
    exact evn (by simp [h]) (Ev.now _)
end Go.Proofs.Ytmcpfkgahmdkgaa.M
end
section
namespace Go.Proofs.Ytmcpfkgahmdkgaa.M
open Go.RowKit Go.Proofs.Ytmcpfkgahmdkgaa.Pr Go.Proofs.YtmcpfkgahmdkgaaW.PrintWords Go.Proofs.YtmcpfkgahmdkgaaW.PrintLast Go.Proofs.YtmcpfkgahmdkgaaW.PrintMore
set_option linter.unusedSimpArgs false
def rtag3 (a b : Nat) : List Nat → Option (Nat × Nat)
  | d :: _ => if d < 128 then some (128 * (128 * (a - 128) + (b - 128)) + d, 3) else none
  | [] => none
def rtag2 (a : Nat) : List Nat → Option (Nat × Nat)
  | b :: r => if b < 128 then some (128 * (a - 128) + b, 2) else rtag3 a b r
  | [] => none
def rtag : List Nat → Option (Nat × Nat)
  | a :: r => if a < 128 then some (a, 1) else rtag2 a r
  | [] => none
theorem rtag_lt {r : List Nat} (hb : isB r) {t m : Nat} (h : rtag r = some (t, m)) : t ≤ 2097151 ∧ 1 ≤ m ∧ m ≤ r.length := by
  cases r with
  | nil => cases h
  | cons a r =>
    have ha := hb a (by simp)
    rw [rtag] at h
    by_cases h1 : a < 128
    · rw [if_pos h1] at h
      obtain ⟨rfl, rfl⟩ := Prod.mk.inj (Option.some.inj h)
      exact ⟨by omega, by omega, by simp⟩
    · rw [if_neg h1] at h
      cases r with
      | nil => cases h
      | cons b r =>
        have hbb := hb b (by simp)
        rw [rtag2] at h
        by_cases h2 : b < 128
        · rw [if_pos h2] at h
          obtain ⟨rfl, rfl⟩ := Prod.mk.inj (Option.some.inj h)
          exact ⟨by omega, by omega, by simp⟩
        · rw [if_neg h2] at h
          cases r with
          | nil => cases h
          | cons d r =>
            rw [rtag3] at h
            by_cases h3 : d < 128
            · rw [if_pos h3] at h
              obtain ⟨rfl, rfl⟩ := Prod.mk.inj (Option.some.inj h)
              exact ⟨by omega, by omega, by simp⟩
            · rw [if_neg h3] at h; cases h
theorem tagD_rtag {r : List Nat} (hb : isB r) : tagD r = (rtag r).bind fun q => if 31 ≤ q.1 ∧ digL q.1 = r.take q.2 then some q else none := by
  cases r with
  | nil => rfl
  | cons a r =>
    have ha := hb a (by simp)
    rw [rtag, tagD]
    by_cases h1 : a < 128
    · rw [if_neg (by omega), if_pos h1, if_pos h1, Option.bind_some]
      by_cases h2 : a < 31
      · rw [if_pos h2, if_neg (fun h => by have := h.1; omega)]
      · rw [if_neg h2, if_pos ⟨by omega, by unfold digL; rw [if_pos h1]; rfl⟩]
    · rw [if_neg h1, if_neg h1]
      cases r with
      | nil => show (if a = 128 then none else none) = none; split <;> rfl
      | cons b r =>
        have hbb := hb b (by simp)
        rw [rtag2, tag2]
        by_cases h2 : b < 128
        · rw [if_pos h2, if_pos h2, Option.bind_some]
          by_cases h0 : a = 128
          · rw [if_pos h0, if_neg]
            rintro ⟨-, h⟩
            have := congrArg List.length h
            simp only [digL_len] at this
            rw [if_pos (by omega)] at this
            simp at this
          · have hd : digL (128 * (a - 128) + b) = List.take 2 (a :: b :: r) := by
              unfold digL
              rw [if_neg (by omega), if_pos (by omega)]
              simp only [List.take_succ_cons, List.take_zero]
              rw [show 128 + (128 * (a - 128) + b) / 128 = a by omega, show (128 * (a - 128) + b) % 128 = b by omega]
            rw [if_neg h0, if_pos ⟨by omega, hd⟩]
        · rw [if_neg h2, if_neg h2]
          cases r with
          | nil => show (if a = 128 then none else none) = none; split <;> rfl
          | cons d r =>
            rw [rtag3, tag3]
            by_cases h3 : d < 128
            · rw [if_pos h3, if_pos h3, Option.bind_some]
              by_cases h0 : a = 128
              · rw [if_pos h0, if_neg]
                rintro ⟨-, h⟩
                have := congrArg List.length h
                simp only [digL_len] at this
                rw [if_pos (show 128 * (128 * (a - 128) + (b - 128)) + d < 16384 by omega)] at this
                split at this <;> simp at this
              · have hd : digL (128 * (128 * (a - 128) + (b - 128)) + d) = List.take 3 (a :: b :: d :: r) := by
                  unfold digL
                  rw [if_neg (by omega), if_neg (by omega)]
                  simp only [List.take_succ_cons, List.take_zero]
                  rw [show 128 + (128 * (128 * (a - 128) + (b - 128)) + d) / 16384 = a by omega, show 128 + (128 * (128 * (a - 128) + (b - 128)) + d) / 128 % 128 = b by omega, show (128 * (128 * (a - 128) + (b - 128)) + d) % 128 = d by omega]
                rw [if_neg h0, if_pos ⟨by omega, hd⟩, show 16384 * (a - 128) + 128 * (b - 128) + d = 128 * (128 * (a - 128) + (b - 128)) + d by omega]
            · rw [if_neg h3, if_neg h3]
              split <;> rfl
theorem tag_stop (s : ByteArray) (i : Nat) (c t : Int) (k : Bool) (l : Int) (h : s.size ≤ i ∨ 4 ≤ i) : Ev (fun n => clavigerref15_tag.l0 n s (i : Int) c t k l) (0, 0, false, 0, 0) := by
  have hj : ∀ b, b = false → Ev (fun n => clavigerref15_tag.j1 n s (i : Int) b c t k l) (0, 0, false, 0, 0) := by
    rintro b rfl
    refine evu ?_
    simp only [clavigerref15_tag.j1]
    exact evn (by decide) (Ev.now _)
  refine evu ?_
  simp only [clavigerref15_tag.l0]
  by_cases h1 : s.size ≤ i
  · exact evn (by omega) (hj _ rfl)
  · exact evp (by omega) (hj _ (decide_eq_false (by omega)))
theorem tag_end (s : ByteArray) (i c t : Nat) (k : Bool) (l : Int) (h1 : i < s.size) (h2 : i < 4) (ht : t ≤ 2097151) (hb : bb s i < 128) : Ev (fun n => clavigerref15_tag.l0 n s (i : Int) (c : Int) (t : Int) k l) ((c : Int), ((128 * t + bb s i : Nat) : Int), k, l, ((i + 1 : Nat) : Int)) := by
  refine evu ?_
  simp only [clavigerref15_tag.l0]
  refine evp (by omega) (evu ?_)
  simp only [clavigerref15_tag.j1]
  refine evp (decide_eq_true (by omega)) (evp (by omega) (evp (by omega) ?_))
  rw [bt_bb]
  refine evp (by omega) ?_
  rw [wrap_id (x := ((bb s i : Nat) : Int)) (by omega) (by omega), tm128, Nat.mod_eq_of_lt hb, wrap_id (x := 128 * (t : Int)) (by omega) (by omega), wrap_id (by omega) (by omega), wrap_id (by omega) (by omega), show 128 * (t : Int) + ((bb s i : Nat) : Int) = ((128 * t + bb s i : Nat) : Int) by omega]
  exact Ev.now _
theorem tag_go (s : ByteArray) (i c t : Nat) (k : Bool) (l : Int) {r : Int × Int × Bool × Int × Int} (h1 : i < s.size) (h2 : i < 4) (ht : t ≤ 2097151) (hb : ¬ bb s i < 128)
    (h : Ev (fun n => clavigerref15_tag.l0 n s ((i + 1 : Nat) : Int) (c : Int) ((128 * t + (bb s i - 128) : Nat) : Int) k l) r) : Ev (fun n => clavigerref15_tag.l0 n s (i : Int) (c : Int) (t : Int) k l) r := by
  have hlt := bb_lt s i
  refine evu ?_
  simp only [clavigerref15_tag.l0]
  refine evp (by omega) (evu ?_)
  simp only [clavigerref15_tag.j1]
  refine evp (decide_eq_true (by omega)) (evp (by omega) (evp (by omega) ?_))
  rw [bt_bb]
  refine evn (by omega) ?_
  rw [wrap_id (x := ((bb s i : Nat) : Int)) (by omega) (by omega), tm128, show bb s i % 128 = bb s i - 128 by omega, wrap_id (x := 128 * (t : Int)) (by omega) (by omega), wrap_id (by omega) (by omega), wrap_id (by omega) (by omega), show 128 * (t : Int) + ((bb s i - 128 : Nat) : Int) = ((128 * t + (bb s i - 128) : Nat) : Int) by omega]
  exact h
/-- What the reference reads of a tag. -/
def tagR (x : Nat) (r : List Nat) : Int × Int × Bool × Int × Int :=
  if x % 32 < 31 then (((x / 64 : Nat) : Int), ((x % 32 : Nat) : Int), decide (x / 32 % 2 = 1), 0, 1) else
  match rtag r with
  | none => (0, 0, false, 0, 0)
  | some (t, m) => (((x / 64 : Nat) : Int), (t : Int), decide (x / 32 % 2 = 1), 0, ((m + 1 : Nat) : Int))
theorem bb_0 {s : ByteArray} {x : Nat} {r : List Nat} (h : nb s = x :: r) : bb s 0 = x := by rw [bb_nb, h]; rfl
theorem bb_1 {s : ByteArray} {x a : Nat} {r : List Nat} (h : nb s = x :: a :: r) : bb s 1 = a := by rw [bb_nb, h]; rfl
theorem bb_2 {s : ByteArray} {x a b : Nat} {r : List Nat} (h : nb s = x :: a :: b :: r) : bb s 2 = b := by rw [bb_nb, h]; rfl
theorem bb_3 {s : ByteArray} {x a b d : Nat} {r : List Nat} (h : nb s = x :: a :: b :: d :: r) : bb s 3 = d := by rw [bb_nb, h]; rfl
theorem size_nb {s : ByteArray} {l : List Nat} (h : nb s = l) : s.size = l.length := by rw [← nb_length, h]
theorem tag_c (s : ByteArray) (x : Nat) (r : List Nat) (h : nb s = x :: r) : Ev (fun n => clavigerref15_tag.f n s) (tagR x r) := by
  have hs := size_nb h
  rw [List.length_cons] at hs
  have hx : x < 256 := isB_nb s x (by rw [h]; simp)
  unfold clavigerref15_tag.f
  refine evn (fun e => ?_) (evp (by omega) ?_)
  · have e0 : s.size = 0 := by
      have := congrArg List.length e
      rw [tl_eq, Array.length_toList] at this
      exact this
    omega
  · have h0 : bt s 0 = ((x : Nat) : Int) := by have := bt_bb s 0; rw [bb_0 h] at this; exact this
    rw [h0, wrap_id (x := (x : Int)) (by omega) (by omega), show Int.tmod (x : Int) 32 = ((x % 32 : Nat) : Int) from tm (b := 32), show Int.tdiv (x : Int) 64 = ((x / 64 : Nat) : Int) from td (b := 64), show Int.tdiv (x : Int) 32 = ((x / 32 : Nat) : Int) from td (b := 32),
      wrap_id (x := ((x / 64 : Nat) : Int)) (by omega) (by omega), wrap_id (x := ((x / 32 : Nat) : Int)) (by omega) (by omega), show Int.tmod ((x / 32 : Nat) : Int) 2 = ((x / 32 % 2 : Nat) : Int) from tm (b := 2)]
    have hk : (((x / 32 % 2 : Nat) : Int) == 1) = decide (x / 32 % 2 = 1) := by
      by_cases e : x / 32 % 2 = 1
      · rw [decide_eq_true e]; exact beq_iff_eq.2 (by omega)
      · rw [decide_eq_false e]; exact beq_eq_false_iff_ne.2 (by omega)
    rw [hk]
    unfold tagR
    by_cases h1 : x % 32 < 31
    · rw [if_pos h1]
      exact evp (by omega) (Ev.now _)
    · rw [if_neg h1]
      refine evn (by omega) ?_
      cases r with
      | nil => exact tag_stop s 1 _ _ _ _ (.inl (by rw [hs]; exact Nat.le_refl _))
      | cons a r =>
        have b1 := bb_1 h
        rw [List.length_cons] at hs
        rw [rtag]
        by_cases h2 : a < 128
        · rw [if_pos h2]
          have := tag_end s 1 (x / 64) 0 (decide (x / 32 % 2 = 1)) 0 (by omega) (by omega) (by omega) (by omega)
          rw [b1, show 128 * 0 + a = a by omega] at this
          exact this
        · rw [if_neg h2]
          refine tag_go s 1 (x / 64) 0 (decide (x / 32 % 2 = 1)) 0 (by omega) (by omega) (by omega) (by omega) ?_
          rw [b1]
          cases r with
          | nil => exact tag_stop s 2 _ _ _ _ (.inl (by rw [hs]; exact Nat.le_refl _))
          | cons b r =>
            have b2 := bb_2 h
            have ha : a < 256 := isB_nb s a (by rw [h]; simp)
            have hb : b < 256 := isB_nb s b (by rw [h]; simp)
            rw [List.length_cons] at hs
            rw [rtag2]
            by_cases h3 : b < 128
            · rw [if_pos h3]
              have := tag_end s 2 (x / 64) (128 * 0 + (a - 128)) (decide (x / 32 % 2 = 1)) 0 (by omega) (by omega) (by omega) (by omega)
              rw [b2, show 128 * (128 * 0 + (a - 128)) + b = 128 * (a - 128) + b by omega] at this
              exact this
            · rw [if_neg h3]
              refine tag_go s 2 (x / 64) (128 * 0 + (a - 128)) (decide (x / 32 % 2 = 1)) 0 (by omega) (by omega) (by omega) (by omega) ?_
              rw [b2]
              cases r with
              | nil => exact tag_stop s 3 _ _ _ _ (.inl (by rw [hs]; exact Nat.le_refl _))
              | cons d r =>
                have b3 := bb_3 h
                rw [List.length_cons] at hs
                rw [rtag3]
                by_cases h4 : d < 128
                · rw [if_pos h4]
                  have := tag_end s 3 (x / 64) (128 * (128 * 0 + (a - 128)) + (b - 128)) (decide (x / 32 % 2 = 1)) 0 (by omega) (by omega) (by omega) (by omega)
                  rw [b3, show 128 * (128 * (128 * 0 + (a - 128)) + (b - 128)) + d = 128 * (128 * (a - 128) + (b - 128)) + d by omega] at this
                  exact this
                · rw [if_neg h4]
                  refine tag_go s 3 (x / 64) (128 * (128 * 0 + (a - 128)) + (b - 128)) (decide (x / 32 % 2 = 1)) 0 (by omega) (by omega) (by omega) (by omega) ?_
                  exact tag_stop s 4 _ _ _ _ (.inr (by omega))
end Go.Proofs.Ytmcpfkgahmdkgaa.M
end
section
namespace Go.Proofs.Ytmcpfkgahmdkgaa.M
open Go.RowKit Go.Proofs.Ytmcpfkgahmdkgaa.Pr Go.Proofs.YtmcpfkgahmdkgaaW.PrintWords Go.Proofs.YtmcpfkgahmdkgaaW.PrintLast Go.Proofs.YtmcpfkgahmdkgaaW.PrintMore
set_option linter.unusedSimpArgs false
theorem tl_inj {a b : ByteArray} (h : a.toList = b.toList) : a = b := by
  rw [tl_eq, tl_eq] at h
  exact ByteArray.ext (Array.toList_inj.1 h)
theorem eqL {a b : List Nat} (ha : isB a) (hb : isB b) : (mkB a).toList = (mkB b).toList ↔ a = b :=
  ⟨fun h => mkB_inj ha hb (tl_inj h), fun h => by rw [h]⟩
theorem isB_lenL {l : Nat} (h : l ≤ 65535) : isB (lenL l) := by
  unfold lenL
  intro y hy
  split at hy
  · simp at hy; omega
  · split at hy
    · simp at hy; omega
    · simp at hy; omega
/-- What a head reads as, its tag known. -/
def finC (c t : Nat) (k : Bool) (m : Nat) (r : List Nat) : (Nat × Nat × Bool × Nat × Nat) ⊕ Int :=
  match lenD r with
  | .inl (l, n) => .inl (c, t, k, l, m + n)
  | .inr e => .inr e
theorem encT_nat (c t : Nat) (k : Bool) (l : Nat) (hc : c ≤ 3) (ht : t ≤ 2097151) (hl : l ≤ 65535) : encT (c : Int) (t : Int) k (l : Int) = (mkB (encL c t k l), 0) := by
  unfold encT
  rw [if_pos (by unfold mayH; omega)]
  simp only [Int.toNat_natCast]
theorem renc_nat (c t : Nat) (k : Bool) (l : Nat) (hc : c ≤ 3) (ht : t ≤ 2097151) (hl : l ≤ 65535) : Ev (fun n => clavigerref15_Encode.f n (c : Int) (t : Int) k (l : Int)) (mkB (encL c t k l), 0) := by
  have := renc_c (c : Int) (t : Int) k (l : Int)
  rwa [encT_nat c t k l hc ht hl] at this
section
variable {s : ByteArray} {c t m : Nat} {k : Bool} {r : List Nat}
/-- A length of one byte or two is as it is written, or not. -/
theorem dec_long (hs : s.size ≤ 140737488351232) (hc : c ≤ 3) (ht : t ≤ 2097151) (hm : (nb s).take m = tagL c t k) (hml : m ≤ s.size) (b : Nat) (hd : (nb s).drop m = b :: r) (q : Nat) (hq : q = 1 ∨ q = 2) (hb : b = 128 + q) :
    Ev (fun n => clavigerref15_Decode.j1 n s (m : Int) (q : Int) (c : Int) (t : Int) k 0) (outD (finC c t k m (b :: r))) := by
  have hlen : s.size = m + 1 + r.length := by
    have := congrArg List.length hd
    rw [List.length_drop, nb_length, List.length_cons] at this
    omega
  have hL : isB (nb s) := isB_nb s
  have hrB : isB r := fun y hy => hL y (List.mem_of_mem_drop (i := m) (by rw [hd]; exact List.mem_cons_of_mem _ hy))
  have htB : isB (tagL c t k) := by rw [← hm]; exact isB_take hL m
  have htl : (tagL c t k).length = m := by rw [← hm, List.length_take, nb_length]; omega
  refine evu ?_
  simp only [clavigerref15_Decode.j1]
  rw [wrap_id (x := (m : Int) + 1) (by omega) (by omega), wrap_id (x := (m : Int) + 1 + (q : Int)) (by omega) (by omega)]
  by_cases h1 : r.length < q
  · refine evp (by omega) ?_
    have e : finC c t k m (b :: r) = .inr 5 := by
      unfold finC
      rw [lenD, if_neg (by omega), if_neg (by omega), if_neg (by omega)]
      rcases hq with rfl | rfl
      · rw [if_pos hb]
        match r, h1 with
        | [], _ => rfl
        | _ :: _, h1 => exact absurd h1 (by rw [List.length_cons]; omega)
      · rw [if_neg (by omega)]
        match r, h1 with
        | [], _ => rfl
        | [_], _ => rfl
        | _ :: _ :: _, h1 => exact absurd h1 (by rw [List.length_cons, List.length_cons]; omega)
    rw [e]
    exact Ev.now _
  · refine evn (by omega) (evp (by omega) (evp (by omega) (evp (by omega) (evp (by omega) (evp (by omega) (evp (by omega) ?_))))))
    have ex1 : s.extract (Int.toNat ((m : Int) + 1)) (Int.toNat ((m : Int) + 1 + (q : Int))) = mkB (r.take q) := by
      rw [extract_nb, show Int.toNat ((m : Int) + 1) = m + 1 by omega, show Int.toNat ((m : Int) + 1 + (q : Int)) = m + 1 + q by omega, List.drop_take, ← List.drop_drop, hd]
      simp only [List.drop_succ_cons, List.drop_zero]
      rw [show m + 1 + q - (m + 1) = q by omega]
    have ex2 : s.extract 0 (Int.toNat ((m : Int) + 1 + (q : Int))) = mkB (tagL c t k ++ b :: r.take q) := by
      rw [extract_nb, show Int.toNat ((m : Int) + 1 + (q : Int)) = m + (1 + q) by omega, List.drop_zero, List.take_add, hm, hd, show 1 + q = q + 1 by omega, List.take_succ_cons]
    have hqs : (mkB (r.take q)).size = q := by rw [mkB_size, List.length_take]; omega
    rw [ex1, ex2]
    refine evb (rget_c _ (by omega) (by omega)) ?_
    rw [nb_mkB (isB_take hrB q)]
    obtain ⟨l, hl, hv, hyes, hno⟩ : ∃ l : Nat, l ≤ 65535 ∧ valL 0 (r.take q) = l ∧ (lenL l = b :: r.take q → finC c t k m (b :: r) = .inl (c, t, k, l, m + 1 + q)) ∧ (lenL l ≠ b :: r.take q → finC c t k m (b :: r) = .inr 5) := by
      unfold finC
      rw [lenD, if_neg (by omega), if_neg (by omega), if_neg (by omega)]
      rcases hq with rfl | rfl
      · rw [if_pos hb]
        match r, h1, hrB with
        | [], h1, _ => exact absurd (by decide : 0 < 1) h1
        | z :: r, _, hrB =>
          have hz := hrB z (by simp)
          have g1 : 128 ≤ z → lenL z = [129, z] := fun h => by unfold lenL; rw [if_neg (by omega), if_pos hz]
          have g2 : ¬ 128 ≤ z → lenL z = [z] := fun h => by unfold lenL; rw [if_pos (by omega)]
          refine ⟨z, by omega, by show 256 * 0 + z = z; omega, fun e => ?_, fun e => ?_⟩
          · by_cases h : 128 ≤ z
            · rw [len1, if_pos h]
            · rw [g2 h] at e
              exact absurd (congrArg List.length e) (by simp)
          · by_cases h : 128 ≤ z
            · exact absurd (by rw [g1 h, hb]; rfl) e
            · rw [len1, if_neg h]
      · rw [if_neg (by omega)]
        match r, h1, hrB with
        | [], h1, _ => exact absurd (by decide : 0 < 2) h1
        | [_], h1, _ => exact absurd (by decide : 1 < 2) h1
        | z :: v :: r, _, hrB =>
          have hz := hrB z (by simp)
          have hv := hrB v (by simp)
          have g1 : 256 ≤ 256 * z + v → lenL (256 * z + v) = [130, z, v] := fun h => by
            unfold lenL
            rw [if_neg (by omega), if_neg (by omega), show (256 * z + v) / 256 = z by omega, show (256 * z + v) % 256 = v by omega]
          have g2 : ¬ 256 ≤ 256 * z + v → (lenL (256 * z + v)).length ≤ 2 := fun h => by
            rw [lenL_len]
            split
            · omega
            · rw [if_pos (by omega)]; omega
          refine ⟨256 * z + v, by omega, by show 256 * (256 * 0 + z) + v = _; omega, fun e => ?_, fun e => ?_⟩
          · by_cases h : 256 ≤ 256 * z + v
            · rw [len2, if_pos h]
            · have := g2 h
              rw [e] at this
              exact absurd this (by simp)
          · by_cases h : 256 ≤ 256 * z + v
            · exact absurd (by rw [g1 h, hb]; rfl) e
            · rw [len2, if_neg h]
    simp only [hv]
    rw [wrap_id (x := ((l : Nat) : Int)) (by omega) (by omega)]
    refine evb (renc_nat c t k l hc ht hl) (evp (by omega) ?_)
    have he : encL c t k l = tagL c t k ++ b :: r.take q ↔ lenL l = b :: r.take q := by
      unfold encL
      rw [List.append_cancel_left_eq]
    have hB1 : isB (encL c t k l) := isB_append.2 ⟨htB, isB_lenL hl⟩
    have hB2 : isB (tagL c t k ++ b :: r.take q) := isB_append.2 ⟨htB, fun y hy => by
      rcases List.mem_cons.1 hy with rfl | hy
      · omega
      · exact hrB y (List.mem_of_mem_take hy)⟩
    by_cases h : lenL l = b :: r.take q
    · rw [hyes h]
      refine evp ((eqL hB1 hB2).2 (he.2 h)) ?_
      have hsz : (mkB (encL c t k l)).size = m + 1 + q := by
        rw [mkB_size, he.2 h, List.length_append, htl, List.length_cons, List.length_take]; omega
      simp only [hsz]
      exact Ev.now _
    · rw [hno h]
      exact evn (fun g => h (he.1 ((eqL hB1 hB2).1 g))) (Ev.now _)
/-- A length of one byte under 128. -/
theorem dec_one (hs : s.size ≤ 140737488351232) (hc : c ≤ 3) (ht : t ≤ 2097151) (hm : (nb s).take m = tagL c t k) (hml : m ≤ s.size) (b : Nat) (hd : (nb s).drop m = b :: r) (hb : b < 128) :
    Ev (fun n => clavigerref15_Decode.j1 n s (m : Int) 0 (c : Int) (t : Int) k 0) (outD (finC c t k m (b :: r))) := by
  have hlen : s.size = m + 1 + r.length := by
    have := congrArg List.length hd
    rw [List.length_drop, nb_length, List.length_cons] at this
    omega
  have htl : (tagL c t k).length = m := by rw [← hm, List.length_take, nb_length]; omega
  have hbb : bt s (m : Int) = (b : Int) := by
    rw [bt_bb, bb_nb, List.getD_eq_getElem?_getD]
    have := congrArg (fun l => l[0]?) hd
    simp [List.getElem?_drop] at this
    simp [this]
  refine evu ?_
  simp only [clavigerref15_Decode.j1]
  rw [hbb, wrap_id (x := (m : Int) + 1) (by omega) (by omega), wrap_id (x := (m : Int) + 1 + 0) (by omega) (by omega), wrap_id (x := (b : Int)) (by omega) (by omega)]
  refine evn (by omega) (evp (by omega) (evp (by omega) (evn (by omega) (evb (renc_nat c t k b hc ht (by omega)) (evp (by omega) (evp (by omega) ?_))))))
  have ex2 : s.extract 0 (Int.toNat ((m : Int) + 1 + 0)) = mkB (encL c t k b) := by
    rw [extract_nb, show Int.toNat ((m : Int) + 1 + 0) = m + 1 by omega, List.drop_zero, List.take_add, hm, hd]
    unfold encL lenL
    rw [if_pos hb]
    rfl
  have hsz : (mkB (encL c t k b)).size = m + 1 := by
    unfold encL lenL
    rw [if_pos hb, mkB_size, List.length_append, htl]; rfl
  rw [ex2]
  simp only [hsz]
  refine evp trivial ?_
  unfold finC
  rw [lenD, if_neg (by omega), if_neg (by omega), if_pos hb]
  exact Ev.now _
/-- Behind the tag. -/
theorem dec_len (hs : s.size ≤ 140737488351232) (hc : c ≤ 3) (ht : t ≤ 2097151) (hm : (nb s).take m = tagL c t k) (hml : m ≤ s.size) :
    Ev (fun n => if (m : Int) = (s.size : Int) then (clavigerref15_Decode.j0 n s (m : Int) true (c : Int) (t : Int) k 0) else (if (m : Int) < (s.size : Int) then (clavigerref15_Decode.j0 n s (m : Int) ((bt s (m : Int)) == 128) (c : Int) (t : Int) k 0) else (none))) (outD (finC c t k m ((nb s).drop m))) := by
  cases hd : (nb s).drop m with
  | nil =>
    have : m = s.size := by
      have := congrArg List.length hd
      rw [List.length_drop, nb_length] at this
      simp at this
      omega
    refine evp (by omega) (evu ?_)
    simp only [clavigerref15_Decode.j0]
    exact evp trivial (Ev.now _)
  | cons b r =>
    have hlen : s.size = m + 1 + r.length := by
      have := congrArg List.length hd
      rw [List.length_drop, nb_length, List.length_cons] at this
      omega
    have hb : b < 256 := isB_nb s b (List.mem_of_mem_drop (i := m) (by rw [hd]; simp))
    have hbb : bt s (m : Int) = (b : Int) := by
      rw [bt_bb, bb_nb, List.getD_eq_getElem?_getD]
      have := congrArg (fun l => l[0]?) hd
      simp [List.getElem?_drop] at this
      simp [this]
    refine evn (by omega) (evp (by omega) (evu ?_))
    simp only [clavigerref15_Decode.j0]
    rw [hbb]
    by_cases h1 : b = 128
    · refine evp (beq_iff_eq.2 (by omega)) ?_
      unfold finC
      rw [lenD, if_pos h1]
      exact Ev.now _
    · refine evn (by simp; omega) (evp (by omega) (evp (by omega) ?_))
      by_cases h2 : 130 < b
      · refine evp (by omega) ?_
        unfold finC
        rw [lenD, if_neg h1, if_pos h2]
        exact Ev.now _
      · refine evn (by omega) ?_
        by_cases h3 : b < 128
        · exact evn (by omega) (dec_one hs hc ht hm hml b hd h3)
        · refine evp (by omega) ?_
          rw [wrap_id (x := (b : Int)) (by omega) (by omega), wrap_id (by omega) (by omega), show (b : Int) - 128 = ((b - 128 : Nat) : Int) by omega]
          exact dec_long hs hc ht hm hml b hd (b - 128) (by omega) (by omega)
end
theorem tagL_pos (c t : Nat) (k : Bool) : 1 ≤ (tagL c t k).length := by
  unfold tagL
  split <;> simp
theorem rdec_c (s : ByteArray) (hs : s.size ≤ 140737488351232) : Ev (fun n => clavigerref15_Decode.f n s) (outD (decD (nb s))) := by
  unfold clavigerref15_Decode.f
  have hL := isB_nb s
  cases h : nb s with
  | nil =>
    have hz := size_nb h
    refine evb (a := (0, 0, false, 0, 0)) ?_ (evp rfl (Ev.now _))
    unfold clavigerref15_tag.f
    refine evp ?_ (Ev.now _)
    rw [tl_eq]
    exact List.eq_nil_of_length_eq_zero (by rw [Array.length_toList]; exact hz)
  | cons x r =>
    rw [h] at hL
    have hx : x < 256 := hL x (by simp)
    have hr : isB r := fun y hy => hL y (by simp [hy])
    have hlen := size_nb h
    rw [List.length_cons] at hlen
    refine evb (tag_c s x r h) ?_
    -- the tag as it is read, and whether it is written so
    have main : ∀ (t m : Nat), t ≤ 2097151 → 1 ≤ m → m ≤ s.size → ∀ res, (tagL (x / 64) t (decide (x / 32 % 2 = 1)) = (x :: r).take m → outD (finC (x / 64) t (decide (x / 32 % 2 = 1)) m ((x :: r).drop m)) = res) → (tagL (x / 64) t (decide (x / 32 % 2 = 1)) ≠ (x :: r).take m → (0, 0, false, 0, 0, 5) = res) →
        Ev (fun n => if ((m : Nat) : Int) = 0 then (some (0, 0, false, 0, 0, 5)) else ((clavigerref15_Encode.f n ((x / 64 : Nat) : Int) (t : Int) (decide (x / 32 % 2 = 1)) 0).bind fun bt5 => (if 0 ≤ (wrap64 ((bt5.1.size : Int) - 1)) then (if (wrap64 ((bt5.1.size : Int) - 1)) ≤ (bt5.1.size : Int) then (if 0 ≤ ((m : Nat) : Int) then (if ((m : Nat) : Int) ≤ (s.size : Int) then (if (bt5.1.extract 0 ((wrap64 ((bt5.1.size : Int) - 1)) : Int).toNat).toList = (s.extract 0 (((m : Nat) : Int) : Int).toNat).toList then (if ((m : Nat) : Int) = (s.size : Int) then (clavigerref15_Decode.j0 n s ((m : Nat) : Int) true ((x / 64 : Nat) : Int) (t : Int) (decide (x / 32 % 2 = 1)) 0) else (if ((m : Nat) : Int) < (s.size : Int) then (clavigerref15_Decode.j0 n s ((m : Nat) : Int) ((bt s ((m : Nat) : Int)) == 128) ((x / 64 : Nat) : Int) (t : Int) (decide (x / 32 % 2 = 1)) 0) else (none))) else (clavigerref15_Decode.j0 n s ((m : Nat) : Int) true ((x / 64 : Nat) : Int) (t : Int) (decide (x / 32 % 2 = 1)) 0)) else (none)) else (none)) else (none)) else (none)))) res := by
      intro t m ht hm1 hm res hyes hno
      refine evn (by omega) (evb (renc_nat (x / 64) t (decide (x / 32 % 2 = 1)) 0 (by omega) ht (by omega)) ?_)
      have hp := tagL_pos (x / 64) t (decide (x / 32 % 2 = 1))
      have hsz : (mkB (encL (x / 64) t (decide (x / 32 % 2 = 1)) 0)).size = (tagL (x / 64) t (decide (x / 32 % 2 = 1))).length + 1 := by
        rw [mkB_size]; unfold encL; rw [List.length_append]; rfl
      have hdl : (tagL (x / 64) t (decide (x / 32 % 2 = 1))).length ≤ 4 := by
        unfold tagL
        split
        · simp
        · rw [List.length_cons, digL_len]; split <;> (try split) <;> omega
      have hB : isB (tagL (x / 64) t (decide (x / 32 % 2 = 1))) := by
        have hk : (decide (x / 32 % 2 = 1)).toNat ≤ 1 := Bool.toNat_le _
        unfold tagL digL
        intro y hy
        split at hy
        · simp at hy; omega
        · split at hy
          · simp at hy; omega
          · split at hy
            · simp at hy; omega
            · simp at hy; omega
      have ex1 : (mkB (encL (x / 64) t (decide (x / 32 % 2 = 1)) 0)).extract 0 (tagL (x / 64) t (decide (x / 32 % 2 = 1))).length = mkB (tagL (x / 64) t (decide (x / 32 % 2 = 1))) := by
        unfold encL
        rw [extract_nb, nb_mkB (isB_append.2 ⟨hB, isB_lenL (l := 0) (by omega)⟩), List.drop_zero, List.take_left' rfl]
      simp only [hsz]
      rw [show (((tagL (x / 64) t (decide (x / 32 % 2 = 1))).length + 1 : Nat) : Int) - 1 = ((tagL (x / 64) t (decide (x / 32 % 2 = 1))).length : Int) by omega, wrap_id (by omega) (by omega)]
      refine evp (by omega) (evp (by omega) (evp (by omega) (evp (by omega) ?_)))
      rw [Int.toNat_natCast, Int.toNat_natCast, ex1, extract_nb, List.drop_zero, h]
      by_cases e : tagL (x / 64) t (decide (x / 32 % 2 = 1)) = (x :: r).take m
      · refine evp ((eqL hB (isB_take hL m)).2 e) ?_
        rw [← hyes e]
        have := dec_len (s := s) (c := x / 64) (t := t) (m := m) (k := decide (x / 32 % 2 = 1)) hs (by omega) ht (by rw [h, e]) hm
        rw [h] at this
        exact this
      · refine evn (fun g => e ((eqL hB (isB_take hL m)).1 g)) (evu ?_)
        rw [← hno e]
        simp only [clavigerref15_Decode.j0]
        exact evp trivial (Ev.now _)
    have hk : (decide (x / 32 % 2 = 1)).toNat = x / 32 % 2 := by
      by_cases e : x / 32 % 2 = 1
      · rw [decide_eq_true e, Bool.toNat_true]; omega
      · rw [decide_eq_false e, Bool.toNat_false]; omega
    rw [decD]
    unfold tagR
    by_cases h1 : x % 32 < 31
    · rw [if_pos h1, if_pos h1]
      have htag : tagL (x / 64) (x % 32) (decide (x / 32 % 2 = 1)) = [x] := by
        unfold tagL
        rw [if_pos h1, hk]
        congr 1
        omega
      exact main (x % 32) 1 (by omega) (by omega) (by omega) _ (fun _ => rfl) (fun e => absurd htag e)
    · rw [if_neg h1, if_neg h1, tagD_rtag hr]
      cases hr2 : rtag r with
      | none => exact evp rfl (Ev.now _)
      | some q =>
        obtain ⟨t, m⟩ := q
        obtain ⟨t1, m1, m2⟩ := rtag_lt hr hr2
        have hiff : tagL (x / 64) t (decide (x / 32 % 2 = 1)) = (x :: r).take (m + 1) ↔ 31 ≤ t ∧ digL t = r.take m := by
          rw [List.take_succ_cons]
          unfold tagL
          by_cases g : t < 31
          · rw [if_pos g]
            refine ⟨fun e => ?_, fun e => absurd e.1 (by omega)⟩
            have := congrArg List.length e
            rw [List.length_cons, List.length_cons, List.length_take, List.length_nil] at this
            omega
          · rw [if_neg g, hk, show 64 * (x / 64) + 32 * (x / 32 % 2) + 31 = x by omega, List.cons_inj_right]
            exact ⟨fun e => ⟨by omega, e⟩, fun e => e.2⟩
        rw [Option.bind_some]
        refine main t (m + 1) t1 (by omega) (by omega) _ (fun e => ?_) (fun e => ?_)
        · rw [if_pos (hiff.1 e)]
          rfl
        · rw [if_neg (fun g => e (hiff.2 g))]
          rfl
end Go.Proofs.Ytmcpfkgahmdkgaa.M
end
section
namespace Go.Proofs.Ytmcpfkgahmdkgaa.Pr
open Go.RowKit Go.Proofs.YtmcpfkgahmdkgaaW.PrintWords Go.Proofs.YtmcpfkgahmdkgaaW.PrintLast Go.Proofs.YtmcpfkgahmdkgaaW.PrintMore
attribute [local go_sem] max2_int min2_int max_two min_two max_three min_three max_four min_four   -- for this text's walks alone
set_option linter.unusedVariables false
set_option linter.unusedSimpArgs false

theorem eqA55 (d : Nat) (w : World) (x0 y0 : Int) (x1 y1 : Int) (x2 y2 : Bool) (x3 y3 : Int) :
  (Op.equalIn (d + 2) 55 (.agg #[.int .i64 x0, .int .i64 x1, .bool x2, .int .i64 x3]) (.agg #[.int .i64 y0, .int .i64 y1, .bool y2, .int .i64 y3])).run Try.prog w = .ok (x0 == y0 && (x1 == y1 && (x2 == y2 && (x3 == y3)))) w := by
 refine eqA_of Try.underlying55 (by kernel_rfl) ?_
 refine eqf_cons (by rfl) (by go_simp; rfl) (by go_simp; rfl) (by go_simp) ?_
 refine eqf_cons (by rfl) (by go_simp; rfl) (by go_simp; rfl) (by go_simp) ?_
 refine eqf_cons (by rfl) (by go_simp; rfl) (by go_simp; rfl) (by go_simp) ?_
 exact eqf_last (by rfl) (by go_simp; rfl) (by go_simp; rfl) (by go_simp)
end Go.Proofs.Ytmcpfkgahmdkgaa.Pr
end
