-- several texts in one (by the session's program shake.py)
import Derived.Test.YtmcpfkgahmdkgaaZScopes
import Derived.Test.YtmcpfkgahmdkgaaZPutG
import Derived.Test.YtmcpfkgahmdkgaaZPrg15
import Derived.Test.YtmcpfkgahmdkgaaZPut
section
namespace Go.Proofs.Ytmcpfkgahmdkgaa.Pr
open Go.RowKit Go.Proofs.YtmcpfkgahmdkgaaW.PrintWords Go.Proofs.YtmcpfkgahmdkgaaW.PrintLast Go.Proofs.YtmcpfkgahmdkgaaW.PrintMore
attribute [local go_sem] max2_int min2_int max_two min_two max_three min_three max_four min_four   -- for this text's walks alone
set_option linter.unusedVariables false
set_option linter.unusedSimpArgs false

mutual
def clavigerref15_Decode.j0 : Nat → ByteArray → Int → Bool → Int → Int → Bool → Int → Option (Int × Int × Bool × Int × Int × Int)
 | 0, _, _, _, _, _, _, _ => none
 | k + 1, x0, x6, x45, x266000, x266001, x266002, x266003 => if x45 = true then (some (0, 0, false, 0, 0, 5)) else (if 0 ≤ x6 then (if x6 < (x0.size : Int) then (if (bt x0 x6) > 130 then (some (0, 0, false, 0, 0, 4)) else (if (bt x0 x6) > 128 then (clavigerref15_Decode.j1 k x0 x6 (wrap64 ((wrap64 (bt x0 x6)) - 128)) x266000 x266001 x266002 x266003) else (clavigerref15_Decode.j1 k x0 x6 0 x266000 x266001 x266002 x266003))) else (none)) else (none))
def clavigerref15_Decode.j1 : Nat → ByteArray → Int → Int → Int → Int → Bool → Int → Option (Int × Int × Bool × Int × Int × Int)
 | 0, _, _, _, _, _, _, _ => none
 | k + 1, x0, x6, x9, x266000, x266001, x266002, x266003 => if (wrap64 ((wrap64 (x6 + 1)) + x9)) > (x0.size : Int) then (some (0, 0, false, 0, 0, 5)) else (if 0 ≤ x6 then (if x6 < (x0.size : Int) then (if x9 > 0 then (if 0 ≤ (wrap64 (x6 + 1)) then (if (wrap64 (x6 + 1)) ≤ (wrap64 ((wrap64 (x6 + 1)) + x9)) then (if (wrap64 ((wrap64 (x6 + 1)) + x9)) ≤ (x0.size : Int) then ((clavigerref01_Get.f k (x0.extract ((wrap64 (x6 + 1)) : Int).toNat ((wrap64 ((wrap64 (x6 + 1)) + x9)) : Int).toNat)).bind fun bt1 => ((clavigerref15_Encode.f k x266000 x266001 x266002 (wrap64 (bt1.1))).bind fun bt2 => (if 0 ≤ (wrap64 ((wrap64 (x6 + 1)) + x9)) then (if bt2.1.toList = (x0.extract 0 ((wrap64 ((wrap64 (x6 + 1)) + x9)) : Int).toNat).toList then (some (x266000, x266001, x266002, wrap64 (bt1.1), (bt2.1.size : Int), 0)) else (some (0, 0, false, 0, 0, 5))) else (none)))) else (none)) else (none)) else (none)) else ((clavigerref15_Encode.f k x266000 x266001 x266002 (wrap64 (bt x0 x6))).bind fun bt3 => (if 0 ≤ (wrap64 ((wrap64 (x6 + 1)) + x9)) then (if (wrap64 ((wrap64 (x6 + 1)) + x9)) ≤ (x0.size : Int) then (if bt3.1.toList = (x0.extract 0 ((wrap64 ((wrap64 (x6 + 1)) + x9)) : Int).toNat).toList then (some (x266000, x266001, x266002, wrap64 (bt x0 x6), (bt3.1.size : Int), 0)) else (some (0, 0, false, 0, 0, 5))) else (none)) else (none)))) else (none)) else (none))
end
def clavigerref15_Decode.f (k : Nat) (a0 : ByteArray) : Option (Int × Int × Bool × Int × Int × Int) := (clavigerref15_tag.f k a0).bind fun bt4 => (if bt4.2.2.2.2 = 0 then (some (0, 0, false, 0, 0, 5)) else ((clavigerref15_Encode.f k bt4.1 bt4.2.1 bt4.2.2.1 bt4.2.2.2.1).bind fun bt5 => (if 0 ≤ (wrap64 ((bt5.1.size : Int) - 1)) then (if (wrap64 ((bt5.1.size : Int) - 1)) ≤ (bt5.1.size : Int) then (if 0 ≤ bt4.2.2.2.2 then (if bt4.2.2.2.2 ≤ (a0.size : Int) then (if (bt5.1.extract 0 ((wrap64 ((bt5.1.size : Int) - 1)) : Int).toNat).toList = (a0.extract 0 (bt4.2.2.2.2 : Int).toNat).toList then (if bt4.2.2.2.2 = (a0.size : Int) then (clavigerref15_Decode.j0 k a0 bt4.2.2.2.2 true bt4.1 bt4.2.1 bt4.2.2.1 bt4.2.2.2.1) else (if bt4.2.2.2.2 < (a0.size : Int) then (clavigerref15_Decode.j0 k a0 bt4.2.2.2.2 ((bt a0 bt4.2.2.2.2) == 128) bt4.1 bt4.2.1 bt4.2.2.1 bt4.2.2.2.1) else (none))) else (clavigerref15_Decode.j0 k a0 bt4.2.2.2.2 true bt4.1 bt4.2.1 bt4.2.2.1 bt4.2.2.2.1)) else (none)) else (none)) else (none)) else (none))))
theorem clavigerref15_Decode.mono_l : ∀ k, (∀ y6 y7 y8 y9 y10 y11 y12, LeO (clavigerref15_Decode.j0 k y6 y7 y8 y9 y10 y11 y12) (clavigerref15_Decode.j0 (k + 1) y6 y7 y8 y9 y10 y11 y12)) ∧ (∀ y6 y7 y8 y9 y10 y11 y12, LeO (clavigerref15_Decode.j1 k y6 y7 y8 y9 y10 y11 y12) (clavigerref15_Decode.j1 (k + 1) y6 y7 y8 y9 y10 y11 y12))
 | 0 => ⟨fun _ _ _ _ _ _ _ r h => by simp [clavigerref15_Decode.j0] at h, fun _ _ _ _ _ _ _ r h => by simp [clavigerref15_Decode.j1] at h⟩
 | k + 1 => by
  obtain ⟨ih0, ih1⟩ := clavigerref15_Decode.mono_l k
  refine ⟨?_, ?_⟩
  ·intro y6 y7 y8 y9 y10 y11 y12
   unfold clavigerref15_Decode.j0
   repeat' first
   | (with_reducible exact ih0 _ _ _ _ _ _ _)
   | (with_reducible exact ih1 _ _ _ _ _ _ _)
   | (with_reducible exact clavigerref01_Get.mono _ _)
   | (with_reducible exact clavigerref15_Encode.mono _ _ _ _ _)
   | (with_reducible exact clavigerref15_tag.mono _ _)
   | (with_reducible exact LeO.refl _)
   | (with_reducible exact LeO.none _)
   | (with_reducible refine LeO.ite ?_ ?_)
   | (with_reducible refine LeO.bind ?_ (fun _ => ?_))
  ·intro y6 y7 y8 y9 y10 y11 y12
   unfold clavigerref15_Decode.j1
   repeat' first
   | (with_reducible exact ih0 _ _ _ _ _ _ _)
   | (with_reducible exact ih1 _ _ _ _ _ _ _)
   | (with_reducible exact clavigerref01_Get.mono _ _)
   | (with_reducible exact clavigerref15_Encode.mono _ _ _ _ _)
   | (with_reducible exact clavigerref15_tag.mono _ _)
   | (with_reducible exact LeO.refl _)
   | (with_reducible exact LeO.none _)
   | (with_reducible refine LeO.ite ?_ ?_)
   | (with_reducible refine LeO.bind ?_ (fun _ => ?_))
theorem clavigerref15_Decode.mono : ∀ a0 k, LeO (clavigerref15_Decode.f k a0) (clavigerref15_Decode.f (k + 1) a0) := by
 intro a0 k
 obtain ⟨ih0, ih1⟩ := clavigerref15_Decode.mono_l k
 unfold clavigerref15_Decode.f
 repeat' first
   | (with_reducible exact ih0 _ _ _ _ _ _ _)
   | (with_reducible exact ih1 _ _ _ _ _ _ _)
   | (with_reducible exact clavigerref01_Get.mono _ _)
   | (with_reducible exact clavigerref15_Encode.mono _ _ _ _ _)
   | (with_reducible exact clavigerref15_tag.mono _ _)
   | (with_reducible exact LeO.refl _)
   | (with_reducible exact LeO.none _)
   | (with_reducible refine LeO.ite ?_ ?_)
   | (with_reducible refine LeO.bind ?_ (fun _ => ?_))
def head_Size.f (k : Nat) (a0_0 : Int) (a0_1 : Int) (a0_2 : Bool) (a0_3 : Int) : Option (Int) := (head_Encode.f k a0_0 a0_1 a0_2 a0_3).bind fun bt1 => (some (bt1.1.size : Int))
theorem head_Size.mono : ∀ a0 a1 a2 a3 k, LeO (head_Size.f k a0 a1 a2 a3) (head_Size.f (k + 1) a0 a1 a2 a3) := by
 intro a0 a1 a2 a3 k
 unfold head_Size.f
 repeat' first
   | (with_reducible exact head_Encode.mono _ _ _ _ _)
   | (with_reducible exact LeO.refl _)
   | (with_reducible exact LeO.none _)
   | (with_reducible refine LeO.ite ?_ ?_)
   | (with_reducible refine LeO.bind ?_ (fun _ => ?_))
def clavigerref15_Size.f (k : Nat) (a0_0 : Int) (a0_1 : Int) (a0_2 : Bool) (a0_3 : Int) : Option (Int) := (clavigerref15_Encode.f k a0_0 a0_1 a0_2 a0_3).bind fun bt1 => (some (bt1.1.size : Int))
theorem clavigerref15_Size.mono : ∀ a0 a1 a2 a3 k, LeO (clavigerref15_Size.f k a0 a1 a2 a3) (clavigerref15_Size.f (k + 1) a0 a1 a2 a3) := by
 intro a0 a1 a2 a3 k
 unfold clavigerref15_Size.f
 repeat' first
   | (with_reducible exact clavigerref15_Encode.mono _ _ _ _ _)
   | (with_reducible exact LeO.refl _)
   | (with_reducible exact LeO.none _)
   | (with_reducible refine LeO.ite ?_ ?_)
   | (with_reducible refine LeO.bind ?_ (fun _ => ?_))
end Go.Proofs.Ytmcpfkgahmdkgaa.Pr
end
section
namespace Go.Proofs.Ytmcpfkgahmdkgaa.M
open Go.RowKit Go.Proofs.Ytmcpfkgahmdkgaa.Pr Go.Proofs.YtmcpfkgahmdkgaaW.PrintWords Go.Proofs.YtmcpfkgahmdkgaaW.PrintLast Go.Proofs.YtmcpfkgahmdkgaaW.PrintMore
set_option linter.unusedSimpArgs false
def mayH (c t l : Int) : Prop := 0 ≤ c ∧ c ≤ 3 ∧ 0 ≤ t ∧ t ≤ 2097151 ∧ 0 ≤ l ∧ l ≤ 65535
instance (c t l : Int) : Decidable (mayH c t l) := by unfold mayH; infer_instance
/-- A head's text, and whether it may be written. -/
def encT (c t : Int) (k : Bool) (l : Int) : ByteArray × Int := if mayH c t l then (mkB (encL c.toNat t.toNat k l.toNat), 0) else (⟨#[]⟩, 1)
theorem may_h (c t : Int) (k : Bool) (l : Int) : head_Head_may.f c t k l = some (decide (mayH c t l)) := by
  unfold head_Head_may.f
  have e : mn (mn c t) l ≥ 0 ↔ 0 ≤ c ∧ 0 ≤ t ∧ 0 ≤ l := by unfold mn; split <;> split <;> omega
  by_cases h1 : mn (mn c t) l ≥ 0
  · rw [if_pos h1]
    have h1' := e.1 h1
    by_cases h2 : c ≤ 3
    · rw [if_pos h2]
      by_cases h3 : t ≤ 2097151
      · rw [if_pos h3]
        congr 1
        exact decide_eq_decide.2 (by unfold mayH; omega)
      · rw [if_neg h3, decide_eq_false (by unfold mayH; omega)]
    · rw [if_neg h2, decide_eq_false (by unfold mayH; omega)]
  · rw [if_neg h1, decide_eq_false (fun h => h1 (e.2 (by unfold mayH at h; omega)))]
theorem and_i64_127 (a : Nat) (ha : a < 4611686018427387904) : Go.bits .and .i64 (a : Int) 127 = ((a % 128 : Nat) : Int) := by
  have h1 : (BitVec.ofInt 64 (a : Int)).toNat = a := by
    rw [BitVec.ofInt_natCast, BitVec.toNat_ofNat]; exact Nat.mod_eq_of_lt (by omega)
  show IntKind.i64.wrap ((BitVec.ofInt 64 (a : Int) &&& BitVec.ofInt 64 127).toNat : Int) = _
  rw [BitVec.toNat_and, h1, show (BitVec.ofInt 64 127).toNat = 2 ^ 7 - 1 from rfl, Nat.and_two_pow_sub_one_eq_mod, IntKind.wrap_i64]
  omega
theorem or_i64_128 : ∀ r : Nat, r < 128 → Go.bits .or .i64 (r : Int) 128 % 256 = ((128 + r : Nat) : Int) := by
  have h : ∀ r : Fin 128, Go.bits .or .i64 (r.1 : Int) 128 % 256 = ((128 + r.1 : Nat) : Int) := by decide +kernel
  exact fun r hr => h ⟨r, hr⟩
theorem dgI (q : Nat) (hq : q < 4611686018427387904) : (Go.bits .or .i64 (Go.bits .and .i64 (q : Int) 127) 128) % 256 = ((128 + q % 128 : Nat) : Int) := by
  rw [and_i64_127 q hq, or_i64_128 _ (Nat.mod_lt _ (by omega))]
theorem or_first (c : Nat) (k : Bool) (t : Nat) (hc : c ≤ 3) (ht : t < 32) : Go.bits .or .u8 ((64 * c + 32 * k.toNat : Nat) : Int) (t : Int) = ((64 * c + 32 * k.toNat + t : Nat) : Int) := by
  have h : ∀ c : Fin 4, ∀ k : Bool, ∀ t : Fin 32, Go.bits .or .u8 ((64 * c.1 + 32 * k.toNat : Nat) : Int) (t.1 : Int) = ((64 * c.1 + 32 * k.toNat + t.1 : Nat) : Int) := by decide +kernel
  exact h ⟨c, by omega⟩ k ⟨t, ht⟩
theorem or_cons (c : Nat) (hc : c ≤ 3) : Go.bits .or .u8 ((wrap64 ((c : Int) * 64)) % 256) 32 = ((64 * c + 32 * true.toNat : Nat) : Int) := by
  rcases (show c = 0 ∨ c = 1 ∨ c = 2 ∨ c = 3 by omega) with rfl | rfl | rfl | rfl <;> decide +kernel
theorem shr14 (t : Nat) : shr .i64 (t : Int) 14 = ((t / 16384 : Nat) : Int) := by
  show (t : Int) / 2 ^ min (Int.toNat 14) 64 = _
  rw [show min (Int.toNat 14) 64 = 14 from rfl]
  omega
theorem shr7 (t : Nat) : shr .i64 (t : Int) 7 = ((t / 128 : Nat) : Int) := by
  show (t : Int) / 2 ^ min (Int.toNat 7) 64 = _
  rw [show min (Int.toNat 7) 64 = 7 from rfl]
  omega
theorem shr0 (t : Nat) : shr .i64 (t : Int) 0 = ((t : Nat) : Int) := by
  show (t : Int) / 2 ^ min (Int.toNat 0) 64 = _
  rw [show min (Int.toNat 0) 64 = 0 from rfl]
  omega
theorem enc_j2 (L : List Nat) (hL : L.length ≤ 10) (c t : Int) (k : Bool) (l : Nat) (hl : l ≤ 65535) : Ev (fun n => head_Encode.j2 n (L.map Int.ofNat) c t k (l : Int)) (mkB (L ++ lenL l), 0) := by
  have hlen : (L.map Int.ofNat).length = L.length := List.length_map _
  refine evu ?_
  simp only [head_Encode.j2]
  unfold lenL
  by_cases h1 : l < 128
  · rw [if_pos h1]
    refine evp (by omega) (evp (by omega) ?_)
    rw [show (L.map Int.ofNat) ++ [(l : Int) % 256] = (L ++ [l]).map Int.ofNat by
      rw [List.map_append, show (l : Int) % 256 = Int.ofNat l by show _ = (l : Int); omega]; rfl, strOfNums_cast]
    exact Ev.now _
  · rw [if_neg h1]
    refine evn (by omega) ?_
    by_cases h2 : l < 256
    · rw [if_pos h2]
      refine evp (by omega) (evs rfl (evp (by rw [hlen]; show L.length + 2 < _; omega) ?_))
      rw [show (L.map Int.ofNat) ++ [129, (l : Int) % 256] = (L ++ [129, l]).map Int.ofNat by
        rw [List.map_append, show (l : Int) % 256 = Int.ofNat l by show _ = (l : Int); omega]; rfl, strOfNums_cast]
      exact Ev.now _
    · rw [if_neg h2]
      refine evn (by omega) (evs rfl (evp (by rw [hlen]; show L.length + 3 < _; omega) ?_))
      rw [show (L.map Int.ofNat) ++ [130, (l : Int) / 256 % 256, (l : Int) % 256] = (L ++ [130, l / 256, l % 256]).map Int.ofNat by
        rw [List.map_append, show (l : Int) / 256 % 256 = Int.ofNat (l / 256) by show _ = ((l / 256 : Nat) : Int); omega, show (l : Int) % 256 = Int.ofNat (l % 256) by show _ = ((l % 256 : Nat) : Int); omega]; rfl, strOfNums_cast]
      exact Ev.now _
/-- A step of the digits that writes none. -/
theorem dig_skip (L : List Int) (x : Nat) (c : Int) (t : Nat) (k : Bool) (l : Int) {r : ByteArray × Int} (hx : x ≤ 14) (h0 : shr .i64 (t : Int) (x : Int) = 0) (h : Ev (fun n => head_Encode.l0 n L ((x : Int) - 7) c (t : Int) k l) r) : Ev (fun n => head_Encode.l0 n L (x : Int) c (t : Int) k l) r := by
  refine evu ?_
  simp only [head_Encode.l0]
  refine evp (by omega) (evp (by omega) (evp h0 ?_))
  rw [wrap_id (by omega) (by omega)]
  exact h
theorem dig_put (L : List Int) (hL : L.length ≤ 10) (x : Nat) (c : Int) (t q : Nat) (k : Bool) (l : Int) {r : ByteArray × Int} (hx : x ≤ 14) (hq : q < 4611686018427387904) (h0 : shr .i64 (t : Int) (x : Int) = (q : Int)) (hq0 : q ≠ 0)
    (h : Ev (fun n => head_Encode.l0 n (L ++ [((128 + q % 128 : Nat) : Int)]) ((x : Int) - 7) c (t : Int) k l) r) : Ev (fun n => head_Encode.l0 n L (x : Int) c (t : Int) k l) r := by
  refine evu ?_
  simp only [head_Encode.l0]
  refine evp (by omega) (evp (by omega) (evn (by rw [h0]; omega) (evp (by omega) ?_)))
  rw [wrap_id (by omega) (by omega), h0, dgI q hq]
  exact h
theorem dig_end (L : List Nat) (a : Nat) (hL : L.length ≤ 5) (ha : a < 256) (c : Int) (t : Int) (k : Bool) (l : Nat) (hl : l ≤ 65535) : Ev (fun n => head_Encode.l0 n ((L ++ [a]).map Int.ofNat) (-7) c t k (l : Int)) (mkB (L ++ [a % 128] ++ lenL l), 0) := by
  have hlen : (((L ++ [a]).map Int.ofNat).length : Int) - 1 = (L.length : Int) := by simp
  refine evu ?_
  simp only [head_Encode.l0]
  refine evn (by omega) ?_
  rw [hlen, wrap_id (by omega) (by omega)]
  refine evp (by omega) (evp (by simp; omega) ?_)
  have e1 : rd ((L ++ [a]).map Int.ofNat) (L.length : Int) = (a : Int) := by
    unfold rd
    simp
  have e2 : ((L ++ [a]).map Int.ofNat).set (Int.toNat (L.length : Int)) (Go.bits .and .u8 (a : Int) 127) = (L ++ [a % 128]).map Int.ofNat := by
    rw [and127 a ha, Int.toNat_natCast, List.map_append, List.map_append, List.set_append_right _ _ (by simp)]
    simp
  rw [e1, e2]
  exact enc_j2 _ (by simp; omega) c t k l hl
theorem enc_dig (F : Nat) (c : Int) (t : Nat) (k : Bool) (l : Nat) (ht0 : 31 ≤ t) (ht : t ≤ 2097151) (hl : l ≤ 65535) : Ev (fun n => head_Encode.l0 n ([F].map Int.ofNat) 14 c (t : Int) k (l : Int)) (mkB ((F :: digL t) ++ lenL l), 0) := by
  have e1 := shr14 t
  have e2 := shr7 t
  have e3 := shr0 t
  unfold digL
  by_cases h1 : t < 128
  · rw [if_pos h1]
    refine dig_skip _ 14 c t k l (by omega) (by rw [show ((14 : Nat) : Int) = 14 from rfl, e1]; omega) ?_
    refine dig_skip _ 7 c t k l (by omega) (by rw [show ((7 : Nat) : Int) = 7 from rfl, e2]; omega) ?_
    refine dig_put _ (by simp) 0 c t t k l (by omega) (by omega) e3 (by omega) ?_
    have hh := dig_end [F] (128 + t % 128) (by simp) (by omega) c (t : Int) k l hl
    rw [show (128 + t % 128) % 128 = t by omega] at hh
    exact hh
  · rw [if_neg h1]
    by_cases h2 : t < 16384
    · rw [if_pos h2]
      refine dig_skip _ 14 c t k l (by omega) (by rw [show ((14 : Nat) : Int) = 14 from rfl, e1]; omega) ?_
      refine dig_put _ (by simp) 7 c t (t / 128) k l (by omega) (by omega) e2 (by omega) ?_
      refine dig_put _ (by simp) 0 c t t k l (by omega) (by omega) e3 (by omega) ?_
      have hh := dig_end [F, 128 + t / 128 % 128] (128 + t % 128) (by simp) (by omega) c (t : Int) k l hl
      rw [show (128 + t % 128) % 128 = t % 128 by omega, show t / 128 % 128 = t / 128 by omega] at hh
      rw [show t / 128 % 128 = t / 128 by omega]
      exact hh
    · rw [if_neg h2]
      refine dig_put _ (by simp) 14 c t (t / 16384) k l (by omega) (by omega) e1 (by omega) ?_
      refine dig_put _ (by simp) 7 c t (t / 128) k l (by omega) (by omega) e2 (by omega) ?_
      refine dig_put _ (by simp) 0 c t t k l (by omega) (by omega) e3 (by omega) ?_
      have hh := dig_end [F, 128 + t / 16384 % 128, 128 + t / 128 % 128] (128 + t % 128) (by simp) (by omega) c (t : Int) k l hl
      rw [show (128 + t % 128) % 128 = t % 128 by omega, show t / 16384 % 128 = t / 16384 by omega] at hh
      rw [show t / 16384 % 128 = t / 16384 by omega]
      exact hh
theorem enc_j0 (c t l : Nat) (k : Bool) (hc : c ≤ 3) (ht : t ≤ 2097151) (hl : l ≤ 65535) : Ev (fun n => head_Encode.j0 n [] ((64 * c + 32 * k.toNat : Nat) : Int) (c : Int) (t : Int) k (l : Int)) (mkB (encL c t k l), 0) := by
  refine evu ?_
  simp only [head_Encode.j0]
  unfold encL tagL
  by_cases h : t < 31
  · rw [if_pos h]
    refine evp (by omega) (evp (by decide) ?_)
    rw [show (t : Int) % 256 = (t : Int) by omega, or_first c k t hc (by omega)]
    exact enc_j2 [64 * c + 32 * k.toNat + t] (by simp) _ _ k l hl
  · rw [if_neg h]
    refine evn (by omega) (evp (by decide) ?_)
    have ho := or_first c k 31 hc (by omega)
    rw [show ((31 : Nat) : Int) = 31 from rfl] at ho
    rw [ho]
    exact enc_dig _ _ t k l (by omega) ht hl
theorem henc_c (c t : Int) (k : Bool) (l : Int) : Ev (fun n => head_Encode.f n c t k l) (encT c t k l) := by
  unfold head_Encode.f encT
  refine evs (may_h c t k l) ?_
  by_cases h : mayH c t l
  · rw [if_pos h]
    refine evp (decide_eq_true h) (evs rfl ?_)
    obtain ⟨c0, c3, t0, t3, l0, l3⟩ := h
    obtain ⟨c, rfl⟩ := Int.eq_ofNat_of_zero_le c0
    obtain ⟨t, rfl⟩ := Int.eq_ofNat_of_zero_le t0
    obtain ⟨l, rfl⟩ := Int.eq_ofNat_of_zero_le l0
    simp only [Int.toNat_natCast]
    have hh := enc_j0 c t l k (by omega) (by omega) (by omega)
    cases k with
    | true =>
      refine evp rfl ?_
      rw [or_cons c (by omega)]
      exact hh
    | false =>
      refine evn (by decide) ?_
      rw [show (wrap64 ((c : Int) * 64)) % 256 = ((64 * c + 32 * false.toNat : Nat) : Int) by rw [wrap_id (by omega) (by omega), Bool.toNat_false]; omega]
      exact hh
  · rw [if_neg h]
    exact evn (by simp [h]) (Ev.now _)
end Go.Proofs.Ytmcpfkgahmdkgaa.M
end
section
namespace Go.Proofs.Ytmcpfkgahmdkgaa.M
open Go.RowKit Go.Proofs.Ytmcpfkgahmdkgaa.Pr Go.Proofs.YtmcpfkgahmdkgaaW.PrintWords Go.Proofs.YtmcpfkgahmdkgaaW.PrintLast Go.Proofs.YtmcpfkgahmdkgaaW.PrintMore
set_option linter.unusedSimpArgs false
theorem tm {a : Nat} {b : Nat} : Int.tmod (a : Int) (b : Int) = ((a % b : Nat) : Int) := by
  rw [Int.tmod_eq_emod_of_nonneg (by omega)]; rfl
end Go.Proofs.Ytmcpfkgahmdkgaa.M
end
section
namespace Go.Proofs.Ytmcpfkgahmdkgaa.M
open Go.RowKit Go.Proofs.Ytmcpfkgahmdkgaa.Pr Go.Proofs.YtmcpfkgahmdkgaaW.PrintWords Go.Proofs.YtmcpfkgahmdkgaaW.PrintLast Go.Proofs.YtmcpfkgahmdkgaaW.PrintMore
set_option linter.unusedSimpArgs false
theorem isB_lenL {l : Nat} (h : l ≤ 65535) : isB (lenL l) := by
  unfold lenL
  intro y hy
  split at hy
  · simp at hy; omega
  · split at hy
    · simp at hy; omega
    · simp at hy; omega
theorem encT_nat (c t : Nat) (k : Bool) (l : Nat) (hc : c ≤ 3) (ht : t ≤ 2097151) (hl : l ≤ 65535) : encT (c : Int) (t : Int) k (l : Int) = (mkB (encL c t k l), 0) := by
  unfold encT
  rw [if_pos (by unfold mayH; omega)]
  simp only [Int.toNat_natCast]
section
variable {s : ByteArray} {c t m : Nat} {k : Bool} {r : List Nat}
end
end Go.Proofs.Ytmcpfkgahmdkgaa.M
end
section
namespace Go.Proofs.Ytmcpfkgahmdkgaa.Pr
open Go.RowKit Go.Proofs.YtmcpfkgahmdkgaaW.PrintWords Go.Proofs.YtmcpfkgahmdkgaaW.PrintLast Go.Proofs.YtmcpfkgahmdkgaaW.PrintMore
attribute [local go_sem] max2_int min2_int max_two min_two max_three min_three max_four min_four   -- for this text's walks alone
set_option linter.unusedVariables false
set_option linter.unusedSimpArgs false

theorem eqA55 (d : Nat) (w : World) (x0 y0 : Int) (x1 y1 : Int) (x2 y2 : Bool) (x3 y3 : Int) :
  (Op.equalIn (d + 2) 55 (.agg #[.int .i64 x0, .int .i64 x1, .bool x2, .int .i64 x3]) (.agg #[.int .i64 y0, .int .i64 y1, .bool y2, .int .i64 y3])).run Try.prog w = .ok (x0 == y0 && (x1 == y1 && (x2 == y2 && (x3 == y3)))) w := by
 refine eqA_of Try.underlying55 (by kernel_rfl) ?_
 refine eqf_cons (by rfl) (by go_simp; rfl) (by go_simp; rfl) (by go_simp) ?_
 refine eqf_cons (by rfl) (by go_simp; rfl) (by go_simp; rfl) (by go_simp) ?_
 refine eqf_cons (by rfl) (by go_simp; rfl) (by go_simp; rfl) (by go_simp) ?_
 exact eqf_last (by rfl) (by go_simp; rfl) (by go_simp; rfl) (by go_simp)
end Go.Proofs.Ytmcpfkgahmdkgaa.Pr
end
