-- several texts in one (by the session's program shake.py)
import Derived.Test.YtmcpfkgahmdkgaaZTempM
import Derived.Test.YtmcpfkgahmdkgaaZJoin
import Derived.Test.YtmcpfkgahmdkgaaZPrg33
import Derived.Test.YtmcpfkgahmdkgaaZPreq3
section
namespace Go.Proofs.Ytmcpfkgahmdkgaa.M
open Go.RowKit Go.Proofs.Ytmcpfkgahmdkgaa.Pr Go.Proofs.YtmcpfkgahmdkgaaW.PrintWords Go.Proofs.YtmcpfkgahmdkgaaW.PrintLast Go.Proofs.YtmcpfkgahmdkgaaW.PrintMore
set_option linter.unusedSimpArgs false
/-- An attribute's bytes. -/
def pieceL (a : At) : List Nat := lowL a.f0.toNat 2 ++ lowL a.f1.size 1 ++ nb a.f1
def bodyL : List At → List Nat
  | [] => []
  | a :: r => pieceL a ++ bodyL r
theorem pieceL_len (a : At) : (pieceL a).length = 3 + a.f1.size := by
  unfold pieceL
  rw [List.length_append, List.length_append, lowL_length, lowL_length, nb_length]
theorem isB_pieceL (a : At) : isB (pieceL a) := isB_append.2 ⟨isB_append.2 ⟨isB_lowL _ _, isB_lowL _ _⟩, isB_nb _⟩
/-- Texts, one behind the other. -/
def catB : List ByteArray → ByteArray
  | [] => ⟨#[]⟩
  | a :: l => a ++ catB l
theorem catB_append : ∀ (l m : List ByteArray), catB (l ++ m) = catB l ++ catB m
  | [], m => by
    show catB m = (⟨#[]⟩ : ByteArray) ++ catB m
    rw [show (⟨#[]⟩ : ByteArray) = mkB [] from rfl, ← mkB_nb (catB m), mkB_append, List.nil_append]
  | a :: l, m => by
    show a ++ catB (l ++ m) = a ++ catB l ++ catB m
    rw [catB_append l m, ← mkB_nb a, ← mkB_nb (catB l), ← mkB_nb (catB m), mkB_append, mkB_append, mkB_append, mkB_append, List.append_assoc]
theorem join_flat (l : List (List UInt8)) : Lib.join l [] = l.flatten := by
  show List.intercalate [] l = _
  unfold List.intercalate
  induction l with
  | nil => rfl
  | cons a l ih =>
    cases l with
    | nil => simp
    | cons b l =>
      rw [List.intersperse_cons_cons, List.flatten_cons, List.flatten_cons, ih]
      rfl
theorem catB_data (l : List ByteArray) : (catB l).data.toList = (l.map (·.data.toList)).flatten := by
  induction l with
  | nil => rfl
  | cons a l ih =>
    show (a ++ catB l).data.toList = _
    rw [ByteArray.data_append, Array.toList_append, ih]
    rfl
theorem joinB_cat (l : List ByteArray) : joinB l = catB l := by
  apply ByteArray.ext
  apply Array.ext'
  rw [catB_data]
  show (Lib.join (l.map (·.data.toList)) []).toArray.toList = _
  rw [join_flat]
theorem join_c (l : List ByteArray) (h1 : l.length ≤ 140737488355328) (h2 : (catB l).size ≤ 140737488355328) : octets_Join.f l = some (catB l) := by
  unfold octets_Join.f
  have e : (Lib.join (l.map (·.data.toList)) []).length = (catB l).size := by
    rw [join_flat, ← catB_data, Array.length_toList]
    rfl
  rw [if_pos h1, e, if_pos h2, joinB_cat]
theorem encLoop (l : List At) (hl : l.length ≤ 32) : ∀ (R : List At) (i : Nat) (last : Int) (O : List Nat) (P : List ByteArray), l.drop i = R → i ≤ l.length → rises last R = true → 0 ≤ last → catB P = mkB O → isB O → O.length ≤ 258 * i → P.length ≤ 3 * i →
    Ev (fun k => templ_Encode.l0 k P l (l.length : Int) (i : Int)) (mkB (hexL (O ++ bodyL R)), 0)
  | [], i, last, O, P, h, hi, hr, h0, hP, hO, ho, hp => by
    have := drop_nil h hi
    have hsz : (catB P).size = O.length := by rw [hP, mkB_size]
    refine evu ?_
    simp only [templ_Encode.l0]
    refine evn (by omega) (evs (join_c P (by omega) (by omega)) (evb (hex_c _ (by omega)) ?_))
    rw [hP, nb_mkB hO, bodyL, List.append_nil]
    exact Ev.now _
  | a :: R, i, last, O, P, h, hi, hr, h0, hP, hO, ho, hp => by
    obtain ⟨h1, h2, h3⟩ := rd_drop h
    rw [rises, Bool.and_eq_true, decide_eq_true_iff] at hr
    obtain ⟨⟨r1, r2, r3⟩, r4⟩ := hr
    obtain ⟨tg, htg⟩ : ∃ tg : Nat, a.f0 = (tg : Int) := ⟨a.f0.toNat, by omega⟩
    have hn : a.f0.toNat = tg := by omega
    have ep : pieceL a = lowL tg 2 ++ lowL a.f1.size 1 ++ nb a.f1 := by unfold pieceL; rw [hn]
    have ih := encLoop l hl R (i + 1) a.f0 (O ++ pieceL a) (P ++ [mkB (lowL tg 2), mkB (lowL a.f1.size 1), a.f1]) h3 h2 r4 (by omega) (by
      rw [catB_append, hP]
      show mkB O ++ (mkB (lowL tg 2) ++ (mkB (lowL a.f1.size 1) ++ (a.f1 ++ ⟨#[]⟩))) = _
      rw [show (⟨#[]⟩ : ByteArray) = mkB [] from rfl, ep]
      conv => lhs; rw [← mkB_nb a.f1, mkB_append, mkB_append, mkB_append, mkB_append, List.append_nil, mkB_size, nb_length]
      rw [List.append_assoc]) (isB_append.2 ⟨hO, isB_pieceL a⟩) (by rw [List.length_append, pieceL_len]; omega) (by rw [List.length_append]; show P.length + 3 ≤ _; omega)
    refine evu ?_
    simp only [templ_Encode.l0]
    rw [h1, htg, show IntKind.u64.wrap (tg : Int) = (tg : Int) by rw [IntKind.wrap_u64]; omega, show IntKind.u64.wrap (a.f1.size : Int) = (a.f1.size : Int) by rw [IntKind.wrap_u64]; omega, wrap_id (by omega) (by omega)]
    refine evp (by omega) (evp (by omega) (evp (by omega) (evs (put_2 tg) (evs (put_1 a.f1.size) (evs rfl (evp (by show P.length + 3 < _; omega) ?_))))))
    rw [show bodyL (a :: R) = pieceL a ++ bodyL R from rfl, ← List.append_assoc]
    exact ih
theorem checkA_ok {l : List At} (h : checkA l = 0) : l.length ≤ 32 ∧ rises 0 l = true := by
  unfold checkA at h
  split at h
  · assumption
  · cases h
/-- What Encode answers. -/
def encA (l : List At) : ByteArray × Int := if checkA l = 0 then (mkB (hexL (bodyL l)), 0) else (⟨#[]⟩, checkA l)
theorem enc_c (l : List At) : Ev (fun k => templ_Encode.f k l) (encA l) := by
  unfold templ_Encode.f encA
  refine evb (check_c l) ?_
  by_cases h : checkA l = 0
  · obtain ⟨g1, g2⟩ := checkA_ok h
    rw [if_pos h]
    exact evp h (evp (by omega) (evp (by omega) (encLoop l g1 l 0 0 [] [] rfl (by omega) g2 (by omega) rfl (fun x hx => by cases hx) (by simp) (by simp))))
  · rw [if_neg h]
    exact evn h (Ev.now _)
theorem rencLoop (l : List At) (hl : l.length ≤ 32) : ∀ (R : List At) (i : Nat) (last : Int) (O : List Nat), l.drop i = R → i ≤ l.length → rises last R = true → 0 ≤ last → isB O → O.length ≤ 258 * i →
    Ev (fun k => clavigerref33_digits.l0 k l (mkB O) (i : Int)) (mkB (hexL (O ++ bodyL R)))
  | [], i, last, O, h, hi, hr, h0, hO, ho => by
    have := drop_nil h hi
    have hsz : (mkB O).size = O.length := mkB_size O
    refine evu ?_
    simp only [clavigerref33_digits.l0]
    refine evn (by omega) (evb (rhex_c _ (by omega)) ?_)
    rw [nb_mkB hO, bodyL, List.append_nil]
    exact Ev.now _
  | a :: R, i, last, O, h, hi, hr, h0, hO, ho => by
    obtain ⟨h1, h2, h3⟩ := rd_drop h
    rw [rises, Bool.and_eq_true, decide_eq_true_iff] at hr
    obtain ⟨⟨r1, r2, r3⟩, r4⟩ := hr
    obtain ⟨tg, htg⟩ : ∃ tg : Nat, a.f0 = (tg : Int) := ⟨a.f0.toNat, by omega⟩
    have hn : a.f0.toNat = tg := by omega
    have ep : pieceL a = lowL tg 2 ++ lowL a.f1.size 1 ++ nb a.f1 := by unfold pieceL; rw [hn]
    have ih := rencLoop l hl R (i + 1) a.f0 (O ++ pieceL a) h3 h2 r4 (by omega) (isB_append.2 ⟨hO, isB_pieceL a⟩) (by rw [List.length_append, pieceL_len]; omega)
    have e1 : mkB O ++ mkB (lowL tg 2) ++ mkB (lowL a.f1.size 1) ++ a.f1 = mkB (O ++ pieceL a) := by
      conv => lhs; rw [← mkB_nb a.f1, mkB_append, mkB_append, mkB_append, mkB_size, nb_length]
      rw [ep]
      congr 1
      simp only [List.append_assoc]
    refine evu ?_
    simp only [clavigerref33_digits.l0]
    rw [h1, htg, show IntKind.u64.wrap (tg : Int) = (tg : Int) by rw [IntKind.wrap_u64]; omega, show IntKind.u64.wrap (a.f1.size : Int) = (a.f1.size : Int) by rw [IntKind.wrap_u64]; omega, wrap_id (by omega) (by omega)]
    refine evp (by omega) (evp (by omega) (evb (rput_c tg 2 (by omega) (by omega) (by omega)) (evp (by rw [mkB_size, mkB_size, lowL_length]; omega) (evb (rput_c a.f1.size 1 (by omega) (by omega) (by omega)) (evp (by rw [ByteArray.size_append, mkB_size, mkB_size, mkB_size, lowL_length, lowL_length]; omega) (evp (by rw [ByteArray.size_append, ByteArray.size_append, mkB_size, mkB_size, mkB_size, lowL_length, lowL_length]; omega) ?_))))))
    rw [e1, show bodyL (a :: R) = pieceL a ++ bodyL R from rfl, ← List.append_assoc]
    exact ih
theorem renc_c (l : List At) : Ev (fun k => clavigerref33_Encode.f k l) (encA l) := by
  unfold clavigerref33_Encode.f encA
  refine evb (rcheck_c l) ?_
  by_cases h : checkA l = 0
  · obtain ⟨g1, g2⟩ := checkA_ok h
    rw [if_pos h]
    refine evp h (evb ?_ (Ev.now _))
    unfold clavigerref33_digits.f
    exact rencLoop l g1 l 0 0 [] rfl (by omega) g2 (by omega) (fun x hx => by cases hx) (by simp)
  · rw [if_neg h]
    exact evn h (Ev.now _)
end Go.Proofs.Ytmcpfkgahmdkgaa.M
end
section
namespace Go.Proofs.Ytmcpfkgahmdkgaa.M
open Go.RowKit Go.Proofs.Ytmcpfkgahmdkgaa.Pr Go.Proofs.YtmcpfkgahmdkgaaW.PrintWords Go.Proofs.YtmcpfkgahmdkgaaW.PrintLast Go.Proofs.YtmcpfkgahmdkgaaW.PrintMore
set_option linter.unusedSimpArgs false
def parseF : Nat → List Nat → Option (List At)
  | _, [] => some []
  | 0, _ :: _ => none
  | n + 1, x :: y :: z :: R => if R.length < z then none else (parseF n (R.drop z)).map (fun l => (⟨((256 * x + y : Nat) : Int), mkB (R.take z)⟩ : At) :: l)
  | _ + 1, _ :: _ => none
theorem parseF_cons (n x y z : Nat) (R : List Nat) : parseF (n + 1) (x :: y :: z :: R) = if R.length < z then none else (parseF n (R.drop z)).map (fun l => (⟨((256 * x + y : Nat) : Int), mkB (R.take z)⟩ : At) :: l) := rfl
theorem low2 {tg : Nat} (h : tg ≤ 65535) : lowL tg 2 = [tg / 256, tg % 256] := by
  show [tg / 256 ^ 1 % 256, tg / 256 ^ 0 % 256] = _
  rw [Nat.pow_one, Nat.pow_zero, Nat.div_one, Nat.mod_eq_of_lt (show tg / 256 < 256 by omega)]
theorem low1 {z : Nat} (h : z ≤ 255) : lowL z 1 = [z] := by
  show [z / 256 ^ 0 % 256] = _
  rw [Nat.pow_zero, Nat.div_one, Nat.mod_eq_of_lt (by omega)]
theorem body_parse : ∀ (n : Nat) (S : List Nat) (l : List At), isB S → parseF n S = some l → bodyL l = S
  | 0, [], l, _, h => by obtain rfl := Option.some.inj h; rfl
  | _ + 1, [], l, _, h => by obtain rfl := Option.some.inj h; rfl
  | 0, _ :: _, l, _, h => by cases h
  | n + 1, [_], l, _, h => by cases h
  | n + 1, [_, _], l, _, h => by cases h
  | n + 1, x :: y :: z :: R, l, hB, h => by
    rw [parseF_cons] at h
    have hx := hB x (by simp)
    have hy := hB y (by simp)
    have hz := hB z (by simp)
    have hR : isB R := fun q hq => hB q (by simp [hq])
    by_cases c : R.length < z
    · rw [if_pos c] at h; cases h
    · rw [if_neg c] at h
      cases hp : parseF n (R.drop z) with
      | none => rw [hp] at h; cases h
      | some r =>
        rw [hp] at h
        simp only [Option.map_some, Option.some.injEq] at h
        subst h
        have ih := body_parse n (R.drop z) r (isB_drop hR z) hp
        have hs : (mkB (R.take z)).size = z := by rw [mkB_size, List.length_take]; omega
        show lowL (Int.toNat ((256 * x + y : Nat) : Int)) 2 ++ lowL (mkB (R.take z)).size 1 ++ nb (mkB (R.take z)) ++ bodyL r = _
        rw [Int.toNat_natCast, hs, low2 (by omega), low1 (by omega), nb_mkB (isB_take hR z), ih, show (256 * x + y) / 256 = x by omega, show (256 * x + y) % 256 = y by omega]
        simp
theorem cut_c (s : ByteArray) (i n : Nat) (hs : s.size ≤ 1000000) : octets_Cut.f s (i : Int) (n : Int) = some (mkB (((nb s).drop i).take n)) := by
  unfold octets_Cut.f
  rw [if_neg (by omega)]
  by_cases h1 : s.size ≤ i
  · rw [if_pos (by omega), List.drop_of_length_le (by rw [nb_length]; omega)]
    rw [List.take_nil]
    rfl
  · rw [if_neg (by omega)]
    by_cases h2 : n < 1
    · rw [if_pos (by omega), show n = 0 by omega, List.take_zero]
      rfl
    · rw [if_neg (by omega)]
      have e : wrap64 ((i : Int) + mn (n : Int) (wrap64 ((s.size : Int) - (i : Int)))) = ((i + min n (s.size - i) : Nat) : Int) := by
        rw [wrap_id (x := (s.size : Int) - (i : Int)) (by omega) (by omega), show (s.size : Int) - (i : Int) = ((s.size - i : Nat) : Int) by omega, mn_c, wrap_id (by omega) (by omega)]
        omega
      rw [e, if_pos (by omega), if_pos (by omega), if_pos (by omega), Int.toNat_natCast, Int.toNat_natCast, extract_nb]
      congr 2
      rw [List.drop_take, show i + min n (s.size - i) - i = min n (s.size - i) by omega]
      by_cases g : n ≤ s.size - i
      · rw [Nat.min_eq_left g]
      · rw [Nat.min_eq_right (by omega), List.take_of_length_le (by rw [List.length_drop, nb_length]; omega), List.take_of_length_le (by rw [List.length_drop, nb_length]; omega)]
theorem or_u64_nat (a b : Nat) (ha : a < 4611686018427387904) (hb : b < 4611686018427387904) : Go.bits .or .u64 (a : Int) (b : Int) = ((a ||| b : Nat) : Int) := by
  have hx : a ||| b < 2 ^ 62 := Nat.or_lt_two_pow (by omega) (by omega)
  have h1 : (BitVec.ofInt 64 (a : Int)).toNat = a := by
    rw [BitVec.ofInt_natCast, BitVec.toNat_ofNat]; exact Nat.mod_eq_of_lt (by omega)
  have h2 : (BitVec.ofInt 64 (b : Int)).toNat = b := by
    rw [BitVec.ofInt_natCast, BitVec.toNat_ofNat]; exact Nat.mod_eq_of_lt (by omega)
  show IntKind.u64.wrap ((BitVec.ofInt 64 (a : Int) ||| BitVec.ofInt 64 (b : Int)).toNat : Int) = _
  rw [BitVec.toNat_or, h1, h2, IntKind.wrap_u64]
  omega
theorem or_byte (a b : Nat) (ha : a < 4294967296) (hb : b < 256) : Go.bits .or .u64 (IntKind.u64.wrap ((a : Int) * 256)) (IntKind.u64.wrap (b : Int)) = ((256 * a + b : Nat) : Int) := by
  rw [IntKind.wrap_u64, IntKind.wrap_u64, show (a : Int) * 256 % 18446744073709551616 = ((256 * a : Nat) : Int) by omega, show (b : Int) % 18446744073709551616 = (b : Int) by omega, or_u64_nat _ _ (by omega) (by omega), ← Nat.two_pow_add_eq_or_of_lt (i := 8) hb a]
theorem getLoop (s : ByteArray) (h4 : s.size ≤ 4) : ∀ (R : List Nat) (i a : Nat), (nb s).drop i = R → i ≤ s.size → a < 256 ^ i → Ev (fun k => octets_Get.l0 k s (a : Int) (s.size : Int) (i : Int)) (((valL a R : Nat) : Int), true)
  | [], i, a, h, hi, ha => by
    have := nb_nil_drop h hi
    refine evu ?_
    simp only [octets_Get.l0]
    exact evn (by omega) (Ev.now _)
  | b :: R, i, a, h, hi, ha => by
    obtain ⟨b1, b2, b3, b4⟩ := nb_cons_drop h
    have e1 : 256 ^ (i + 1) = 256 * 256 ^ i := by rw [Nat.pow_succ, Nat.mul_comm]
    have e3 : 256 ^ i ≤ 256 ^ 3 := Nat.pow_le_pow_right (by decide) (by omega)
    rw [show (256 : Nat) ^ 3 = 16777216 from rfl] at e3
    have ih := getLoop s h4 R (i + 1) (256 * a + b) b3 b2 (by omega)
    refine evu ?_
    simp only [octets_Get.l0]
    rw [bt_bb, b1, or_byte a b (by omega) b4, wrap_id (by omega) (by omega)]
    exact evp (by omega) (evp (by omega) (evp (by omega) ih))
theorem get_c (s : ByteArray) (h4 : s.size ≤ 4) : Ev (fun k => octets_Get.f k s) (if s.size = 0 then (0, false) else (((valL 0 (nb s) : Nat) : Int), true)) := by
  unfold octets_Get.f
  by_cases h : s.size = 0
  · rw [if_pos h]
    refine evp (by omega) (evu ?_)
    simp only [octets_Get.j0]
    exact evp trivial (Ev.now _)
  · rw [if_neg h]
    refine evn (by omega) (evu ?_)
    simp only [octets_Get.j0]
    refine evn (by simp; omega) ?_
    exact getLoop s h4 (nb s) 0 0 rfl (by omega) (by decide)
/-- What take answers. -/
def takeT : List Nat → Int × ByteArray × ByteArray × Bool
  | x :: y :: z :: R => if R.length < z then (0, ⟨#[]⟩, ⟨#[]⟩, false) else (((256 * x + y : Nat) : Int), mkB (R.take z), mkB (R.drop z), true)
  | _ => (0, ⟨#[]⟩, ⟨#[]⟩, false)
theorem takeT_cons (x y z : Nat) (R : List Nat) : takeT (x :: y :: z :: R) = if R.length < z then (0, ⟨#[]⟩, ⟨#[]⟩, false) else (((256 * x + y : Nat) : Int), mkB (R.take z), mkB (R.drop z), true) := rfl
theorem get_list (L : List Nat) (hB : isB L) (h4 : L.length ≤ 4) : Ev (fun k => octets_Get.f k (mkB L)) (if L.length = 0 then (0, false) else (((valL 0 L : Nat) : Int), true)) := by
  have := get_c (mkB L) (by rw [mkB_size]; exact h4)
  rwa [mkB_size, nb_mkB hB] at this
theorem take_c (s : ByteArray) (hs : s.size ≤ 1000000) : Ev (fun k => templ_take.f k s) (takeT (nb s)) := by
  have hB := isB_nb s
  have hlen := nb_length s
  unfold templ_take.f
  refine evs (cut_c s 0 2 hs) (evb (get_list _ (isB_take (isB_drop hB 0) 2) (by rw [List.length_take]; omega)) (evs (cut_c s 2 1 hs) (evb (get_list _ (isB_take (isB_drop hB 2) 1) (by rw [List.length_take]; omega)) ?_)))
  rw [List.drop_zero]
  match hl : nb s with
  | [] => exact evn (by simp) (Ev.now _)
  | [x] => exact evp (by simp) (evn (by simp) (Ev.now _))
  | [x, y] => exact evp (by simp) (evn (by simp) (Ev.now _))
  | x :: y :: z :: R =>
    rw [hl] at hB hlen
    have hx := hB x (by simp)
    have hy := hB y (by simp)
    have hz := hB z (by simp)
    simp only [List.length_cons] at hlen
    refine evp (by simp) (evp (by simp) ?_)
    have e1 : (if (List.take 1 (List.drop 2 (x :: y :: z :: R))).length = 0 then ((0 : Int), false) else (((valL 0 (List.take 1 (List.drop 2 (x :: y :: z :: R))) : Nat) : Int), true)) = ((z : Int), true) := by
      show ((((256 * 0 + z : Nat) : Int)), true) = _
      rw [show 256 * 0 + z = z by omega]
    have e2 : (if (List.take 2 (x :: y :: z :: R)).length = 0 then ((0 : Int), false) else (((valL 0 (List.take 2 (x :: y :: z :: R)) : Nat) : Int), true)) = (((256 * x + y : Nat) : Int), true) := by
      show ((((256 * (256 * 0 + x) + y : Nat) : Int)), true) = _
      rw [show 256 * (256 * 0 + x) + y = 256 * x + y by omega]
    rw [e1, e2]
    simp only
    rw [wrap_id (x := (z : Int)) (by omega) (by omega), wrap_id (x := 3 + (z : Int)) (by omega) (by omega), wrap_id (x := ((256 * x + y : Nat) : Int)) (by omega) (by omega), show IntKind.u64.wrap (3 + (z : Int)) = 3 + (z : Int) by rw [IntKind.wrap_u64]; omega]
    rw [takeT_cons]
    by_cases c : R.length < z
    · rw [if_pos c]
      exact evp (by omega) (Ev.now _)
    · rw [if_neg c]
      refine evn (by omega) (evs (cut_c s 3 z hs) (evp (by omega) (evp (by omega) ?_)))
      have e3 : s.extract (Int.toNat (3 + (z : Int))) s.size = mkB (R.drop z) := by
        rw [extract_nb, List.take_of_length_le (by rw [nb_length]; exact Nat.le_refl _), hl, show Int.toNat (3 + (z : Int)) = z + 3 by omega]
        rfl
      rw [e3, hl]
      exact Ev.now _
def fin (l : List At) : List At × Int := if checkA l = 0 then (l, 0) else ([], checkA l)
/-- What Decode answers, of the bytes. -/
def decS (S : List Nat) : List At × Int :=
  match parseF S.length S with
  | none => ([], 5)
  | some l => fin l
def decA (t : ByteArray) : List At × Int :=
  match unhexL (nb t) with
  | none => ([], 5)
  | some S => decS S
theorem dec_stop (out : List At) : Ev (fun k => templ_Decode.j1 k false out) ([], 5) := by
  refine evu ?_
  simp only [templ_Decode.j1]
  exact evn (by decide) (Ev.now _)
theorem tls_loop (s : ByteArray) : ∀ (d i : Nat) (r : List UInt8), s.size - i = d → ByteArray.toList.loop s i r = r.reverse ++ s.data.toList.drop i := by
  intro d
  induction d with
  | zero =>
    intro i r h
    rw [ByteArray.toList.loop, if_neg (by omega), List.drop_of_length_le (by rw [Array.length_toList]; show s.size ≤ i; omega), List.append_nil]
  | succ d ih =>
    intro i r h
    have hi : i < s.size := by omega
    rw [ByteArray.toList.loop, if_pos hi, ih (i + 1) _ (by omega), List.reverse_cons, List.append_assoc]
    have hi' : i < s.data.toList.length := by rw [Array.length_toList]; exact hi
    rw [List.drop_eq_getElem_cons hi']
    congr 1
    simp [ByteArray.get!, hi]
theorem tls_eq (s : ByteArray) : s.toList = s.data.toList := by
  unfold ByteArray.toList
  rw [tls_loop s _ 0 [] rfl]
  rfl
theorem toList_nil {L : List Nat} : (mkB L).toList = ([] : List UInt8) ↔ L = [] := by
  rw [tls_eq]
  refine ⟨fun h => ?_, fun h => by rw [h]; rfl⟩
  have := congrArg List.length h
  rw [Array.length_toList] at this
  have h0 : (mkB L).size = 0 := this
  rw [mkB_size] at h0
  exact List.eq_nil_of_length_eq_zero h0
theorem decLoop : ∀ (n : Nat) (S : List Nat) (out : List At), S.length ≤ n → S.length ≤ 1000000 → isB S → out.length + S.length ≤ 1000000 → Ev (fun k => templ_Decode.l0 k (mkB S) true out) (match parseF n S with | none => ([], 5) | some l => fin (out ++ l))
  | n, [], out, hn, hs, hB, ho => by
    have e : parseF n [] = some [] := by cases n <;> rfl
    rw [e]
    show Ev _ (fin (out ++ []))
    rw [List.append_nil]
    refine evu ?_
    simp only [templ_Decode.l0]
    refine evp trivial (evp (toList_nil.2 rfl) (evu ?_))
    simp only [templ_Decode.j1]
    refine evp trivial (evb (check_c out) ?_)
    unfold fin
    by_cases h : checkA out = 0
    · rw [if_pos h, if_pos h]
      exact Ev.now _
    · rw [if_neg h, if_neg h]
      exact Ev.now _
  | 0, _ :: _, out, hn, hs, hB, ho => by rw [List.length_cons] at hn; omega
  | n + 1, a :: S, out, hn, hs, hB, ho => by
    have hsz : (mkB (a :: S)).size = (a :: S).length := mkB_size _
    refine evu ?_
    simp only [templ_Decode.l0]
    refine evp trivial (evn (fun e => by have := toList_nil.1 e; cases this) (evb (take_c _ (by omega)) (evp (by rw [List.length_cons] at ho; omega) ?_)))
    rw [nb_mkB hB]
    match S, hn, hs, hB, ho with
    | [], _, _, _, _ =>
      refine evu ?_
      simp only [templ_Decode.l0, takeT]
      exact evn (by decide) (dec_stop _)
    | [_], _, _, _, _ =>
      refine evu ?_
      simp only [templ_Decode.l0, takeT]
      exact evn (by decide) (dec_stop _)
    | y :: z :: R, hn, hs, hB, ho =>
      simp only [List.length_cons] at hn hs ho
      rw [parseF_cons, takeT_cons]
      by_cases c : R.length < z
      · rw [if_pos c, if_pos c]
        refine evu ?_
        simp only [templ_Decode.l0]
        exact evn (by decide) (dec_stop _)
      · rw [if_neg c, if_neg c]
        have hR : isB R := fun q hq => hB q (by simp [hq])
        have ih := decLoop n (R.drop z) (out ++ [(⟨((256 * a + y : Nat) : Int), mkB (R.take z)⟩ : At)]) (by rw [List.length_drop]; omega) (by rw [List.length_drop]; omega) (isB_drop hR z) (by rw [List.length_append, List.length_drop]; simp only [List.length_cons, List.length_nil]; omega)
        cases hp : parseF n (R.drop z) with
        | none => rw [hp] at ih; exact ih
        | some l =>
          rw [hp] at ih
          simp only [List.append_assoc, List.cons_append, List.nil_append] at ih
          exact ih
theorem dec_c (t : ByteArray) (ht : t.size ≤ 1000000) : Ev (fun k => templ_Decode.f k t) (decA t) := by
  unfold templ_Decode.f decA
  refine evs (unhex_c (by omega)) ?_
  unfold unhexA
  cases h : unhexL (nb t) with
  | none =>
    refine evu ?_
    simp only [templ_Decode.l0]
    exact evn (by decide) (dec_stop _)
  | some S =>
    obtain ⟨-, h2, h3⟩ := hex_unhex h
    rw [nb_length] at h3
    have := decLoop S.length S [] (Nat.le_refl _) (by omega) h2 (by simp; omega)
    simp only [List.nil_append] at this
    exact this
theorem rdecLoop : ∀ (n : Nat) (S : List Nat) (out : List At), S.length ≤ n → S.length ≤ 1000000 → isB S → out.length + S.length ≤ 1000000 → Ev (fun k => clavigerref33_Decode.l0 k (mkB S) out) (match parseF n S with | none => ([], 5) | some l => fin (out ++ l))
  | n, [], out, hn, hs, hB, ho => by
    have e : parseF n [] = some [] := by cases n <;> rfl
    rw [e]
    show Ev _ (fin (out ++ []))
    rw [List.append_nil]
    refine evu ?_
    simp only [clavigerref33_Decode.l0]
    refine evn (by rw [mkB_size]; simp) (evb (rcheck_c out) ?_)
    unfold fin
    by_cases h : checkA out = 0
    · rw [if_pos h, if_pos h]
      exact Ev.now _
    · rw [if_neg h, if_neg h]
      exact Ev.now _
  | 0, _ :: _, out, hn, hs, hB, ho => by rw [List.length_cons] at hn; omega
  | n + 1, a :: S, out, hn, hs, hB, ho => by
    have hsz : (mkB (a :: S)).size = (a :: S).length := mkB_size _
    have hnb := nb_mkB hB
    rw [List.length_cons] at hsz
    refine evu ?_
    simp only [clavigerref33_Decode.l0]
    refine evp (by omega) ?_
    match S, hn, hs, hB, ho, hsz, hnb with
    | [], _, _, _, _, hsz, _ => exact evp (by rw [hsz]; simp) (Ev.now _)
    | [_], _, _, _, _, hsz, _ => exact evp (by rw [hsz]; simp) (Ev.now _)
    | y :: z :: R, hn, hs, hB, ho, hsz, hnb =>
      simp only [List.length_cons] at hn hs ho hsz
      have hx := hB a (by simp)
      have hy := hB y (by simp)
      have hz := hB z (by simp)
      have hR : isB R := fun q hq => hB q (by simp [hq])
      have b0 : bt (mkB (a :: y :: z :: R)) 0 = (a : Int) := by have := bt_bb (mkB (a :: y :: z :: R)) 0; rw [bb_nb, hnb] at this; exact this
      have b1 : bt (mkB (a :: y :: z :: R)) 1 = (y : Int) := by have := bt_bb (mkB (a :: y :: z :: R)) 1; rw [bb_nb, hnb] at this; exact this
      have b2 : bt (mkB (a :: y :: z :: R)) 2 = (z : Int) := by have := bt_bb (mkB (a :: y :: z :: R)) 2; rw [bb_nb, hnb] at this; exact this
      rw [parseF_cons, b0, b1, b2, wrap_id (x := (z : Int)) (by omega) (by omega), wrap_id (x := (a : Int)) (by omega) (by omega), wrap_id (x := (y : Int)) (by omega) (by omega), wrap_id (x := 3 + (z : Int)) (by omega) (by omega), wrap_id (x := 256 * (a : Int)) (by omega) (by omega), wrap_id (x := 256 * (a : Int) + (y : Int)) (by omega) (by omega)]
      refine evn (by omega) (evp (by omega) ?_)
      by_cases c : R.length < z
      · rw [if_pos c]
        exact evp (by omega) (Ev.now _)
      · rw [if_neg c]
        refine evn (by omega) (evp (by omega) (evp (by omega) (evp (by omega) (evp (by omega) (evp (by omega) (evp (by omega) ?_))))))
        have e1 : (mkB (a :: y :: z :: R)).extract (Int.toNat (3 + (z : Int))) (mkB (a :: y :: z :: R)).size = mkB (R.drop z) := by
          rw [extract_nb, List.take_of_length_le (by rw [nb_length]; exact Nat.le_refl _), hnb, show Int.toNat (3 + (z : Int)) = z + 3 by omega]
          rfl
        have e2 : (mkB (a :: y :: z :: R)).extract 3 (Int.toNat (3 + (z : Int))) = mkB (R.take z) := by
          rw [extract_nb, hnb, List.drop_take, show Int.toNat (3 + (z : Int)) - 3 = z by omega]
          rfl
        rw [e1, e2, show 256 * (a : Int) + (y : Int) = ((256 * a + y : Nat) : Int) by omega]
        have ih := rdecLoop n (R.drop z) (out ++ [(⟨((256 * a + y : Nat) : Int), mkB (R.take z)⟩ : At)]) (by rw [List.length_drop]; omega) (by rw [List.length_drop]; omega) (isB_drop hR z) (by rw [List.length_append, List.length_drop]; simp only [List.length_cons, List.length_nil]; omega)
        cases hp : parseF n (R.drop z) with
        | none => rw [hp] at ih; exact ih
        | some l =>
          rw [hp] at ih
          simp only [List.append_assoc, List.cons_append, List.nil_append] at ih
          exact ih
theorem rdec_c (t : ByteArray) (ht : t.size ≤ 1000000) : Ev (fun k => clavigerref33_Decode.f k t) (decA t) := by
  unfold clavigerref33_Decode.f decA
  refine evb (runhex_c t ht) ?_
  unfold unhexA
  cases h : unhexL (nb t) with
  | none => exact evn (by decide) (Ev.now _)
  | some S =>
    obtain ⟨-, h2, h3⟩ := hex_unhex h
    rw [nb_length] at h3
    have := rdecLoop S.length S [] (Nat.le_refl _) (by omega) h2 (by simp; omega)
    simp only [List.nil_append] at this
    exact evp rfl this
end Go.Proofs.Ytmcpfkgahmdkgaa.M
end
