-- several texts in one (by the session's program shake.py)
import Derived.Test.YtokkhnjedmlbhaaZRowC
import Derived.Test.YtokkhnjedmlbhaaZPrg01x
import Derived.Test.YtokkhnjedmlbhaaZPrg09
import Derived.Test.YtokkhnjedmlbhaaZPrg01
import Derived.Deep.RegionLaw
import Derived.Deep.DeepCutAuto
import Derived.Test.YtokkhnjedmlbhaaZPrg08
import Derived.Test.YtokkhnjedmlbhaaZPrg11b
import Derived.Test.YtokkhnjedmlbhaaZPrg12
import Derived.Deep.QuietTactic
import Derived.BigQuiet
section
namespace Go.Proofs.Ytokkhnjedmlbhaa.M
open Go.RowKit Go.Proofs.Ytokkhnjedmlbhaa.Pr Go.Proofs.YtokkhnjedmlbhaaW.PrintWords Go.Proofs.YtokkhnjedmlbhaaW.PrintLast Go.Proofs.YtokkhnjedmlbhaaW.PrintMore Go.Proofs.YtokkhnjedmlbhaaGf
set_option linter.unusedSimpArgs false
def okX (f : ByteArray → ByteArray) (s : ByteArray) : ByteArray × Int := if s.size = 16 then (f s, 0) else (⟨#[]⟩, 4)
/-- A block, encrypted; decrypted; or why not. -/
def encX (key s : ByteArray) : ByteArray × Int := if okN key.size then okX (encT (ksB key)) s else (⟨#[]⟩, 2)
theorem dropB {ks : List ByteArray} {i : Nat} (h : i < ks.length) : ks.drop i = ks.getD i ByteArray.empty :: ks.drop (i + 1) := by
  rw [List.drop_eq_getElem_cons h]
  simp [List.getD_eq_getElem?_getD, h]
theorem last_i (ks : List ByteArray) (i : Nat) (h : i < ks.length) (hb : ks.length ≤ 100) : (((i : Nat) : Int) == wrap64 ((ks.length : Int) - 1)) = (ks.drop (i + 1)).isEmpty := by
  rw [wrap_id (by omega) (by omega)]
  by_cases e : i + 1 = ks.length
  · rw [List.drop_of_length_le (by omega)]
    exact beq_iff_eq.mpr (by omega)
  · rw [dropB (show i + 1 < ks.length by omega)]
    exact beq_eq_false_iff_ne.mpr (by omega)
theorem rfwdL (ks : List ByteArray) (hb : ks.length ≤ 100) (d : Nat) : ∀ (i : Nat) (s : ByteArray), ks.length - i = d → i ≤ ks.length → Ev (fun k => clavigerref09_forward.l0 k ks s (i : Int)) (fwd (ks.drop i) s) := by
  induction d with
  | zero =>
    intro i s hd hi
    rw [List.drop_of_length_le (by omega)]
    refine Ev.step (f := fun _ => some s) (fun k => ?_) (Ev.now _)
    simp only [clavigerref09_forward.l0]
    rw [if_neg (by omega)]
  | succ d ih =>
    intro i s hd hi
    rw [dropB (show i < ks.length by omega)]
    refine Ev.step (f := fun k => (clavigerref07_Do.f k s (ks.getD i ByteArray.empty) ((ks.drop (i + 1)).isEmpty)).bind fun t269 => clavigerref09_forward.l0 k ks t269 ((i + 1 : Nat) : Int)) (fun k => ?_) ?_
    · simp only [clavigerref09_forward.l0]
      rw [if_pos (by omega), if_pos (by omega), last_i ks i (by omega) hb, rdO, wrap_id (by omega) (by omega)]
      rfl
    · exact evb (rdo_t _ _ _) (ih (i + 1) _ (by omega) (by omega))
theorem rfwd_c (ks : List ByteArray) (s : ByteArray) (h0 : 0 < ks.length) (hb : ks.length ≤ 100) : Ev (fun k => clavigerref09_forward.f k ks s) (encT ks s) := by
  unfold clavigerref09_forward.f
  refine evp (by omega) (evb (rkey_t _ _) ?_)
  have := rfwdL ks hb _ 1 (kyT s (rdOf ByteArray.empty ks 0)) rfl (by omega)
  cases ks with
  | nil => simp at h0
  | cons k ks => exact this
theorem rbwdL (ks : List ByteArray) (s : ByteArray) (hb : ks.length ≤ 100) : ∀ (i : Nat), i < ks.length → Ev (fun k => clavigerref09_backward.l0 k ks (bwd (ks.drop (i + 1)) s) (i : Int)) (decT ks s)
  | 0, hi => by
    refine Ev.step (f := fun k => (clavigerref07_Key.f k (bwd (ks.drop 1) s) (ks.getD 0 ByteArray.empty)).bind fun t390 => some t390) (fun k => ?_) ?_
    · simp only [clavigerref09_backward.l0]
      rw [if_neg (by omega), if_pos (by omega)]
      rfl
    · refine evb (rkey_t _ _) ?_
      cases ks with
      | nil => simp at hi
      | cons k ks => exact Ev.now _
  | i + 1, hi => by
    refine Ev.step (f := fun k => (clavigerref07_Undo.f k (bwd (ks.drop (i + 1 + 1)) s) (ks.getD (i + 1) ByteArray.empty) ((ks.drop (i + 1 + 1)).isEmpty)).bind fun t388 => clavigerref09_backward.l0 k ks t388 (i : Int)) (fun k => ?_) ?_
    · simp only [clavigerref09_backward.l0]
      rw [if_pos (by omega), if_pos (by omega), if_pos (by omega), last_i ks (i + 1) (by omega) hb, rdO, show wrap64 (((i + 1 : Nat) : Int) - 1) = (i : Int) by rw [wrap_id (by omega) (by omega)]; omega]
    · refine evb (run_t _ _ _) ?_
      have := rbwdL ks s hb i (by omega)
      rw [dropB (show i + 1 < ks.length by omega)] at this
      exact this
theorem rbwd_c (ks : List ByteArray) (s : ByteArray) (h0 : 0 < ks.length) (hb : ks.length ≤ 100) : Ev (fun k => clavigerref09_backward.f k ks s) (decT ks s) := by
  unfold clavigerref09_backward.f
  rw [show wrap64 ((ks.length : Int) - 1) = ((ks.length - 1 : Nat) : Int) by rw [wrap_id (by omega) (by omega)]; omega]
  have := rbwdL ks s hb (ks.length - 1) (by omega)
  rw [List.drop_of_length_le (by omega)] at this
  exact this
theorem renc_c (key s : ByteArray) : Ev (fun k => clavigerref09_Encrypt.f k key s) (encX key s) := by
  unfold clavigerref09_Encrypt.f encX okX
  by_cases h : okN key.size
  · rw [if_pos h]
    have hl := ks_len h
    refine evb (rkeys_c h) (evp rfl ?_)
    by_cases hs : s.size = 16
    · rw [if_pos hs]
      exact evp (by omega) (evb (rfwd_c _ _ (show 0 < (ksB key).length by omega) hl.2) (Ev.now _))
    · rw [if_neg hs]
      exact evn (by omega) (Ev.now _)
  · rw [if_neg h]
    exact evb (rkeys_n h) (evn (by decide) (Ev.now _))
theorem encX_ok {key s : ByteArray} (h : okN key.size) (hs : s.size = 16) : encX key s = (encT (ksB key) s, 0) := by unfold encX okX; rw [if_pos h, if_pos hs]
theorem nil_list : (⟨#[]⟩ : ByteArray).toList = ([] : List UInt8) := by decide +kernel
def cryT (ks : List ByteArray) (back : Bool) (s : ByteArray) : ByteArray := if back then decT ks s else encT ks s
def manyB (ks : List ByteArray) (back : Bool) (m : Nat) (s : ByteArray) : ByteArray := catB ((pcs 16 m s).map (cryT ks back))
def manyX (key s : ByteArray) (back : Bool) : ByteArray × Int := if okN key.size then if s.size % 16 = 0 then (manyB (ksB key) back (s.size / 16) s, 0) else (⟨#[]⟩, 4) else (⟨#[]⟩, 2)
theorem pcs_succ (n m : Nat) (s : ByteArray) : pcs n (m + 1) s = pcs n m s ++ [s.extract (n * m) (n * m + n)] := by
  unfold pcs; rw [List.range_succ, List.map_append]; rfl
theorem many_succ (ks : List ByteArray) (back : Bool) (m : Nat) (s : ByteArray) : manyB ks back (m + 1) s = manyB ks back m s ++ cryT ks back (s.extract (16 * m) (16 * m + 16)) := by
  unfold manyB
  rw [pcs_succ, List.map_append, cat_app, List.map_singleton, cat_one]
theorem cry_size {ks : List ByteArray} (h : all16 ks) (back : Bool) {s : ByteArray} (hs : s.size = 16) : (cryT ks back s).size = 16 := by
  unfold cryT
  cases back
  · exact enc_size h hs
  · exact dec_size h hs
theorem many_all {ks : List ByteArray} (h : all16 ks) (back : Bool) {m : Nat} {s : ByteArray} (hs : 16 * m ≤ s.size) : allS 16 ((pcs 16 m s).map (cryT ks back)) := by
  intro x hx
  obtain ⟨y, hy, rfl⟩ := List.mem_map.1 hx
  exact cry_size h back (pcs_size hs y hy)
theorem many_size {ks : List ByteArray} (h : all16 ks) (back : Bool) {m : Nat} {s : ByteArray} (hs : 16 * m ≤ s.size) : (manyB ks back m s).size = 16 * m := by
  unfold manyB
  rw [cat_size 16 _ (many_all h back hs), List.length_map, pcs_length]
theorem rmanyL {ks : List ByteArray} (hk : all16 ks) (h0 : 0 < ks.length) (hb : ks.length ≤ 100) (back : Bool) (s : ByteArray) (n : Nat) (hs : s.size = 16 * n) (hn : n < 1000000000) (d : Nat) : ∀ m, n - m = d → m ≤ n →
    Ev (fun k => clavigerref09_Many.l0 k s back ks (manyB ks back m s) ((16 * m : Nat) : Int)) (manyB ks back n s, 0) := by
  induction d with
  | zero =>
    intro m hd hm
    obtain rfl : m = n := by omega
    refine Ev.step (f := fun _ => some (manyB ks back m s, 0)) (fun k => ?_) (Ev.now _)
    simp only [clavigerref09_Many.l0]
    rw [if_neg (by omega)]
  | succ d ih =>
    intro m hd hm
    have hh := ih (m + 1) (by omega) (by omega)
    rw [many_succ] at hh
    have e : wrap64 (((16 * m : Nat) : Int) + 16) = ((16 * m + 16 : Nat) : Int) := by rw [wrap_id (by omega) (by omega)]; omega
    have e2 : ((16 * (m + 1) : Nat) : Int) = ((16 * m + 16 : Nat) : Int) := by omega
    rw [e2] at hh
    have hz : (s.extract (16 * m) (16 * m + 16)).size = 16 := by rw [ByteArray.size_extract]; omega
    have hc := cry_size hk back hz
    have hmz := many_size hk back (m := m) (s := s) (by omega)
    cases back with
    | true =>
      refine Ev.step (f := fun k => (clavigerref09_backward.f k ks (s.extract (16 * m) (16 * m + 16))).bind fun t395 => if (manyB ks true m s).size + t395.size ≤ 9223372036854775807 then clavigerref09_Many.l0 k s true ks (manyB ks true m s ++ t395) ((16 * m + 16 : Nat) : Int) else none) (fun k => ?_) ?_
      · simp only [clavigerref09_Many.l0]
        rw [if_pos (by omega), if_pos True.intro, if_pos (by omega), e, if_pos (by omega), if_pos (by omega), Int.toNat_natCast, Int.toNat_natCast]
      · refine evb (rbwd_c _ _ h0 hb) (evp ?_ hh)
        have : (decT ks (s.extract (16 * m) (16 * m + 16))).size = 16 := hc
        omega
    | false =>
      refine Ev.step (f := fun k => (clavigerref09_forward.f k ks (s.extract (16 * m) (16 * m + 16))).bind fun t395 => if (manyB ks false m s).size + t395.size ≤ 9223372036854775807 then clavigerref09_Many.l0 k s false ks (manyB ks false m s ++ t395) ((16 * m + 16 : Nat) : Int) else none) (fun k => ?_) ?_
      · simp only [clavigerref09_Many.l0]
        rw [if_pos (by omega), if_neg (by simp), if_pos (by omega), e, if_pos (by omega), if_pos (by omega), Int.toNat_natCast, Int.toNat_natCast]
      · refine evb (rfwd_c _ _ h0 hb) (evp ?_ hh)
        have : (encT ks (s.extract (16 * m) (16 * m + 16))).size = 16 := hc
        omega
theorem rmany_c (key s : ByteArray) (back : Bool) (hb : s.size < 1000000000) : Ev (fun k => clavigerref09_Many.f k key s back) (manyX key s back) := by
  unfold clavigerref09_Many.f manyX
  by_cases h : okN key.size
  · rw [if_pos h]
    have hl := ks_len h
    refine evb (rkeys_c h) (evp rfl ?_)
    by_cases hs : s.size % 16 = 0
    · rw [if_pos hs]
      exact evp (by omega) (rmanyL (ks_facts h).2.1 (by omega) hl.2 back s (s.size / 16) (by omega) (by omega) _ 0 rfl (by omega))
    · rw [if_neg hs]
      exact evn (by omega) (Ev.now _)
  · rw [if_neg h]
    exact evb (rkeys_n h) (evn (by decide) (Ev.now _))
end Go.Proofs.Ytokkhnjedmlbhaa.M
end
section
namespace Go.Proofs.Ytokkhnjedmlbhaa.M
/-- What comes ahead of block j of a chain; the chain up to there. -/
def ivJ (ks : List ByteArray) (s iv : ByteArray) : Nat → ByteArray
  | 0 => iv
  | j + 1 => encT ks (xorT (s.extract (16 * j) (16 * j + 16)) (ivJ ks s iv j))
def outJ (ks : List ByteArray) (s iv : ByteArray) : Nat → ByteArray
  | 0 => ⟨#[]⟩
  | j + 1 => outJ ks s iv j ++ ivJ ks s iv (j + 1)
theorem ivJ_size {ks : List ByteArray} (h : all16 ks) {s iv : ByteArray} (hi : iv.size = 16) : ∀ j, 16 * j ≤ s.size → (ivJ ks s iv j).size = 16
  | 0, _ => hi
  | j + 1, hj => enc_size h (by rw [xorT_size, ivJ_size h hi j (by omega), ByteArray.size_extract]; omega)
theorem outJ_size {ks : List ByteArray} (h : all16 ks) {s iv : ByteArray} (hi : iv.size = 16) : ∀ j, 16 * j ≤ s.size → (outJ ks s iv j).size = 16 * j
  | 0, _ => rfl
  | j + 1, hj => by
    show (outJ ks s iv j ++ ivJ ks s iv (j + 1)).size = _
    rw [ByteArray.size_append, outJ_size h hi j (by omega), ivJ_size h hi (j + 1) hj, Nat.mul_succ]
/-- Why there is no chain, or 0. -/
def rdyE (key iv s : ByteArray) : Int := if okN key.size then if iv.size = 16 then if s.size % 16 = 0 then 0 else 4 else 1 else 2
theorem rdy_ok {key iv s : ByteArray} (h : rdyE key iv s = 0) : okN key.size ∧ iv.size = 16 ∧ s.size % 16 = 0 := by
  unfold rdyE at h
  by_cases h1 : okN key.size
  · rw [if_pos h1] at h
    by_cases h2 : iv.size = 16
    · rw [if_pos h2] at h
      by_cases h3 : s.size % 16 = 0
      · exact ⟨h1, h2, h3⟩
      · rw [if_neg h3] at h; cases h
    · rw [if_neg h2] at h; cases h
  · rw [if_neg h1] at h; cases h
theorem pcs_get (n m : Nat) (s : ByteArray) (j : Nat) (hj : j < m) : (pcs n m s)[j]? = some (s.extract (n * j) (n * j + n)) := by simp [pcs, hj]
end Go.Proofs.Ytokkhnjedmlbhaa.M
namespace Go.Proofs.Ytokkhnjedmlbhaa.Pr
open Go.RowKit Go.Proofs.YtokkhnjedmlbhaaW.PrintWords Go.Proofs.YtokkhnjedmlbhaaW.PrintLast Go.Proofs.YtokkhnjedmlbhaaW.PrintMore Go.Proofs.YtokkhnjedmlbhaaHw Go.Proofs.YtokkhnjedmlbhaaGf
theorem cready_ok (key iv s : ByteArray) (w : World) (hk : M.okN key.size) (hi : iv.size = 16) (hs : s.size % 16 = 0) :
    Calls Try.prog 199 #[.string key, .string iv, .string s] w fun e w' => ∃ g : Nat, e = .returned (.tuple #[.pointer (some ⟨g, 0, none⟩), .int .i64 0]) ∧ IsK w' g key ∧ Below w.heap.size w w' := by
  have HK := Aside0.mk hk
  have e1 : (((iv.size : Nat) : Int) != 16) = false := by simp; omega
  have e2 : ((((s.size : Nat) : Int) % 16) != 0) = false := by simp; omega
  clear hk hi hs
  go_enter Try.func199, Try.ntmps199
  go_wp2_with (go_at_call 104; (with_reducible refine (new_ok _ _ HK.out).mono ?_); rintro e w1 ⟨g, rfl, hC, hb1⟩; have HC := Aside0.mk hC; have HB := Aside0.mk hb1; clear hC hb1)
  go_ret2
  exact ⟨g, rfl, HC.out, HB.out⟩
theorem cready_bad (key iv s : ByteArray) (w : World) (h : M.rdyE key iv s ≠ 0) :
    Calls Try.prog 199 #[.string key, .string iv, .string s] w fun e w' => e = .returned (.tuple #[.pointer none, .int .i64 (M.rdyE key iv s)]) ∧ Below w.heap.size w w' := by
  unfold M.rdyE at h ⊢
  by_cases hk : M.okN key.size
  · rw [if_pos hk] at h ⊢
    have HK := Aside0.mk hk
    by_cases hi : iv.size = 16
    · rw [if_pos hi] at h ⊢
      by_cases hs : s.size % 16 = 0
      · rw [if_pos hs] at h; exact absurd rfl h
      · rw [if_neg hs]
        have e1 : (((iv.size : Nat) : Int) != 16) = false := by simp; omega
        have e2 : ((((s.size : Nat) : Int) % 16) != 0) = true := by simp; omega
        clear h hk hi hs
        go_enter Try.func199, Try.ntmps199
        go_wp2_with (go_at_call 104; (with_reducible refine (new_ok _ _ HK.out).mono ?_); rintro e w1 ⟨g, rfl, hC, hb1⟩; have HB := Aside0.mk hb1; clear hC hb1)
        go_ret2
        exact ⟨rfl, HB.out⟩
    · rw [if_neg hi]
      have e1 : (((iv.size : Nat) : Int) != 16) = true := by simp; omega
      clear h hk hi
      go_enter Try.func199, Try.ntmps199
      go_wp2_with (go_at_call 104; (with_reducible refine (new_ok _ _ HK.out).mono ?_); rintro e w1 ⟨g, rfl, hC, hb1⟩; have HB := Aside0.mk hb1; clear hC hb1)
      go_ret2
      exact ⟨rfl, HB.out⟩
  · rw [if_neg hk] at h ⊢
    have HK := Aside0.mk hk
    clear h hk
    go_enter Try.func199, Try.ntmps199
    go_wp2_with (go_at_call 104; (with_reducible refine (new_bad _ _ HK.out).mono ?_); rintro e w1 ⟨rfl, hb1⟩; have HB := Aside0.mk hb1; clear hb1)
    go_ret2
    exact ⟨rfl, HB.out⟩
def cbc_Encrypt.f (a0 a1 a2 : ByteArray) : Option (ByteArray × Int) := if a2.size < 1000000 then some (if M.rdyE a0 a1 a2 = 0 then (M.outJ (M.ksB a0) a2 a1 (a2.size / 16), 0) else (⟨#[]⟩, M.rdyE a0 a1 a2)) else none
set_option maxHeartbeats 2000000 in
theorem cbc_enc (key iv s : ByteArray) (w : World) (hk : M.okN key.size) (hi : iv.size = 16) (hs : s.size % 16 = 0) (hb : s.size < 1000000) :
    Calls Try.prog 117 #[.string key, .string iv, .string s] w fun e w' => e = .returned (.tuple #[.string (M.outJ (M.ksB key) s iv (s.size / 16)), .int .i64 0]) ∧ Below w.heap.size w w' := by
  have hm : s.size = 16 * (s.size / 16) := by omega
  have hm2 : s.size / 16 < 100000 := by omega
  generalize s.size / 16 = m at *
  obtain ⟨kp, hp⟩ := Ev.rounds (M.pieces_m (n := 16) (by omega) (by omega) (by omega) hm)
  have HP : Aside0 (octets_Pieces.f kp s 16 = some (M.pcs 16 m s)) := ⟨hp⟩
  have hpl := M.pcs_length 16 m s
  have HK := Aside0.mk hk
  have HI := Aside0.mk hi
  have HM := Aside0.mk hm
  have HA := Aside0.mk (M.ks_facts hk).2.1
  have hmk := make8 s.size (by omega)
  have HG : Aside0 (∀ j, j < m → (M.pcs 16 m s)[j]? = some (s.extract (16 * j) (16 * j + 16))) := ⟨fun j hj => M.pcs_get 16 m s j hj⟩
  clear hp hk hi hs hm
  go_enter Try.func117, Try.ntmps117
  go_wp2_with (go_at_call 199; (with_reducible refine (cready_ok _ _ _ _ HK.out HI.out (by have := HM.out; omega)).mono ?_); rintro e w1 ⟨g, rfl, hC, hb1⟩; have HC := Aside0.mk hC; have HB1 := Aside0.mk hb1; clear hC hb1)
  have ho3 := OB.made w1 w1 s.size (by omega) (Nat.le_refl _)
  have hb3 : Below w1.heap.size w1 (w1.alloc (.cells (madeCells #[.int .u8 0] s.size) 5)) := below_alloc (Below.refl _ _) _
  generalize w1.alloc (.cells (madeCells #[.int .u8 0] s.size) 5) = w3 at *
  have HO3 := Aside0.mk ho3
  have HB3 := Aside0.mk hb3
  clear ho3 hb3 hmk
  go_wp2_with (go_at_call 186; (with_reducible refine (octets_Pieces.calls kp s 16 _ _ HP.out).mono ?_); rintro e w4 ⟨v0, rfl, hR, hb4⟩; obtain ⟨A, c, rfl, hS⟩ := SR.of_R hR; have HO4 := Aside0.mk (HO3.out.below hb4); have HS4 := Aside0.mk hS; have HB4 := Aside0.mk (below_then HB3.out HB3.out.size hb4); clear hR hb4 hS)
  clear HO3 HB3 HP
  go_loopw [1, 10, 29] (fun cv v i wr => ∃ (j : Nat), j ≤ m ∧ cv = .string (M.ivJ (M.ksB key) s iv j) ∧ i = .int .i64 j ∧ Aside0 (OB w1 wr v (M.outJ (M.ksB key) s iv j)) ∧ Aside0 (SR wr A (M.pcs 16 m s)) ∧ Aside0 (Below w1.heap.size w1 wr)) (fun _ _ i _ => m - (intOf i).toNat)
  case atStart => exact ⟨0, Nat.zero_le _, rfl, rfl, HO4, HS4, HB4⟩
  case round =>
    clear HO4 HS4 HB4
    obtain ⟨j, hj, rfl, rfl, HO, HS, HB⟩ := hrel
    by_cases hlt : j < m
    · obtain ⟨gp, rfl, hS⟩ := HS.out (by rw [hpl]; omega)
      have hcell := hS.cell j _ (HG.out j hlt)
      have HX : Aside0 (octets_Xor.f (s.extract (16 * j) (16 * j + 16)) (M.ivJ (M.ksB key) s iv j) = some (M.xorT (s.extract (16 * j) (16 * j + 16)) (M.ivJ (M.ksB key) s iv j))) := ⟨M.xor_c _ _ (by rw [ByteArray.size_extract]; omega)⟩
      have HZ : Aside0 ((M.xorT (s.extract (16 * j) (16 * j + 16)) (M.ivJ (M.ksB key) s iv j)).size = 16) := ⟨by rw [M.xorT_size, M.ivJ_size HA.out HI.out j (by have := HM.out; omega), ByteArray.size_extract]; have := HM.out; omega⟩
      have HE : Aside0 (M.encR key (M.xorT (s.extract (16 * j) (16 * j + 16)) (M.ivJ (M.ksB key) s iv j)) = (M.ivJ (M.ksB key) s iv (j + 1), 0)) := ⟨by unfold M.encR; rw [if_pos HZ.out]; rfl⟩
      have HL : Aside0 ((M.outJ (M.ksB key) s iv j).size + (M.ivJ (M.ksB key) s iv (j + 1)).size ≤ 140737488355328) := ⟨by have := HM.out; rw [M.outJ_size HA.out HI.out j (by omega), M.ivJ_size HA.out HI.out (j + 1) (by omega)]; omega⟩
      go_wp2_with (first | (go_at_call 170; (with_reducible refine (octets_Xor.calls _ _ _ _ HX.out).mono ?_); rintro e w5 ⟨rfl, hb5⟩; have HB5 := Aside0.mk (below_then HB.out HB.out.size hb5); have HO5 := Aside0.mk (HO.out.below hb5); have HS5 := Aside0.mk (HS.out.below hb5); clear hb5) | (go_at_call 106; (with_reducible refine (enc_any g key _ _ (HC.out.below HB5.out) HK.out).mono ?_); rintro e w6 ⟨rfl, hb6⟩; rw [HE.out]; have HB6 := Aside0.mk (below_then HB5.out HB5.out.size hb6); have HO6 := Aside0.mk (HO5.out.below hb6); have HS6 := Aside0.mk (HS5.out.below hb6); clear hb6) | (at_builtin; refine OB.append (w0 := w1) rfl _ _ rfl _ _ _ rfl rfl HO6.out HB6.out HL.out ?_))
      intro v1 w7 ho7 hb7 hg7
      have HO7 : Aside0 (OB w1 w7 v1 (M.outJ (M.ksB key) s iv (j + 1))) := ⟨ho7⟩
      have HS7 := Aside0.mk (HS6.out.grown8 HO6.out hg7)
      have HB7 := Aside0.mk hb7
      clear ho7 hb7 hg7 HO6 HS6 HB6 HO5 HS5 HB5 HO HS HB
      go_wp2
      exact ⟨⟨j + 1, hlt, rfl, by go_num, HO7, HS7, HB7⟩, by simp [intOf]; omega⟩
    · obtain rfl : j = m := by omega
      have hcv := HO.out.text
      go_wp2
      go_ret2
      exact ⟨rfl, HB1.out.trans (HB.out.mono HB1.out.size)⟩
theorem cbc_Encrypt.calls (a0 a1 a2 : ByteArray) (r0 : ByteArray) (r1 : Int) (w : World) (h : cbc_Encrypt.f a0 a1 a2 = some (r0, r1)) :
    Calls Try.prog 117 #[.string a0, .string a1, .string a2] w fun e w' => e = .returned (.tuple #[.string r0, .int .i64 r1]) ∧ Below w.heap.size w w' := by
  unfold cbc_Encrypt.f at h
  split at h
  case isFalse => cases h
  case isTrue hb =>
  by_cases hr : M.rdyE a0 a1 a2 = 0
  · rw [if_pos hr] at h
    obtain ⟨rfl, rfl⟩ := Prod.mk.inj (Option.some.inj h)
    obtain ⟨hk, hi, hs⟩ := M.rdy_ok hr
    exact cbc_enc a0 a1 a2 w hk hi hs hb
  · rw [if_neg hr] at h
    obtain ⟨rfl, rfl⟩ := Prod.mk.inj (Option.some.inj h)
    have hb2 : (M.rdyE a0 a1 a2 != 0) = true := bne_iff_ne.mpr hr
    have HR := Aside0.mk hr
    clear h hr hb
    go_enter Try.func117, Try.ntmps117
    go_wp2_with (go_at_call 199; (with_reducible refine (cready_bad _ _ _ _ HR.out).mono ?_); rintro e w1 ⟨rfl, hb1⟩; have HB := Aside0.mk hb1; clear hb1)
    go_ret2
    exact ⟨rfl, HB.out⟩
def cbc_Decrypt.f (a0 a1 a2 : ByteArray) : Option (ByteArray × Int) := if a2.size < 1000000 then some (if M.rdyE a0 a1 a2 = 0 then (M.xorT (M.manyB (M.ksB a0) true (a2.size / 16) a2) (a1 ++ a2), 0) else (⟨#[]⟩, M.rdyE a0 a1 a2)) else none
end Go.Proofs.Ytokkhnjedmlbhaa.Pr
end
section
namespace Go.Proofs.Ytokkhnjedmlbhaa.M
open Go.RowKit Go.Proofs.Ytokkhnjedmlbhaa.Pr Go.Proofs.YtokkhnjedmlbhaaW.PrintWords Go.Proofs.YtokkhnjedmlbhaaW.PrintLast Go.Proofs.YtokkhnjedmlbhaaW.PrintMore Go.Proofs.YtokkhnjedmlbhaaGf
set_option linter.unusedSimpArgs false
/-- The lowest bytes of a number, the greatest first. -/
def lowL (u : Nat) : Nat → List Nat
  | 0 => []
  | i + 1 => u / 256 ^ i % 256 :: lowL u i
theorem lowL_length (u : Nat) : ∀ i, (lowL u i).length = i
  | 0 => rfl
  | i + 1 => by simp [lowL, lowL_length u i]
theorem put_1 (u : Nat) : octets_Put.f (u : Int) 1 = some (mkB (lowL u 1)) := by
  unfold octets_Put.f
  rw [if_neg (by decide), if_neg (by decide)]
  show some (strOfNums [(u : Int) % 256]) = some (mkB [u / 1 % 256])
  rw [Nat.div_one, ← strOfNums_cast]
  rfl
theorem rputL (u wd : Nat) (hu : u < 18446744073709551616) (hw : wd ≤ 8) (d : Nat) : ∀ i, wd - i = d → i ≤ wd → Ev (fun k => clavigerref01_Put.l0 k ((u / 256 ^ i : Nat) : Int) (wd : Int) (mkB (lowL u i)) (i : Int)) (mkB (lowL u wd)) := by
  induction d with
  | zero =>
    intro i hd hi
    obtain rfl : i = wd := by omega
    refine Ev.step (f := fun _ => some (mkB (lowL u i))) (fun k => ?_) (Ev.now _)
    simp only [clavigerref01_Put.l0]
    rw [if_neg (by omega)]
  | succ d ih =>
    intro i hd hi
    have hh := ih (i + 1) (by omega) (by omega)
    have hq : u / 256 ^ i ≤ u := Nat.div_le_self _ _
    have e1 : u / 256 ^ (i + 1) = u / 256 ^ i / 256 := by rw [Nat.pow_succ, Nat.div_div_eq_div_mul]
    have e2 : lowL u (i + 1) = u / 256 ^ i % 256 :: lowL u i := rfl
    rw [e1, e2] at hh
    generalize u / 256 ^ i = q at *
    have e3 : (Int.tmod (q : Int) 256) % 256 = ((q % 256 : Nat) : Int) := by rw [Int.tmod_eq_emod_of_nonneg (by omega)]; omega
    have e4 : IntKind.u64.wrap (Int.tdiv (q : Int) 256) = ((q / 256 : Nat) : Int) := by rw [Int.tdiv_eq_ediv_of_nonneg (by omega), IntKind.wrap_u64]; omega
    refine Ev.step (fun k => ?_) hh
    simp only [clavigerref01_Put.l0, e3, e4, Option.bind_some]
    rw [if_pos (by omega), sNs1, mkB_append, if_pos (by rw [mkB_size, mkB_size, lowL_length]; show 1 + i ≤ _; omega), wrap_id (by omega) (by omega)]
    rfl
theorem rput_c (u wd : Nat) (hu : u < 18446744073709551616) (hw : 1 ≤ wd) (hw2 : wd ≤ 8) : Ev (fun k => clavigerref01_Put.f k (u : Int) (wd : Int)) (mkB (lowL u wd)) := by
  unfold clavigerref01_Put.f
  refine evn (by omega) ?_
  have hh := rputL u wd hu hw2 _ 0 rfl (by omega)
  rw [Nat.pow_zero, Nat.div_one] at hh
  refine Ev.step (fun k => ?_) hh
  simp only [clavigerref01_Put.j0]
  rw [if_neg (by simp; omega)]
  rfl
end Go.Proofs.Ytokkhnjedmlbhaa.M
end
section
namespace Go.Proofs.Ytokkhnjedmlbhaa.Pr
open Go.RowKit Go.Proofs.YtokkhnjedmlbhaaW.PrintWords Go.Proofs.YtokkhnjedmlbhaaW.PrintLast Go.Proofs.YtokkhnjedmlbhaaW.PrintMore Go.Proofs.YtokkhnjedmlbhaaHw Go.Proofs.YtokkhnjedmlbhaaGf
/-- xs, with ys laid over it from place k on. -/
def overL (xs : List Int) (k : Nat) (ys : List Int) : List Int := xs.take k ++ (ys ++ xs.drop (k + ys.length))
theorem run_copy_at {P : Program} (w : World) (dT sT ty elem : TypeId) (g off dLen dCap : Nat) (s : ByteArray) (xs : List Int) (t : TypeId)
    (hu : P.underlying dT = some (.slice elem)) (hs : (P.info? elem).map (·.size) = some 1) (hg : BY w g t xs) (hle : s.size ≤ dLen) (hfit : off + s.size ≤ xs.length) :
    (Builtin.copy_ #[dT, sT] ty #[.slice (some ⟨g, off, none⟩) dLen dCap, .string s]).run P w =
      .ok (goInt s.size) (w.setRow g (((overL xs off (bytesOf s)).map (Value.int .u8)).toArray)) := by
  have hl0 : (Lib.byteCells s.data.toList).length = s.size := by rw [Lib.byteCells_length, ← Lib.size_eq]
  have hst := run_storeCells_at P g off t (Lib.byteCells s.data.toList) 0 ((xs.map (Value.int .u8)).toArray) w hg (by rw [hl0]; simpa using hfit) (fun v hv => Lib.byteCells_one _ v hv)
  have hmin : Nat.min s.size dLen = s.size := Nat.min_eq_left hle
  have htk : List.take s.size (List.map (fun b : UInt8 => Value.int IntKind.u8 (b.toNat : Int)) s.data.toList) = Lib.byteCells s.data.toList := by
    rw [List.take_of_length_le (by rw [List.length_map, ← Lib.size_eq]; exact Nat.le_refl _)]; rfl
  rw [hl0] at hst
  simp only [Nat.add_zero] at hst
  cases hq : P.info? elem with
  | none => simp [hq] at hs
  | some i =>
    simp [Builtin.copy_, run_underlying hu, Builtin.lenOf, Builtin.firstCells, sizeOf, typeInfo, hq, hmin]
    rw [htk, hst]
    simp [Result.andThen, overL, bytesOf, Lib.byteCells]
    rfl
theorem step_copy_at {P : Program} {ops : Array Oper} {o : Oper} {a : Act} {w : World} {K : Act → World → Prop} {Q : Exit → Act → World → Prop} {E : Prop} (hgd : o.guard = none) (d s : Operand) (dT sT : TypeId)
    (ho : o.op = .call { callee := .builtin .copy, args := #[d, s], argTypes := #[dT, sT] }) (elem : TypeId) (hu : P.underlying dT = some (.slice elem)) (hsz : (P.info? elem).map (·.size) = some 1)
    (g off dLen dCap : Nat) (x : ByteArray) (hd : a.eval d = .slice (some ⟨g, off, none⟩) dLen dCap) (hs : a.eval s = .string x) (xs : List Int) (t : TypeId) (hg : BY w g t xs) (hle : x.size ≤ dLen) (hfit : off + x.size ≤ xs.length)
    (w0 : World) (hb : Below w0.heap.size w0 w) (hBg : w0.heap.size ≤ g)
    (h : ∀ w', Aside0 (BY w' g t (overL xs off (bytesOf x))) → Aside0 (Below w0.heap.size w0 w') → K (a.put o.dst (goInt x.size)) w') :
    if Region.wanted o (yielded ops a.tmps) = true then Oper.wp P o a w K Q else E := by
  have hw : Region.wanted o (yielded ops a.tmps) = true := by simp [Region.wanted, hgd]
  rw [if_pos hw]
  have hrun := run_copy_at (P := P) w dT sT o.type elem g off dLen dCap x xs t hu hsz hg hle hfit
  unfold Oper.wp
  simp [execOp, ho, resolve, invoke, builtin, hd, hs, hrun, Result.andThen]
  exact h _ ⟨setRow_heap _ _ _ _ _ _ hg⟩ ⟨below_setRow hb hBg _⟩
set_option maxHeartbeats 4000000 in
set_option maxRecDepth 100000 in
theorem input_g (p n r al : Int) (x1 x2 x3 : ByteArray) (w : World) (e1 : decide (p < 0) = false) (e2 : decide (p ≥ 2) = false) (e3 : (r == 0) = false) (hR : sched_Rounds.f n = some r) (hA : derive_algorithm.f n = some al)
    (h1 : octets_Put.f (IntKind.u64.wrap p) 2 = some x1) (h2 : octets_Put.f (IntKind.u64.wrap al) 2 = some x2) (h3 : octets_Put.f (IntKind.u64.wrap (IntKind.u64.wrap n * 8)) 2 = some x3) (s1 : x1.size = 2) (s2 : x2.size = 2) (s3 : x3.size = 2) :
    Calls Try.prog 134 #[.int .i64 p, .int .i64 n] w fun e w' => e = .returned (.string (strOfNums (overL (overL (overL [0, 0, 0, 0, 0, 0, 0] 0 (bytesOf x1)) 3 (bytesOf x2)) 5 (bytesOf x3)))) ∧ Below w.heap.size w w' := by
  have HR := Aside0.mk hR
  have HA := Aside0.mk hA
  have H1 := Aside0.mk h1
  have H2 := Aside0.mk h2
  have H3 := Aside0.mk h3
  have S1 := Aside0.mk s1
  have S2 := Aside0.mk s2
  have S3 := Aside0.mk s3
  have e2b : decide (2 ≤ p) = false := e2
  have HI : Aside0 ((Try.prog.info? 5).map (·.size) = some 1) := ⟨by kernel_rfl⟩
  have over_len : ∀ (xs : List Int) (k : Nat) (x : ByteArray), x.size = 2 → k + 2 ≤ 7 → xs.length = 7 → (overL xs k (bytesOf x)).length = 7 := fun xs k x hx hk hl => by
    unfold overL; simp [bytesOf_length, hx, hl]; omega
  have L1 := Aside0.mk (over_len [0, 0, 0, 0, 0, 0, 0] 0 x1 s1 (by omega) rfl)
  have L2 := Aside0.mk (over_len _ 3 x2 s2 (by omega) L1.out)
  have L3 := Aside0.mk (over_len _ 5 x3 s3 (by omega) L2.out)
  clear hR hA h1 h2 h3 s1 s2 s3 over_len
  go_enter Try.func134, Try.ntmps134
  go_upto_region 4 with (go_at_call 88; (with_reducible refine (sched_Rounds.calls n r _ HR.out).mono ?_); rintro e w1 ⟨rfl, hd⟩; obtain ⟨n1, rfl⟩ := hd.out; clear hd)
  have hy : BY ((w.drewN n1).alloc (.cells #[.int .u8 0, .int .u8 0, .int .u8 0, .int .u8 0, .int .u8 0, .int .u8 0, .int .u8 0] 124)).drew w.heap.size 124 [0, 0, 0, 0, 0, 0, 0] := heap_alloc_new (w.drewN n1) _
  have hb : Below w.heap.size w ((w.drewN n1).alloc (.cells #[.int .u8 0, .int .u8 0, .int .u8 0, .int .u8 0, .int .u8 0, .int .u8 0, .int .u8 0] 124)).drew := below_drew1 (below_alloc (pw_below_drewN (Below.refl _ _) n1) _)
  generalize (w.drewN n1).alloc (.cells #[.int .u8 0, .int .u8 0, .int .u8 0, .int .u8 0, .int .u8 0, .int .u8 0, .int .u8 0] 124) = w1 at *
  have HY := Aside0.mk hy
  have HB := Aside0.mk hb
  clear hy hb
  go_cut [] (fun wc => Aside0 (BY wc w.heap.size 124 (overL [0, 0, 0, 0, 0, 0, 0] 0 (bytesOf x1))) ∧ Aside0 (Below w.heap.size w wc))
  case first =>
    go_region_law (first | (refine step_copy_at rfl (.tmp 17) (.tmp 20) 66 9 rfl 5 Try.underlying66 HI.out w.heap.size 0 7 7 x1 (by simp [Act.eval]) (by simp [Act.eval]) _ 124 HY2.out (by rw [S1.out]; decide) (by rw [S1.out]; decide) w HB2.out (Nat.le_refl _) ?_; intro w4 hg4 hb4) | (go_simp; go_at_call 189; (with_reducible refine (octets_Put.calls _ _ _ _ H1.out).mono ?_); rintro e w2 ⟨rfl, hb2⟩; have HY2 := Aside0.mk (HY.out.below hb2); have HB2 := Aside0.mk (below_then HB.out HB.out.size hb2); clear hb2))
    all_goals
      go_wp2_with fail
      go_meet
      exact ⟨hg4, hb4⟩
  case rest =>
    clear HY HB
    obtain ⟨hy, hb⟩ := hcut
    have HY := Aside0.mk hy.out.drew
    have HB := Aside0.mk (below_drew1 hb.out)
    have HB0 := Aside0.mk hb.out
    clear hy hb
    go_upto_region 5 with (fail)
    have HYA : Aside0 (∀ m, BY (wc.drewN m) w.heap.size 124 (overL [0, 0, 0, 0, 0, 0, 0] 0 (bytesOf x1))) := ⟨fun _ => HY.out⟩
    have HBA : Aside0 (∀ m, Below w.heap.size w (wc.drewN m)) := ⟨fun m => pw_below_drewN HB0.out m⟩
    go_cut [] (fun wc => Aside0 (BY wc w.heap.size 124 (overL (overL [0, 0, 0, 0, 0, 0, 0] 0 (bytesOf x1)) 3 (bytesOf x2))) ∧ Aside0 (Below w.heap.size w wc))
    case first =>
      go_region_law (first | (refine step_copy_at rfl (.tmp 22) (.tmp 26) 66 9 rfl 5 Try.underlying66 HI.out w.heap.size 3 4 4 x2 (by simp [Act.eval]) (by simp [Act.eval]) _ 124 HY2.out (by rw [S2.out]; decide) (by rw [S2.out, L1.out]; decide) w HB2.out (Nat.le_refl _) ?_; intro w4 hg4 hb4) | (go_simp; go_at_call 189; (with_reducible refine (octets_Put.calls _ _ _ _ H2.out).mono ?_); rintro e w2 ⟨rfl, hb2⟩; have HY2 := Aside0.mk ((HYA.out _).below hb2); have HB2 := Aside0.mk (below_then (HBA.out _) (HBA.out _).size hb2); clear hb2) | (go_simp; go_at_call 203; (with_reducible refine (derive_algorithm.calls n al _ HA.out).mono ?_); rintro e w3 ⟨rfl, hd⟩; obtain ⟨n3, rfl⟩ := hd.out; clear hd))
      all_goals
        go_wp2_with fail
        go_meet
        exact ⟨hg4, hb4⟩
    case rest =>
      clear HY HB
      obtain ⟨hy, hb⟩ := hcut
      have HY := Aside0.mk hy.out.drew
      have HB := Aside0.mk (below_drew1 hb.out)
      have HB0 := Aside0.mk hb.out
      clear hy hb
      go_upto_region 6 with (fail)
      go_cut [] (fun wc => Aside0 (BY wc w.heap.size 124 (overL (overL (overL [0, 0, 0, 0, 0, 0, 0] 0 (bytesOf x1)) 3 (bytesOf x2)) 5 (bytesOf x3))) ∧ Aside0 (Below w.heap.size w wc))
      case first =>
        go_region_law (first | (refine step_copy_at rfl (.tmp 28) (.tmp 32) 66 9 rfl 5 Try.underlying66 HI.out w.heap.size 5 2 2 x3 (by simp [Act.eval]) (by simp [Act.eval]) _ 124 HY2.out (by rw [S3.out]; decide) (by rw [S3.out, L2.out]; decide) w HB2.out (Nat.le_refl _) ?_; intro w4 hg4 hb4) | (go_simp; go_at_call 189; (with_reducible refine (octets_Put.calls _ _ _ _ H3.out).mono ?_); rintro e w2 ⟨rfl, hb2⟩; have HY2 := Aside0.mk (HY.out.below hb2); have HB2 := Aside0.mk (below_then HB.out HB.out.size hb2); clear hb2))
        all_goals
          go_wp2_with fail
          go_meet
          exact ⟨hg4, hb4⟩
      case rest =>
        clear HY HB
        obtain ⟨hy, hb⟩ := hcut
        have HY := Aside0.mk hy.out.drew
        have HB := Aside0.mk (below_drew1 hb.out)
        have HB0 := Aside0.mk hb.out
        clear hy hb
        have hcv := run_convert_bytes_arg (P := Try.prog) wc 66 5 Try.underlying66 Try.underlying5 w.heap.size 0 7 7 _ L3.out (fun i hi => by rw [Nat.zero_add]; exact BY.cell (w := wc) HY.out i (by rw [L3.out]; exact hi)) 9 Try.underlying9
        go_wp2
        go_ret
        exact ⟨rfl, HB0.out⟩
end Go.Proofs.Ytokkhnjedmlbhaa.Pr
namespace Go.Proofs.Ytokkhnjedmlbhaa.M
open Go.RowKit Go.Proofs.YtokkhnjedmlbhaaW.PrintWords
/-- What is derived from. -/
def inX (p n : Int) : ByteArray := if (p = 0 ∨ p = 1) ∧ (n = 16 ∨ n = 24 ∨ n = 32) then mkB [0, p.toNat, 0, 0, n.toNat / 8, n.toNat / 32, 8 * n.toNat % 256] else ⟨#[]⟩
end Go.Proofs.Ytokkhnjedmlbhaa.M
namespace Go.Proofs.Ytokkhnjedmlbhaa.Pr
open Go.RowKit Go.Proofs.YtokkhnjedmlbhaaW.PrintWords Go.Proofs.YtokkhnjedmlbhaaW.PrintLast Go.Proofs.YtokkhnjedmlbhaaW.PrintMore Go.Proofs.YtokkhnjedmlbhaaHw Go.Proofs.YtokkhnjedmlbhaaGf
theorem input_ok (p n : Int) (w : World) (hp : p = 0 ∨ p = 1) (hn : n = 16 ∨ n = 24 ∨ n = 32) :
    Calls Try.prog 134 #[.int .i64 p, .int .i64 n] w fun e w' => e = .returned (.string (M.inX p n)) ∧ Below w.heap.size w w' := by
  rcases hp with rfl | rfl <;> rcases hn with rfl | rfl | rfl
  · have h := input_g 0 16 10 2 ⟨#[0, 0]⟩ ⟨#[0, 2]⟩ ⟨#[0, 128]⟩ w rfl rfl rfl (by decide +kernel) (by decide +kernel) (by decide +kernel) (by decide +kernel) (by decide +kernel) rfl rfl rfl
    rwa [show strOfNums (overL (overL (overL [0, 0, 0, 0, 0, 0, 0] 0 (bytesOf ⟨#[0, 0]⟩)) 3 (bytesOf ⟨#[0, 2]⟩)) 5 (bytesOf ⟨#[0, 128]⟩)) = M.inX 0 16 by decide +kernel] at h
  · have h := input_g 0 24 12 3 ⟨#[0, 0]⟩ ⟨#[0, 3]⟩ ⟨#[0, 192]⟩ w rfl rfl rfl (by decide +kernel) (by decide +kernel) (by decide +kernel) (by decide +kernel) (by decide +kernel) rfl rfl rfl
    rwa [show strOfNums (overL (overL (overL [0, 0, 0, 0, 0, 0, 0] 0 (bytesOf ⟨#[0, 0]⟩)) 3 (bytesOf ⟨#[0, 3]⟩)) 5 (bytesOf ⟨#[0, 192]⟩)) = M.inX 0 24 by decide +kernel] at h
  · have h := input_g 0 32 14 4 ⟨#[0, 0]⟩ ⟨#[0, 4]⟩ ⟨#[1, 0]⟩ w rfl rfl rfl (by decide +kernel) (by decide +kernel) (by decide +kernel) (by decide +kernel) (by decide +kernel) rfl rfl rfl
    rwa [show strOfNums (overL (overL (overL [0, 0, 0, 0, 0, 0, 0] 0 (bytesOf ⟨#[0, 0]⟩)) 3 (bytesOf ⟨#[0, 4]⟩)) 5 (bytesOf ⟨#[1, 0]⟩)) = M.inX 0 32 by decide +kernel] at h
  · have h := input_g 1 16 10 2 ⟨#[0, 1]⟩ ⟨#[0, 2]⟩ ⟨#[0, 128]⟩ w rfl rfl rfl (by decide +kernel) (by decide +kernel) (by decide +kernel) (by decide +kernel) (by decide +kernel) rfl rfl rfl
    rwa [show strOfNums (overL (overL (overL [0, 0, 0, 0, 0, 0, 0] 0 (bytesOf ⟨#[0, 1]⟩)) 3 (bytesOf ⟨#[0, 2]⟩)) 5 (bytesOf ⟨#[0, 128]⟩)) = M.inX 1 16 by decide +kernel] at h
  · have h := input_g 1 24 12 3 ⟨#[0, 1]⟩ ⟨#[0, 3]⟩ ⟨#[0, 192]⟩ w rfl rfl rfl (by decide +kernel) (by decide +kernel) (by decide +kernel) (by decide +kernel) (by decide +kernel) rfl rfl rfl
    rwa [show strOfNums (overL (overL (overL [0, 0, 0, 0, 0, 0, 0] 0 (bytesOf ⟨#[0, 1]⟩)) 3 (bytesOf ⟨#[0, 3]⟩)) 5 (bytesOf ⟨#[0, 192]⟩)) = M.inX 1 24 by decide +kernel] at h
  · have h := input_g 1 32 14 4 ⟨#[0, 1]⟩ ⟨#[0, 4]⟩ ⟨#[1, 0]⟩ w rfl rfl rfl (by decide +kernel) (by decide +kernel) (by decide +kernel) (by decide +kernel) (by decide +kernel) rfl rfl rfl
    rwa [show strOfNums (overL (overL (overL [0, 0, 0, 0, 0, 0, 0] 0 (bytesOf ⟨#[0, 1]⟩)) 3 (bytesOf ⟨#[0, 4]⟩)) 5 (bytesOf ⟨#[1, 0]⟩)) = M.inX 1 32 by decide +kernel] at h
def derive_Input.f (p n : Int) : Option ByteArray := some (M.inX p n)
theorem derive_Input.calls (p n : Int) (r : ByteArray) (w : World) (h : derive_Input.f p n = some r) :
    Calls Try.prog 134 #[.int .i64 p, .int .i64 n] w fun e w' => e = .returned (.string r) ∧ Below w.heap.size w w' := by
  obtain rfl := Option.some.inj h
  clear h
  by_cases hp : p = 0 ∨ p = 1
  · by_cases hn : n = 16 ∨ n = 24 ∨ n = 32
    · exact input_ok p n w hp hn
    · have hr : sched_Rounds.f n = some 0 := by unfold sched_Rounds.f; rw [if_neg (by omega), if_neg (by omega), if_neg (by omega)]
      have HR := Aside0.mk hr
      have e : M.inX p n = ⟨#[]⟩ := by unfold M.inX; rw [if_neg (fun h => hn h.2)]
      have e1 : decide (p < 0) = false := decide_eq_false (by omega)
      have e2 : decide (p ≥ 2) = false := decide_eq_false (by omega)
      have e2b : decide (2 ≤ p) = false := e2
      rw [e]
      clear e hp hn hr
      go_enter Try.func134, Try.ntmps134
      go_wp2_with (go_at_call 88; (with_reducible refine (sched_Rounds.calls n 0 _ HR.out).mono ?_); rintro e w1 ⟨rfl, hd⟩; obtain ⟨n1, rfl⟩ := hd.out; clear hd)
      go_ret
      exact ⟨rfl, pw_below_drewN (Below.refl _ _) _⟩
  · have e : M.inX p n = ⟨#[]⟩ := by unfold M.inX; rw [if_neg (fun h => hp h.1)]
    rw [e]
    by_cases h0 : p < 0
    · have e1 : decide (p < 0) = true := decide_eq_true h0
      clear e hp h0
      go_enter Try.func134, Try.ntmps134
      go_wp2
      go_ret
      exact ⟨rfl, Below.refl _ _⟩
    · have e1 : decide (p < 0) = false := decide_eq_false h0
      have e2 : decide (p ≥ 2) = true := decide_eq_true (by omega)
      have e2b : decide (2 ≤ p) = true := e2
      clear e hp h0
      go_enter Try.func134, Try.ntmps134
      go_wp2
      go_ret
      exact ⟨rfl, Below.refl _ _⟩
end Go.Proofs.Ytokkhnjedmlbhaa.Pr
end
section
namespace Go.Proofs.Ytokkhnjedmlbhaa.Pr
open Go.RowKit Go.Proofs.YtokkhnjedmlbhaaW.PrintWords Go.Proofs.YtokkhnjedmlbhaaW.PrintLast Go.Proofs.YtokkhnjedmlbhaaW.PrintMore
attribute [local go_sem] max2_int min2_int max_two min_two max_three min_three max_four min_four   -- for this text's walks alone
set_option linter.unusedVariables false
set_option linter.unusedSimpArgs false

def derive_Key.f (k : Nat) (a0 : ByteArray) (a1 : Int) : Option (ByteArray × Int) := (sched_Rounds.f (a0.size : Int)).bind fun t1 => (if t1 = 0 then (some ((⟨#[]⟩ : ByteArray), 2)) else ((derive_Input.f a1 (a0.size : Int)).bind fun t2 => (if t2.toList = ([] : List UInt8) then (some ((⟨#[]⟩ : ByteArray), 1)) else ((kdf_Counter.f k a0 t2 (a0.size : Int)).bind fun bt3 => (some (bt3.1, bt3.2))))))
theorem derive_Key.mono : ∀ a0 a1 k, LeO (derive_Key.f k a0 a1) (derive_Key.f (k + 1) a0 a1) := by
 intro a0 a1 k
 unfold derive_Key.f
 repeat' first
   | (with_reducible exact kdf_Counter.mono _ _ _ _)
   | (with_reducible exact LeO.refl _)
   | (with_reducible exact LeO.none _)
   | (with_reducible refine LeO.ite ?_ ?_)
   | (with_reducible refine LeO.bind ?_ (fun _ => ?_))
set_option maxHeartbeats 8000000 in
set_option maxRecDepth 100000 in
theorem derive_Key.calls (k : Nat) (a0 : ByteArray) (a1 : Int) (r1 : ByteArray) (r2 : Int) (w : World) (h : derive_Key.f k a0 a1 = some (r1, r2)) :
  Calls Try.prog 132 #[.string a0, .int .i64 a1] w fun e w' => e = .returned (.tuple #[.string r1, .int .i64 r2]) ∧ Below w.heap.size w w' := by
 have HB := Aside0.mk (Below.refl w.heap.size w)
 have H : ((sched_Rounds.f (a0.size : Int)).bind fun t1 => (if t1 = 0 then (some ((⟨#[]⟩ : ByteArray), 2)) else ((derive_Input.f a1 (a0.size : Int)).bind fun t2 => (if t2.toList = ([] : List UInt8) then (some ((⟨#[]⟩ : ByteArray), 1)) else ((kdf_Counter.f k a0 t2 (a0.size : Int)).bind fun bt3 => (some (bt3.1, bt3.2))))))) = some (r1, r2) := h
 clear h
 replace H := Option.bind_eq_some_iff.mp H
 obtain ⟨t1, A30, H⟩ := H
 try dsimp only at H
 have A3 := Aside0.mk A30
 clear A30
 by_cases c4 : t1 = 0
 ·rw [if_pos c4] at H
  have c4b0 : (t1 == 0) = true := beq_iff_eq.mpr c4
  have c4b1 : (t1 != 0) = false := bne_eq_false_iff_eq.mpr c4
  clear c4
  simp only [Option.some.injEq, Prod.mk.injEq] at H
  obtain ⟨rfl, rfl⟩ := H
  go_enter Try.func132, Try.ntmps132
  go_wp2_with (first | ((with_reducible refine gate_callee (f := 88) rfl ?_); refine goesL_ (some 9) rfl rfl Try.func88 (by kernel_rfl) rfl #[.int .i64 (a0.size : Int)] rfl (by (try simp only [lT, lC, lN]); first | done | rfl | (simp only [List.length_drop, List.length_take]; rfl) | (simp only [ByteArray.size_extract, Nat.min_self, Nat.sub_zero, ByteArray.size_append]; first | done | rfl)) ?_; (with_reducible refine (sched_Rounds.calls (a0.size : Int) t1 _ A3.out).mono ?_); rintro e w' ⟨rfl, ⟨nd, rfl⟩⟩; refine ⟨_, rfl, ?_⟩))
  go_ret2
  exact ⟨by first | rfl | (simp [*, errW_none, errW_some] <;> rfl), by repeat first | with_reducible (first | exact HB.out | apply bA | apply bN | apply bD) | exact HB.out⟩
 ·rw [if_neg c4] at H
  have c4b0 : (t1 == 0) = false := beq_eq_false_iff_ne.mpr c4
  have c4b1 : (t1 != 0) = true := bne_iff_ne.mpr c4
  replace H := Option.bind_eq_some_iff.mp H
  obtain ⟨t2, A50, H⟩ := H
  try dsimp only at H
  have A5 := Aside0.mk A50
  clear A50
  by_cases c6 : t2.toList = ([] : List UInt8)
  ·rw [if_pos c6] at H
   have c6b0 : (t2.toList == ([] : List UInt8)) = true := beq_iff_eq.mpr c6
   have c6b1 : (t2.toList != ([] : List UInt8)) = false := bne_eq_false_iff_eq.mpr c6
   clear c6
   simp only [Option.some.injEq, Prod.mk.injEq] at H
   obtain ⟨rfl, rfl⟩ := H
   go_enter Try.func132, Try.ntmps132
   go_wp2_with (first | ((with_reducible refine gate_callee (f := 88) rfl ?_); refine goesL_ (some 9) rfl rfl Try.func88 (by kernel_rfl) rfl #[.int .i64 (a0.size : Int)] rfl (by (try simp only [lT, lC, lN]); first | done | rfl | (simp only [List.length_drop, List.length_take]; rfl) | (simp only [ByteArray.size_extract, Nat.min_self, Nat.sub_zero, ByteArray.size_append]; first | done | rfl)) ?_; (with_reducible refine (sched_Rounds.calls (a0.size : Int) t1 _ A3.out).mono ?_); rintro e w' ⟨rfl, ⟨nd, rfl⟩⟩; refine ⟨_, rfl, ?_⟩) | ((with_reducible refine gate_callee (f := 134) rfl ?_); refine goesL_ (some 14) rfl rfl Try.func134 (by kernel_rfl) rfl #[.int .i64 a1, .int .i64 (a0.size : Int)] rfl (by (try simp only [lT, lC, lN]); first | done | rfl | (simp only [List.length_drop, List.length_take]; rfl) | (simp only [ByteArray.size_extract, Nat.min_self, Nat.sub_zero, ByteArray.size_append]; first | done | rfl)) ?_; (with_reducible refine (derive_Input.calls a1 (a0.size : Int) t2 _ A5.out).mono ?_); rintro e w7 ⟨rfl, hb⟩; refine ⟨_, rfl, ?_⟩; have n0_ := Aside0.mk (below_step (by repeat first | with_reducible (first | exact HB.out | apply bA | apply bN | apply bD) | exact HB.out) hb); clear HB; have HB := n0_; clear n0_; (try clear hb); (try clear hb2); (try clear hk); (try clear hi)))
   go_ret2
   exact ⟨by first | rfl | (simp [*, errW_none, errW_some] <;> rfl), by repeat first | with_reducible (first | exact HB.out | apply bA | apply bN | apply bD) | exact HB.out⟩
  ·rw [if_neg c6] at H
   have c6b0 : (t2.toList == ([] : List UInt8)) = false := beq_eq_false_iff_ne.mpr c6
   have c6b1 : (t2.toList != ([] : List UInt8)) = true := bne_iff_ne.mpr c6
   replace H := Option.bind_eq_some_iff.mp H
   obtain ⟨⟨t3, t4⟩, A80, H⟩ := H
   replace H : (some (t3, t4)) = some (r1, r2) := H
   have A8 := Aside0.mk A80
   clear A80
   simp only [Option.some.injEq, Prod.mk.injEq] at H
   obtain ⟨rfl, rfl⟩ := H
   go_enter Try.func132, Try.ntmps132
   go_wp2_with (first | ((with_reducible refine gate_callee (f := 88) rfl ?_); refine goesL_ (some 9) rfl rfl Try.func88 (by kernel_rfl) rfl #[.int .i64 (a0.size : Int)] rfl (by (try simp only [lT, lC, lN]); first | done | rfl | (simp only [List.length_drop, List.length_take]; rfl) | (simp only [ByteArray.size_extract, Nat.min_self, Nat.sub_zero, ByteArray.size_append]; first | done | rfl)) ?_; (with_reducible refine (sched_Rounds.calls (a0.size : Int) t1 _ A3.out).mono ?_); rintro e w' ⟨rfl, ⟨nd, rfl⟩⟩; refine ⟨_, rfl, ?_⟩) | ((with_reducible refine gate_callee (f := 134) rfl ?_); refine goesL_ (some 14) rfl rfl Try.func134 (by kernel_rfl) rfl #[.int .i64 a1, .int .i64 (a0.size : Int)] rfl (by (try simp only [lT, lC, lN]); first | done | rfl | (simp only [List.length_drop, List.length_take]; rfl) | (simp only [ByteArray.size_extract, Nat.min_self, Nat.sub_zero, ByteArray.size_append]; first | done | rfl)) ?_; (with_reducible refine (derive_Input.calls a1 (a0.size : Int) t2 _ A5.out).mono ?_); rintro e w9 ⟨rfl, hb⟩; refine ⟨_, rfl, ?_⟩; have n0_ := Aside0.mk (below_step (by repeat first | with_reducible (first | exact HB.out | apply bA | apply bN | apply bD) | exact HB.out) hb); clear HB; have HB := n0_; clear n0_; (try clear hb); (try clear hb2); (try clear hk); (try clear hi)) | ((with_reducible refine gate_callee (f := 126) rfl ?_); refine goesL_ (some 21) rfl rfl Try.func126 (by kernel_rfl) rfl #[.string a0, .string t2, .int .i64 (a0.size : Int)] rfl (by (try simp only [lT, lC, lN]); first | done | rfl | (simp only [List.length_drop, List.length_take]; rfl) | (simp only [ByteArray.size_extract, Nat.min_self, Nat.sub_zero, ByteArray.size_append]; first | done | rfl)) ?_; (with_reducible refine (kdf_Counter.calls k a0 t2 (a0.size : Int) t3 t4 _ A8.out).mono ?_); rintro e w10 ⟨rfl, hb⟩; refine ⟨_, rfl, ?_⟩; have n0_ := Aside0.mk (below_step (by repeat first | with_reducible (first | exact HB.out | apply bA | apply bN | apply bD) | exact HB.out) hb); clear HB; have HB := n0_; clear n0_; (try clear hb); (try clear hb2); (try clear hk); (try clear hi)))
   go_ret2
   exact ⟨by first | rfl | (simp [*, errW_none, errW_some] <;> rfl), by repeat first | with_reducible (first | exact HB.out | apply bA | apply bN | apply bD) | exact HB.out⟩

end Go.Proofs.Ytokkhnjedmlbhaa.Pr
end
section
namespace Go.Proofs.Ytokkhnjedmlbhaa.Pr
open Go.RowKit Go.Proofs.YtokkhnjedmlbhaaW.PrintWords Go.Proofs.YtokkhnjedmlbhaaW.PrintLast Go.Proofs.YtokkhnjedmlbhaaW.PrintMore Go.Proofs.YtokkhnjedmlbhaaHw Go.Proofs.YtokkhnjedmlbhaaGf
def derive_Keys.f (k : Nat) (a0 : ByteArray) : Option (ByteArray × ByteArray × Int) := (derive_Key.f k a0 0).bind fun p => if p.2 = 0 then (derive_Key.f k a0 1).bind fun q => if q.2 = 0 then some (p.1, q.1, 0) else some (⟨#[]⟩, ⟨#[]⟩, q.2) else some (⟨#[]⟩, ⟨#[]⟩, p.2)
theorem derive_Keys.mono : ∀ a0 k, LeO (derive_Keys.f k a0) (derive_Keys.f (k + 1) a0) := fun a0 k =>
  LeO.bind (derive_Key.mono a0 0 k) (fun _ => LeO.ite (LeO.bind (derive_Key.mono a0 1 k) (fun _ => LeO.refl _)) (LeO.refl _))
theorem dkeys_bad0 (k : Nat) (a0 a : ByteArray) (e0 : Int) (w : World) (h0 : derive_Key.f k a0 0 = some (a, e0)) (he : e0 ≠ 0) :
    Calls Try.prog 131 #[.string a0] w fun e w' => e = .returned (.tuple #[.string ⟨#[]⟩, .string ⟨#[]⟩, .int .i64 e0]) ∧ Below w.heap.size w w' := by
  have H0 := Aside0.mk h0
  have hb2 : (e0 != 0) = true := bne_iff_ne.mpr he
  clear h0 he
  go_enter Try.func131, Try.ntmps131
  go_wp2
  have hb1 : Below w.heap.size w (w.alloc (.cells #[.string (⟨#[]⟩ : ByteArray), .string (⟨#[]⟩ : ByteArray)] 123)) := below_alloc (Below.refl _ _) _
  generalize w.alloc (.cells #[.string (⟨#[]⟩ : ByteArray), .string (⟨#[]⟩ : ByteArray)] 123) = w1 at *
  have HB1 := Aside0.mk hb1
  clear hb1
  refine wp_loop_rounds 3 ?_
  rw [rounds_succ]
  go_wp2_with (go_at_call 132; (with_reducible refine (derive_Key.calls k a0 0 a e0 _ H0.out).mono ?_); rintro e w2 ⟨rfl, hb2⟩; have HB2 := Aside0.mk (below_then HB1.out HB1.out.size hb2); clear hb2)
  refine bodyPost_ret (v := .tuple #[.string ⟨#[]⟩, .string ⟨#[]⟩, .int .i64 e0]) (by simp [results, Try.results131, go_sem]) rfl ⟨rfl, HB2.out⟩
set_option maxHeartbeats 1000000 in
theorem dkeys_bad1 (k : Nat) (a0 a b : ByteArray) (e1 : Int) (w : World) (h0 : derive_Key.f k a0 0 = some (a, 0)) (h1 : derive_Key.f k a0 1 = some (b, e1)) (he : e1 ≠ 0) :
    Calls Try.prog 131 #[.string a0] w fun e w' => e = .returned (.tuple #[.string ⟨#[]⟩, .string ⟨#[]⟩, .int .i64 e1]) ∧ Below w.heap.size w w' := by
  have H0 := Aside0.mk h0
  have H1 := Aside0.mk h1
  have hb2 : (e1 != 0) = true := bne_iff_ne.mpr he
  clear h0 h1 he
  go_enter Try.func131, Try.ntmps131
  go_wp2
  have hg1 : (w.alloc (.cells #[.string (⟨#[]⟩ : ByteArray), .string (⟨#[]⟩ : ByteArray)] 123)).heap[w.heap.size]? = some (.cells #[.string (⟨#[]⟩ : ByteArray), .string (⟨#[]⟩ : ByteArray)] 123 (0, 0)) := heap_alloc_new w _
  have hb1 : Below w.heap.size w (w.alloc (.cells #[.string (⟨#[]⟩ : ByteArray), .string (⟨#[]⟩ : ByteArray)] 123)) := below_alloc (Below.refl _ _) _
  generalize w.alloc (.cells #[.string (⟨#[]⟩ : ByteArray), .string (⟨#[]⟩ : ByteArray)] 123) = w1 at *
  have HB1 := Aside0.mk hb1
  have HG1 := Aside0.mk hg1
  clear hb1 hg1
  refine wp_loop_rounds 3 ?_
  rw [rounds_succ]
  go_wp2_with (go_at_call 132; (with_reducible refine (derive_Key.calls k a0 0 a 0 _ H0.out).mono ?_); rintro e w2 ⟨rfl, hb2⟩; have HG2 := Aside0.mk ((hb2.block w.heap.size (blk_lt HG1.out)).trans HG1.out); have HB2 := Aside0.mk (below_then HB1.out HB1.out.size hb2); have f2 := blk_frozen HG2.out 0; have c2 := blk_cell HG2.out 0; clear hb2)
  have hg3 := blk_set HG2.out 0 (.string a)
  have hb3 : Below w.heap.size w (w2.setCell ⟨w.heap.size, 0, none⟩ (.string a)) := below_set HB2.out (Nat.le_refl _)
  clear f2 c2
  generalize w2.setCell ⟨w.heap.size, 0, none⟩ (.string a) = w3 at *
  have HG3 : Aside0 (w3.heap[w.heap.size]? = some (.cells #[.string a, .string (⟨#[]⟩ : ByteArray)] 123 (0, 0))) := ⟨by simpa using hg3⟩
  have HB3 := Aside0.mk hb3
  clear hg3 hb3 HG1 HB1 HG2 HB2
  rw [rounds_succ]
  go_wp2_with (go_at_call 132; (with_reducible refine (derive_Key.calls k a0 1 b e1 _ H1.out).mono ?_); rintro e w4 ⟨rfl, hb4⟩; have HB4 := Aside0.mk (below_then HB3.out HB3.out.size hb4); clear hb4)
  refine bodyPost_ret (v := .tuple #[.string ⟨#[]⟩, .string ⟨#[]⟩, .int .i64 e1]) (by simp [results, Try.results131, go_sem]) rfl ⟨rfl, HB4.out⟩
set_option maxHeartbeats 1000000 in
theorem dkeys_ok (k : Nat) (a0 a b : ByteArray) (w : World) (h0 : derive_Key.f k a0 0 = some (a, 0)) (h1 : derive_Key.f k a0 1 = some (b, 0)) :
    Calls Try.prog 131 #[.string a0] w fun e w' => e = .returned (.tuple #[.string a, .string b, .int .i64 0]) ∧ Below w.heap.size w w' := by
  have H0 := Aside0.mk h0
  have H1 := Aside0.mk h1
  clear h0 h1
  go_enter Try.func131, Try.ntmps131
  go_wp2
  have hg1 : (w.alloc (.cells #[.string (⟨#[]⟩ : ByteArray), .string (⟨#[]⟩ : ByteArray)] 123)).heap[w.heap.size]? = some (.cells #[.string (⟨#[]⟩ : ByteArray), .string (⟨#[]⟩ : ByteArray)] 123 (0, 0)) := heap_alloc_new w _
  have hb1 : Below w.heap.size w (w.alloc (.cells #[.string (⟨#[]⟩ : ByteArray), .string (⟨#[]⟩ : ByteArray)] 123)) := below_alloc (Below.refl _ _) _
  generalize w.alloc (.cells #[.string (⟨#[]⟩ : ByteArray), .string (⟨#[]⟩ : ByteArray)] 123) = w1 at *
  have HB1 := Aside0.mk hb1
  have HG1 := Aside0.mk hg1
  clear hb1 hg1
  refine wp_loop_rounds 3 ?_
  rw [rounds_succ]
  go_wp2_with (go_at_call 132; (with_reducible refine (derive_Key.calls k a0 0 a 0 _ H0.out).mono ?_); rintro e w2 ⟨rfl, hb2⟩; have HG2 := Aside0.mk ((hb2.block w.heap.size (blk_lt HG1.out)).trans HG1.out); have HB2 := Aside0.mk (below_then HB1.out HB1.out.size hb2); have f2 := blk_frozen HG2.out 0; have c2 := blk_cell HG2.out 0; clear hb2)
  have hg3 := blk_set HG2.out 0 (.string a)
  have hb3 : Below w.heap.size w (w2.setCell ⟨w.heap.size, 0, none⟩ (.string a)) := below_set HB2.out (Nat.le_refl _)
  clear f2 c2
  generalize w2.setCell ⟨w.heap.size, 0, none⟩ (.string a) = w3 at *
  have HG3 : Aside0 (w3.heap[w.heap.size]? = some (.cells #[.string a, .string (⟨#[]⟩ : ByteArray)] 123 (0, 0))) := ⟨by simpa using hg3⟩
  have HB3 := Aside0.mk hb3
  clear hg3 hb3 HG1 HB1 HG2 HB2
  rw [rounds_succ]
  go_wp2_with (go_at_call 132; (with_reducible refine (derive_Key.calls k a0 1 b 0 _ H1.out).mono ?_); rintro e w4 ⟨rfl, hb4⟩; have HG4 := Aside0.mk ((hb4.block w.heap.size (blk_lt HG3.out)).trans HG3.out); have HB4 := Aside0.mk (below_then HB3.out HB3.out.size hb4); have f4 := blk_frozen HG4.out 1; have c4 := blk_cell HG4.out 1; clear hb4)
  have hg5 := blk_set HG4.out 1 (.string b)
  have hb5 : Below w.heap.size w (w4.setCell ⟨w.heap.size, 1, none⟩ (.string b)) := below_set HB4.out (Nat.le_refl _)
  clear f4 c4
  generalize w4.setCell ⟨w.heap.size, 1, none⟩ (.string b) = w5 at *
  have HG5 : Aside0 (w5.heap[w.heap.size]? = some (.cells #[.string a, .string b] 123 (0, 0))) := ⟨by simpa using hg5⟩
  have HB5 := Aside0.mk hb5
  clear hg5 hb5 HG3 HB3 HG4 HB4
  rw [rounds_succ]
  have c0 : w5.cell? ⟨w.heap.size, 0, none⟩ = some (.string a) := (blk_cell HG5.out 0).trans rfl
  have c1 : w5.cell? ⟨w.heap.size, 1, none⟩ = some (.string b) := (blk_cell HG5.out 1).trans rfl
  go_wp2
  go_quiet (fail)
  go_wp2
  refine bodyPost_ret (v := .tuple #[.string a, .string b, .int .i64 0]) (by simp [results, Try.results131, go_sem]) rfl ⟨rfl, pw_below_drewN HB5.out _⟩
theorem derive_Keys.calls (k : Nat) (a0 : ByteArray) (r0 r1 : ByteArray) (r2 : Int) (w : World) (h : derive_Keys.f k a0 = some (r0, r1, r2)) :
    Calls Try.prog 131 #[.string a0] w fun e w' => e = .returned (.tuple #[.string r0, .string r1, .int .i64 r2]) ∧ Below w.heap.size w w' := by
  unfold derive_Keys.f at h
  replace h := Option.bind_eq_some_iff.1 h
  obtain ⟨⟨a, e0⟩, h0, h⟩ := h
  by_cases he : e0 = 0
  · subst he
    rw [if_pos rfl] at h
    replace h := Option.bind_eq_some_iff.1 h
    obtain ⟨⟨b, e1⟩, h1, h⟩ := h
    by_cases he1 : e1 = 0
    · subst he1
      rw [if_pos rfl] at h
      obtain ⟨rfl, h2⟩ := Prod.mk.inj (Option.some.inj h)
      obtain ⟨rfl, rfl⟩ := Prod.mk.inj h2
      exact dkeys_ok k a0 a b w h0 h1
    · rw [if_neg (show ¬ (b, e1).2 = 0 from he1)] at h
      obtain ⟨rfl, h2⟩ := Prod.mk.inj (Option.some.inj h)
      obtain ⟨rfl, rfl⟩ := Prod.mk.inj h2
      exact dkeys_bad1 k a0 a b e1 w h0 h1 he1
  · rw [if_neg (show ¬ (a, e0).2 = 0 from he)] at h
    obtain ⟨rfl, h2⟩ := Prod.mk.inj (Option.some.inj h)
    obtain ⟨rfl, rfl⟩ := Prod.mk.inj h2
    exact dkeys_bad0 k a0 a e0 w h0 he
end Go.Proofs.Ytokkhnjedmlbhaa.Pr
end
