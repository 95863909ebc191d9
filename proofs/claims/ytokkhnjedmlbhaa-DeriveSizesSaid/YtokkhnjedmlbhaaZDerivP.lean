-- several texts in one (by the session's program shake.py)
import Derived.Test.YtokkhnjedmlbhaaZRowC
import Derived.Test.YtokkhnjedmlbhaaZPrg05
import Derived.Test.YtokkhnjedmlbhaaZBytes
import Derived.Test.YtokkhnjedmlbhaaZCmac
import Derived.Test.YtokkhnjedmlbhaaZXor
import Derived.Test.YtokkhnjedmlbhaaZPrg01
import Derived.Test.YtokkhnjedmlbhaaZWordM
import Derived.Test.YtokkhnjedmlbhaaZPrg35b
import Derived.Test.YtokkhnjedmlbhaaZPrg12
import Derived.Test.YtokkhnjedmlbhaaZPrL35DeriveTells
section
namespace Go.Proofs.Ytokkhnjedmlbhaa.M
open Go.RowKit Go.Proofs.Ytokkhnjedmlbhaa.Pr Go.Proofs.YtokkhnjedmlbhaaW.PrintWords Go.Proofs.YtokkhnjedmlbhaaW.PrintLast Go.Proofs.YtokkhnjedmlbhaaW.PrintMore Go.Proofs.YtokkhnjedmlbhaaGf
set_option linter.unusedSimpArgs false
def okX (f : ByteArray → ByteArray) (s : ByteArray) : ByteArray × Int := if s.size = 16 then (f s, 0) else (⟨#[]⟩, 4)
/-- A block, encrypted; decrypted; or why not. -/
def encX (key s : ByteArray) : ByteArray × Int := if okN key.size then okX (encT (ksB key)) s else (⟨#[]⟩, 2)
theorem dropB {ks : List ByteArray} {i : Nat} (h : i < ks.length) : ks.drop i = ks.getD i ByteArray.empty :: ks.drop (i + 1) := by
  rw [List.drop_eq_getElem_cons h]
  simp [List.getD_eq_getElem?_getD, h]
theorem last_i (ks : List ByteArray) (i : Nat) (h : i < ks.length) (hb : ks.length ≤ 100) : (((i : Nat) : Int) == wrap64 ((ks.length : Int) - 1)) = (ks.drop (i + 1)).isEmpty := by
  rw [wrap_id (by omega) (by omega)]
  by_cases e : i + 1 = ks.length
  · rw [List.drop_of_length_le (by omega)]
    exact beq_iff_eq.mpr (by omega)
  · rw [dropB (show i + 1 < ks.length by omega)]
    exact beq_eq_false_iff_ne.mpr (by omega)
theorem rfwdL (ks : List ByteArray) (hb : ks.length ≤ 100) (d : Nat) : ∀ (i : Nat) (s : ByteArray), ks.length - i = d → i ≤ ks.length → Ev (fun k => clavigerref09_forward.l0 k ks s (i : Int)) (fwd (ks.drop i) s) := by
  induction d with
  | zero =>
    intro i s hd hi
    rw [List.drop_of_length_le (by omega)]
    refine Ev.step (f := fun _ => some s) (fun k => ?_) (Ev.now _)
    simp only [clavigerref09_forward.l0]
    rw [if_neg (by omega)]
  | succ d ih =>
    intro i s hd hi
    rw [dropB (show i < ks.length by omega)]
    refine Ev.step (f := fun k => (clavigerref07_Do.f k s (ks.getD i ByteArray.empty) ((ks.drop (i + 1)).isEmpty)).bind fun t269 => clavigerref09_forward.l0 k ks t269 ((i + 1 : Nat) : Int)) (fun k => ?_) ?_
    · simp only [clavigerref09_forward.l0]
      rw [if_pos (by omega), if_pos (by omega), last_i ks i (by omega) hb, rdO, wrap_id (by omega) (by omega)]
      rfl
    · exact evb (rdo_t _ _ _) (ih (i + 1) _ (by omega) (by omega))
theorem rfwd_c (ks : List ByteArray) (s : ByteArray) (h0 : 0 < ks.length) (hb : ks.length ≤ 100) : Ev (fun k => clavigerref09_forward.f k ks s) (encT ks s) := by
  unfold clavigerref09_forward.f
  refine evp (by omega) (evb (rkey_t _ _) ?_)
  have := rfwdL ks hb _ 1 (kyT s (rdOf ByteArray.empty ks 0)) rfl (by omega)
  cases ks with
  | nil => simp at h0
  | cons k ks => exact this
theorem renc_c (key s : ByteArray) : Ev (fun k => clavigerref09_Encrypt.f k key s) (encX key s) := by
  unfold clavigerref09_Encrypt.f encX okX
  by_cases h : okN key.size
  · rw [if_pos h]
    have hl := ks_len h
    refine evb (rkeys_c h) (evp rfl ?_)
    by_cases hs : s.size = 16
    · rw [if_pos hs]
      exact evp (by omega) (evb (rfwd_c _ _ (show 0 < (ksB key).length by omega) hl.2) (Ev.now _))
    · rw [if_neg hs]
      exact evn (by omega) (Ev.now _)
  · rw [if_neg h]
    exact evb (rkeys_n h) (evn (by decide) (Ev.now _))
theorem encX_ok {key s : ByteArray} (h : okN key.size) (hs : s.size = 16) : encX key s = (encT (ksB key) s, 0) := by unfold encX okX; rw [if_pos h, if_pos hs]
theorem nil_list : (⟨#[]⟩ : ByteArray).toList = ([] : List UInt8) := by decide +kernel
end Go.Proofs.Ytokkhnjedmlbhaa.M
end
section
namespace Go.Proofs.Ytokkhnjedmlbhaa.M
open Go.RowKit Go.Proofs.Ytokkhnjedmlbhaa.Pr Go.Proofs.YtokkhnjedmlbhaaW.PrintWords Go.Proofs.YtokkhnjedmlbhaaW.PrintLast Go.Proofs.YtokkhnjedmlbhaaW.PrintMore Go.Proofs.YtokkhnjedmlbhaaGf
set_option linter.unusedSimpArgs false
def tagX (key s : ByteArray) : ByteArray × Int := if okN key.size then (tagT (ksB key) s, 0) else (⟨#[]⟩, 2)
def subX (key : ByteArray) : ByteArray × ByteArray × Int := if okN key.size then (k1T (ksB key), k2T (ksB key), 0) else (⟨#[]⟩, ⟨#[]⟩, 2)
theorem ctag_x (key s : ByteArray) (h : s.size < 1000000) : cmac_Tag.f key s = some (tagX key s) := by
  unfold cmac_Tag.f; rw [if_pos h]; rfl
theorem rzeros_c (z : Nat) (hz : z ≤ 65552) : clavigerref01_Zeros.f (z : Int) = some (zeros z) := by
  have := zeros_c z hz
  unfold octets_Zeros.f at this
  exact this
theorem rpadL (s : ByteArray) (n z : Nat) (h1 : 1 ≤ n) (h2 : n ≤ 65535) (hz : z < n) (hs : s.size < 1000000000) (h : (s.size + z) % n = 0) (hn : ∀ i, i < z → (s.size + i) % n ≠ 0) (d : Nat) : ∀ i, z - i = d → i ≤ z → Ev (fun k => clavigerref01_Pad.l0 k s (n : Int) (i : Int)) (s ++ zeros z) := by
  have e (i : Nat) (hi : i ≤ z) : Int.tmod (wrap64 ((s.size : Int) + (i : Int))) (n : Int) = (((s.size + i) % n : Nat) : Int) := by
    rw [wrap_id (by omega) (by omega), Int.tmod_eq_emod_of_nonneg (by omega), ← Int.natCast_add, ← Int.natCast_emod]
  induction d with
  | zero =>
    intro i hd hi
    obtain rfl : i = z := by omega
    refine Ev.step (f := fun _ => some (s ++ zeros i)) (fun k => ?_) (Ev.now _)
    simp only [clavigerref01_Pad.l0]
    rw [if_neg (by omega), e i (Nat.le_refl _), h, if_pos (by omega), rzeros_c _ (by omega)]
    simp only [Option.bind_some]
    rw [if_pos (by rw [zeros_size]; omega)]
  | succ d ih =>
    intro i hd hi
    have hh := ih (i + 1) (by omega) (by omega)
    have := hn i (by omega)
    refine Ev.step (fun k => ?_) hh
    simp only [clavigerref01_Pad.l0]
    rw [if_neg (by omega), e i hi, if_neg (by omega), wrap_id (by omega) (by omega)]
    rfl
theorem rpad16 (s : ByteArray) (hs : s.size < 1000000000) : Ev (fun k => clavigerref01_Pad.f k s 16) (padT s 16) := by
  unfold clavigerref01_Pad.f
  refine evn (by decide) ?_
  refine Ev.step (f := fun k => clavigerref01_Pad.l0 k s ((16 : Nat) : Int) ((0 : Nat) : Int)) (fun k => by simp only [clavigerref01_Pad.j0]; rw [if_neg (by decide)]; rfl) ?_
  exact rpadL s 16 ((16 - s.size % 16) % 16) (by omega) (by omega) (by omega) hs (by omega) (fun i hi => by omega) _ 0 rfl (by omega)
theorem rsub_t (key : ByteArray) : Ev (fun k => clavigerref11_Subkeys.f k key) (subX key) := by
  unfold clavigerref11_Subkeys.f subX
  have h0 := renc_c key (zeros 16)
  refine evs (rzeros_c 16 (by omega)) (evb h0 ?_)
  by_cases ok : okN key.size
  · rw [encX_ok ok (zeros_size 16), if_pos ok]
    exact evp rfl (evs (g := clavigerref11_Double.f (encT (ksB key) (zeros 16))) rfl (evs (g := clavigerref11_Double.f (encT (ksB key) (zeros 16))) rfl (evs rfl (Ev.now _))))
  · have : encX key (zeros 16) = (⟨#[]⟩, 2) := by unfold encX; rw [if_neg ok]
    rw [this, if_neg ok]
    exact evn (by decide) (Ev.now _)
theorem rtagL {key : ByteArray} (ok : okN key.size) (s : ByteArray) (hs : s.size < 1000000) (d : Nat) : ∀ j, endI s.size - j = d → j ≤ endI s.size → Ev (fun k => clavigerref11_Tag.l0 k key (s.extract (16 * j) s.size) (k1T (ksB key)) (k2T (ksB key)) (zJ (ksB key) s j)) (tagT (ksB key) s, 0) := by
  have hk := (ks_facts ok).2.1
  have hE := end_le s.size
  have enc (x : ByteArray) (hx : x.size = 16) : Ev (fun k => clavigerref09_Encrypt.f k key x) (encT (ksB key) x, 0) := by
    have := renc_c key x
    rwa [encX_ok ok hx] at this
  induction d with
  | zero =>
    intro j hd hj
    obtain rfl : j = endI s.size := by omega
    have hz := zJ_size hk s (endI s.size) (by omega)
    have hr : s.extract (16 * endI s.size) (16 * endI s.size + 16) = s.extract (16 * endI s.size) s.size := ext_clip s _ _ hE.2
    have hb : blkT (ksB key) s (endI s.size) = lastX (s.extract (16 * endI s.size) s.size) (k1T (ksB key)) (k2T (ksB key)) := by
      unfold blkT lastT
      rw [if_pos rfl, hr]
    have hbs := blkT_size hk s (endI s.size) (Nat.le_refl _)
    rw [hb] at hbs
    have ht : tagT (ksB key) s = encT (ksB key) (xorT (zJ (ksB key) s (endI s.size)) (lastX (s.extract (16 * endI s.size) s.size) (k1T (ksB key)) (k2T (ksB key)))) := by
      rw [← hb]; rfl
    have hrs : (s.extract (16 * endI s.size) s.size).size ≤ 16 := by rw [ByteArray.size_extract]; omega
    rw [ht]
    clear ht hb hr
    generalize s.extract (16 * endI s.size) s.size = r at *
    generalize zJ (ksB key) s (endI s.size) = x at *
    have k1 := k1_size hk
    have k2 := k2_size hk
    by_cases h : r.size = 16
    · have e : lastX r (k1T (ksB key)) (k2T (ksB key)) = xorT r (k1T (ksB key)) := by unfold lastX; rw [if_pos h]
      rw [e] at hbs ⊢
      refine Ev.step (f := fun k => (clavigerref01_Xor.f k r (k1T (ksB key))).bind fun t3 => ((clavigerref01_Xor.f k x t3).bind fun t4 => ((clavigerref09_Encrypt.f k key t4).bind fun bt5 => (some (bt5.1, 0))))) (fun k => ?_) ?_
      · simp only [clavigerref11_Tag.l0]
        rw [if_neg (by omega), if_pos (by omega)]
      · exact evb (rxor_c _ _ (by omega) (by omega)) (evb (rxor_c _ _ (by omega) (by omega)) (evb (enc _ (by rw [xorT_size, hz, hbs]; rfl)) (Ev.now _)))
    · have e : lastX r (k1T (ksB key)) (k2T (ksB key)) = xorT (padT (r ++ (⟨#[128]⟩ : ByteArray)) 16) (k2T (ksB key)) := by unfold lastX; rw [if_neg h]
      rw [e] at hbs ⊢
      have h1 : (r ++ (⟨#[128]⟩ : ByteArray)).size = r.size + 1 := by rw [ByteArray.size_append]; rfl
      have h2 := padT_size (r ++ (⟨#[128]⟩ : ByteArray)) (by omega) (by omega)
      refine Ev.step (f := fun k => (clavigerref01_Pad.f k (r ++ (⟨#[128]⟩ : ByteArray)) 16).bind fun t6 => ((clavigerref01_Xor.f k t6 (k2T (ksB key))).bind fun t7 => ((clavigerref01_Xor.f k x t7).bind fun t8 => ((clavigerref09_Encrypt.f k key t8).bind fun bt9 => (some (bt9.1, 0)))))) (fun k => ?_) ?_
      · simp only [clavigerref11_Tag.l0]
        rw [if_neg (by omega), if_neg (by omega), if_pos (by omega)]
      · exact evb (rpad16 _ (by omega)) (evb (rxor_c _ _ (by omega) (by omega)) (evb (rxor_c _ _ (by omega) (by omega)) (evb (enc _ (by rw [xorT_size, hz, hbs]; rfl)) (Ev.now _))))
  | succ d ih =>
    intro j hd hj
    have hh := ih (j + 1) (by omega) (by omega)
    have hz := zJ_size hk s j (by omega)
    have hlt : 16 * j + 16 < s.size := by unfold endI at *; omega
    have hb : blkT (ksB key) s j = s.extract (16 * j) (16 * j + 16) := by unfold blkT; rw [if_neg (by omega)]
    have hbs := blkT_size hk s j hj
    have hsz : (s.extract (16 * j) s.size).size = s.size - 16 * j := by rw [ByteArray.size_extract]; omega
    refine Ev.step (f := fun k => (clavigerref01_Xor.f k (zJ (ksB key) s j) (blkT (ksB key) s j)).bind fun t1 => ((clavigerref09_Encrypt.f k key t1).bind fun bt2 => (clavigerref11_Tag.l0 k key (s.extract (16 * j + 16) s.size) (k1T (ksB key)) (k2T (ksB key)) bt2.1))) (fun k => ?_) ?_
    · simp only [clavigerref11_Tag.l0]
      rw [if_pos (by omega), if_pos (by omega), if_pos (by omega), ext_ext, ext_tail, hb]
    · exact evb (rxor_c _ _ (by omega) (by omega)) (evb (enc _ (by rw [xorT_size, hz, hbs]; rfl)) hh)
theorem rtag_c (key s : ByteArray) (hs : s.size < 1000000) : Ev (fun k => clavigerref11_Tag.f k key s) (tagX key s) := by
  unfold clavigerref11_Tag.f tagX
  refine evb (rsub_t key) ?_
  unfold subX
  by_cases ok : okN key.size
  · rw [if_pos ok, if_pos ok]
    have := rtagL ok s hs _ 0 rfl (Nat.zero_le _)
    rw [Nat.mul_zero, ext_all] at this
    exact evp rfl (evs (rzeros_c 16 (by omega)) this)
  · rw [if_neg ok, if_neg ok]
    exact evn (by decide) (Ev.now _)
end Go.Proofs.Ytokkhnjedmlbhaa.M
end
section
namespace Go.Proofs.Ytokkhnjedmlbhaa.M
open Go.RowKit Go.Proofs.Ytokkhnjedmlbhaa.Pr Go.Proofs.YtokkhnjedmlbhaaW.PrintWords Go.Proofs.YtokkhnjedmlbhaaW.PrintLast Go.Proofs.YtokkhnjedmlbhaaW.PrintMore Go.Proofs.YtokkhnjedmlbhaaGf
set_option linter.unusedSimpArgs false
def rndK (n : Int) : Nat := if n < 1 then 0 else if n > 4080 then 0 else (n.toNat + 15) / 16
theorem krnd_c (n : Int) : kdf_Rounds.f n = some ((rndK n : Nat) : Int) := by
  unfold kdf_Rounds.f rndK
  by_cases h1 : n < 1
  · rw [if_pos h1, if_pos h1]; rfl
  · rw [if_neg h1, if_neg h1]
    by_cases h2 : n > 4080
    · rw [if_pos h2, if_pos h2]; rfl
    · rw [if_neg h2, if_neg h2, wrap_id (x := n + 15) (by omega) (by omega), Int.tdiv_eq_ediv_of_nonneg (by omega), wrap_id (by omega) (by omega)]
      congr 1
      omega
theorem rrndL (n : Nat) (hn : 1 ≤ n) (hn2 : n ≤ 4080) (d : Nat) : ∀ i, (n + 15) / 16 - i = d → i ≤ (n + 15) / 16 → Ev (fun k => clavigerref12_Rounds.l0 k (n : Int) (i : Int)) (((n + 15) / 16 : Nat) : Int) := by
  induction d with
  | zero =>
    intro i hd hi
    obtain rfl : i = (n + 15) / 16 := by omega
    refine Ev.step (f := fun _ => some (((n + 15) / 16 : Nat) : Int)) (fun k => ?_) (Ev.now _)
    simp only [clavigerref12_Rounds.l0]
    rw [wrap_id (by omega) (by omega), if_neg (by omega)]
  | succ d ih =>
    intro i hd hi
    have hh := ih (i + 1) (by omega) (by omega)
    refine Ev.step (fun k => ?_) hh
    simp only [clavigerref12_Rounds.l0]
    rw [wrap_id (x := 16 * (i : Int)) (by omega) (by omega), if_pos (by omega), wrap_id (by omega) (by omega)]
    rfl
theorem rrnd_c (n : Int) : Ev (fun k => clavigerref12_Rounds.f k n) ((rndK n : Nat) : Int) := by
  unfold clavigerref12_Rounds.f rndK
  have z : Ev (fun k => clavigerref12_Rounds.j0 k n true) 0 := Ev.step (f := fun _ => some 0) (fun k => by simp only [clavigerref12_Rounds.j0]; rw [if_pos True.intro]) (Ev.now _)
  by_cases h1 : n < 1
  · rw [if_pos h1]
    exact evp h1 z
  · rw [if_neg h1]
    refine evn h1 ?_
    by_cases h2 : n > 4080
    · rw [if_pos h2, decide_eq_true h2]; exact z
    · rw [if_neg h2, decide_eq_false h2]
      obtain ⟨m, rfl⟩ : ∃ m : Nat, n = (m : Int) := ⟨n.toNat, by omega⟩
      rw [Int.toNat_natCast]
      refine Ev.step (f := fun k => clavigerref12_Rounds.l0 k (m : Int) ((0 : Nat) : Int)) (fun k => by simp only [clavigerref12_Rounds.j0]; rw [if_neg (by simp)]; rfl) (rrndL m (by omega) (by omega) _ 0 rfl (by omega))
/-- Tag i of a key's; so many of them, joined. -/
def kT (ks : List ByteArray) (fixed : ByteArray) (i : Nat) : ByteArray := tagT ks (mkB (lowL (i + 1) 1) ++ fixed)
def kTs (ks : List ByteArray) (fixed : ByteArray) (r : Nat) : List ByteArray := (List.range r).map (kT ks fixed)
def ctrX (key fixed : ByteArray) (n : Int) : ByteArray × Int := if okN key.size then if rndK n = 0 then (⟨#[]⟩, 4) else ((catB (kTs (ksB key) fixed (rndK n))).extract 0 n.toNat, 0) else (⟨#[]⟩, 2)
theorem kTs_all {ks : List ByteArray} (h : all16 ks) (fixed : ByteArray) (r : Nat) : allS 16 (kTs ks fixed r) := by
  intro x hx
  obtain ⟨i, _, rfl⟩ := List.mem_map.1 hx
  exact tagT_size h _
theorem kTs_size {ks : List ByteArray} (h : all16 ks) (fixed : ByteArray) (r : Nat) : (catB (kTs ks fixed r)).size = 16 * r := by
  rw [cat_size 16 _ (kTs_all h fixed r)]; simp [kTs]
theorem kTs_succ (ks : List ByteArray) (fixed : ByteArray) (r : Nat) : kTs ks fixed (r + 1) = kTs ks fixed r ++ [kT ks fixed r] := by
  unfold kTs; rw [List.range_succ, List.map_append]; rfl
theorem cut_c (s : ByteArray) (n : Nat) (h1 : 1 ≤ n) (h2 : n ≤ s.size) (hs : s.size < 1000000000) : octets_Cut.f s 0 (n : Int) = some (s.extract 0 n) := by
  have e1 : wrap64 ((s.size : Int) - 0) = (s.size : Int) := by unfold wrap64; omega
  have e2 : mn (n : Int) (s.size : Int) = (n : Int) := by unfold mn; omega
  have e3 : wrap64 (0 + (n : Int)) = (n : Int) := by unfold wrap64; omega
  unfold octets_Cut.f
  rw [if_neg (by decide), if_neg (by omega), if_neg (by omega), if_pos (by decide), e1, e2, e3, if_pos (by omega), if_pos (by omega), Int.toNat_natCast]
  rfl
theorem rnd_facts {n : Int} (h : rndK n ≠ 0) : ∃ m : Nat, n = (m : Int) ∧ 1 ≤ m ∧ m ≤ 4080 ∧ rndK n = (m + 15) / 16 := by
  unfold rndK at h ⊢
  by_cases h1 : n < 1
  · rw [if_pos h1] at h; exact absurd rfl h
  · by_cases h2 : n > 4080
    · rw [if_neg h1, if_pos h2] at h; exact absurd rfl h
    · exact ⟨n.toNat, by omega, by omega, by omega, by rw [if_neg h1, if_neg h2]⟩
theorem low1 (i : Nat) : (mkB (lowL (i + 1) 1)).size = 1 := by rw [mkB_size, lowL_length]
theorem kctrL {key : ByteArray} (ok : okN key.size) (fixed : ByteArray) (hf : fixed.size < 100000) (m r : Nat) (hm : 1 ≤ m) (hm2 : m ≤ 16 * r) (hr : r ≤ 255) (d : Nat) : ∀ i, r - i = d → i ≤ r → Ev (fun k => kdf_Counter.l0 k key fixed (m : Int) (kTs (ksB key) fixed i) (r : Int) (i : Int)) ((catB (kTs (ksB key) fixed r)).extract 0 m, 0) := by
  have hk := (ks_facts ok).2.1
  induction d with
  | zero =>
    intro i hd hi
    obtain rfl : i = r := by omega
    have hz := kTs_size hk fixed i
    refine Ev.step (f := fun _ => (octets_Join.f (kTs (ksB key) fixed i)).bind fun t4 => ((octets_Cut.f t4 0 (m : Int)).bind fun t5 => (some (t5, 0)))) (fun k => ?_) ?_
    · simp only [kdf_Counter.l0]
      rw [if_neg (by omega)]
    · exact evs (join_c _ (by simp [kTs]; omega) (by omega)) (evs (cut_c _ m hm (by omega) (by omega)) (Ev.now _))
  | succ d ih =>
    intro i hd hi
    have hh := ih (i + 1) (by omega) (by omega)
    have e1 : IntKind.u64.wrap (wrap64 ((i : Int) + 1)) = ((i + 1 : Nat) : Int) := by rw [IntKind.wrap_u64, wrap_id (by omega) (by omega)]; omega
    have e2 : wrap64 ((i : Int) + 1) = ((i + 1 : Nat) : Int) := by unfold wrap64; omega
    have l1 := low1 i
    have e3 : catB [mkB (lowL (i + 1) 1), fixed] = mkB (lowL (i + 1) 1) ++ fixed := by show _ ++ (fixed ++ (⟨#[]⟩ : ByteArray)) = _; rw [append_empty]
    have hs : (mkB (lowL (i + 1) 1) ++ fixed).size = 1 + fixed.size := by rw [ByteArray.size_append, l1]
    have ht : cmac_Tag.f key (mkB (lowL (i + 1) 1) ++ fixed) = some (kT (ksB key) fixed i, 0) := by
      rw [ctag_x _ _ (by omega)]; unfold tagX; rw [if_pos ok]; rfl
    rw [kTs_succ] at hh
    refine Ev.step (fun k => ?_) hh
    simp only [kdf_Counter.l0]
    rw [if_pos (by omega), e1, e2, put_1]
    simp only [Option.bind_some]
    rw [join_c _ (by simp) (by rw [e3]; omega), e3]
    simp only [Option.bind_some]
    rw [ht]
    simp only [Option.bind_some]
    rw [if_pos (by simp [kTs]; omega)]
theorem kctr_c (key fixed : ByteArray) (hf : fixed.size < 100000) (n : Int) : Ev (fun k => kdf_Counter.f k key fixed n) (ctrX key fixed n) := by
  unfold kdf_Counter.f ctrX
  refine evs (ctag_x key ⟨#[]⟩ (by decide)) ?_
  unfold tagX
  by_cases ok : okN key.size
  · rw [if_pos ok, if_pos ok]
    refine evp rfl (evs (krnd_c n) ?_)
    by_cases h : rndK n = 0
    · rw [if_pos h, h]
      exact evp rfl (Ev.now _)
    · obtain ⟨m, rfl, h1, h2, h3⟩ := rnd_facts h
      rw [if_neg h]
      refine evn (by omega) ?_
      rw [h3, Int.toNat_natCast]
      exact kctrL ok fixed hf m ((m + 15) / 16) h1 (by omega) (by omega) _ 0 rfl (by omega)
  · rw [if_neg ok, if_neg ok]
    exact evn (by decide) (Ev.now _)
theorem rctrL {key : ByteArray} (ok : okN key.size) (fixed : ByteArray) (hf : fixed.size < 100000) (m r : Nat) (hm : 1 ≤ m) (hm2 : m ≤ 16 * r) (hr : r ≤ 255) (hrr : rndK (m : Int) = r) (d : Nat) : ∀ i, r - i = d → i ≤ r → Ev (fun k => clavigerref12_Counter.l0 k key fixed (m : Int) (catB (kTs (ksB key) fixed i)) ((i + 1 : Nat) : Int)) ((catB (kTs (ksB key) fixed r)).extract 0 m, 0) := by
  have hk := (ks_facts ok).2.1
  have hrc := rrnd_c (m : Int)
  rw [hrr] at hrc
  induction d with
  | zero =>
    intro i hd hi
    obtain rfl : i = r := by omega
    have hz := kTs_size hk fixed i
    refine Ev.step (f := (fun k => (clavigerref12_Rounds.f k (m : Int)).bind fun t2 => (if ((i + 1 : Nat) : Int) ≤ t2 then ((some (([(((i + 1 : Nat) : Int)) % 256] : List Int) : List Int)).bind fun y3 => (if (strOfNums y3).size + fixed.size ≤ 9223372036854775807 then ((clavigerref11_Tag.f k key ((strOfNums y3) ++ fixed)).bind fun bt4 => (if (catB (kTs (ksB key) fixed i)).size + bt4.1.size ≤ 9223372036854775807 then (clavigerref12_Counter.l0 k key fixed (m : Int) (catB (kTs (ksB key) fixed i) ++ bt4.1) (wrap64 (((i + 1 : Nat) : Int) + 1))) else (none))) else (none))) else (if 0 ≤ (m : Int) then (if (m : Int) ≤ ((catB (kTs (ksB key) fixed i)).size : Int) then (some ((catB (kTs (ksB key) fixed i)).extract 0 ((m : Int) : Int).toNat, 0)) else (none)) else (none))))) (fun k => rfl) ?_
    refine evb hrc (evn (by omega) (evp (by omega) (evp (by omega) ?_)))
    rw [Int.toNat_natCast]
    exact Ev.now _
  | succ d ih =>
    intro i hd hi
    have hh := ih (i + 1) (by omega) (by omega)
    have e1 : ((i + 1 : Nat) : Int) % 256 = ((i + 1 : Nat) : Int) := by omega
    have e2 : wrap64 (((i + 1 : Nat) : Int) + 1) = ((i + 1 + 1 : Nat) : Int) := by unfold wrap64; omega
    have e3 : strOfNums [((i + 1 : Nat) : Int)] = mkB (lowL (i + 1) 1) := by
      rw [sNs1]
      show mkB [i + 1] = mkB [(i + 1) / 1 % 256]
      rw [Nat.div_one, Nat.mod_eq_of_lt (by omega)]
    have l1 := low1 i
    have hs : (mkB (lowL (i + 1) 1) ++ fixed).size = 1 + fixed.size := by rw [ByteArray.size_append, l1]
    have ht := rtag_c key (mkB (lowL (i + 1) 1) ++ fixed) (by omega)
    unfold tagX at ht
    rw [if_pos ok] at ht
    have hz := kTs_size hk fixed i
    have hz1 : (kT (ksB key) fixed i).size = 16 := tagT_size hk _
    rw [kTs_succ, cat_app, cat_one] at hh
    refine Ev.step (f := (fun k => (clavigerref12_Rounds.f k (m : Int)).bind fun t2 => (if ((i + 1 : Nat) : Int) ≤ t2 then ((some (([(((i + 1 : Nat) : Int)) % 256] : List Int) : List Int)).bind fun y3 => (if (strOfNums y3).size + fixed.size ≤ 9223372036854775807 then ((clavigerref11_Tag.f k key ((strOfNums y3) ++ fixed)).bind fun bt4 => (if (catB (kTs (ksB key) fixed i)).size + bt4.1.size ≤ 9223372036854775807 then (clavigerref12_Counter.l0 k key fixed (m : Int) (catB (kTs (ksB key) fixed i) ++ bt4.1) (wrap64 (((i + 1 : Nat) : Int) + 1))) else (none))) else (none))) else (if 0 ≤ (m : Int) then (if (m : Int) ≤ ((catB (kTs (ksB key) fixed i)).size : Int) then (some ((catB (kTs (ksB key) fixed i)).extract 0 ((m : Int) : Int).toNat, 0)) else (none)) else (none))))) (fun k => rfl) ?_
    refine evb hrc (evp (by omega) (evs (a := [((i + 1 : Nat) : Int)]) (by rw [e1]) ?_))
    rw [e2, e3]
    exact evp (by omega) (evb ht (evp (by show _ + (kT (ksB key) fixed i).size ≤ _; omega) hh))
theorem rctr_c (key fixed : ByteArray) (hf : fixed.size < 100000) (n : Int) : Ev (fun k => clavigerref12_Counter.f k key fixed n) (ctrX key fixed n) := by
  have go (ok : okN key.size) : Ev (fun k => clavigerref12_Counter.j0 k key fixed n false) (if rndK n = 0 then (⟨#[]⟩, 4) else ((catB (kTs (ksB key) fixed (rndK n))).extract 0 n.toNat, 0)) := by
    refine Ev.step (f := fun k => (clavigerref12_Rounds.f k n).bind fun t1 => (if t1 = 0 then (some ((⟨#[]⟩ : ByteArray), 4)) else (clavigerref12_Counter.l0 k key fixed n (⟨#[]⟩ : ByteArray) 1))) (fun k => by simp only [clavigerref12_Counter.j0]; rw [if_neg (by simp)]) ?_
    refine evb (rrnd_c n) ?_
    by_cases h : rndK n = 0
    · rw [if_pos h, h]
      exact evp rfl (Ev.now _)
    · obtain ⟨m, rfl, h1, h2, h3⟩ := rnd_facts h
      rw [if_neg h]
      refine evn (by omega) ?_
      rw [h3, Int.toNat_natCast]
      exact rctrL ok fixed hf m ((m + 15) / 16) h1 (by omega) (by omega) h3 _ 0 rfl (by omega)
  unfold clavigerref12_Counter.f ctrX
  by_cases h1 : key.size = 16
  · rw [if_pos (.inl h1)]
    exact evp (by omega) (go (.inl h1))
  · refine evn (by omega) ?_
    by_cases h2 : key.size = 24
    · rw [if_pos (.inr (.inl h2))]
      exact evp (by omega) (go (.inr (.inl h2)))
    · refine evn (by omega) ?_
      by_cases h3 : key.size = 32
      · rw [if_pos (.inr (.inr h3)), show ((key.size : Int) != 32) = false by rw [h3]; rfl]
        exact go (.inr (.inr h3))
      · rw [if_neg (by unfold okN; omega), show ((key.size : Int) != 32) = true from bne_iff_ne.mpr (by omega)]
        exact Ev.step (f := fun _ => some ((⟨#[]⟩ : ByteArray), 2)) (fun k => by simp only [clavigerref12_Counter.j0]; rw [if_pos True.intro]) (Ev.now _)
end Go.Proofs.Ytokkhnjedmlbhaa.M
end
section
namespace Go.Proofs.Ytokkhnjedmlbhaa.Pr
open Go.RowKit Go.Proofs.YtokkhnjedmlbhaaW.PrintWords Go.Proofs.YtokkhnjedmlbhaaW.PrintLast Go.Proofs.YtokkhnjedmlbhaaW.PrintMore
attribute [local go_sem] max2_int min2_int max_two min_two max_three min_three max_four min_four   -- for this text's walks alone
set_option linter.unusedVariables false
set_option linter.unusedSimpArgs false

def clavigerlaw12_awake.f (k : Nat)  : Option (Bool) := (kdf_Counter.f k (⟨#[48, 49, 50, 51, 52, 53, 54, 55, 56, 57, 97, 98, 99, 100, 101, 102]⟩ : ByteArray) (⟨#[120]⟩ : ByteArray) 16).bind fun bt1 => ((clavigerref11_Tag.f k (⟨#[48, 49, 50, 51, 52, 53, 54, 55, 56, 57, 97, 98, 99, 100, 101, 102]⟩ : ByteArray) (⟨#[1, 120]⟩ : ByteArray)).bind fun bt2 => (if bt1.1.toList = bt2.1.toList then (if bt1.2 = 0 then ((kdf_Rounds.f 17).bind fun t3 => (if t3 = 2 then ((kdf_Fixed.f (⟨#[97]⟩ : ByteArray) (⟨#[98]⟩ : ByteArray) 128).bind fun t4 => (some (t4.toList == ([97, 0, 98, 0, 0, 0, 128] : List UInt8)))) else (some false))) else (some false)) else (some false)))
theorem clavigerlaw12_awake.mono : ∀ k, LeO (clavigerlaw12_awake.f k ) (clavigerlaw12_awake.f (k + 1) ) := by
 intro  k
 unfold clavigerlaw12_awake.f
 repeat' first
   | (with_reducible exact clavigerref11_Tag.mono _ _ _)
   | (with_reducible exact kdf_Counter.mono _ _ _ _)
   | (with_reducible exact LeO.refl _)
   | (with_reducible exact LeO.none _)
   | (with_reducible refine LeO.ite ?_ ?_)
   | (with_reducible refine LeO.bind ?_ (fun _ => ?_))
end Go.Proofs.Ytokkhnjedmlbhaa.Pr
end
section
namespace Go.Proofs.Ytokkhnjedmlbhaa.Pr
open Go.RowKit Go.Proofs.YtokkhnjedmlbhaaW.PrintWords Go.Proofs.YtokkhnjedmlbhaaW.PrintLast Go.Proofs.YtokkhnjedmlbhaaW.PrintMore
attribute [local go_sem] max2_int min2_int max_two min_two max_three min_three max_four min_four   -- for this text's walks alone
set_option linter.unusedVariables false
set_option linter.unusedSimpArgs false

def clavigerlaw12_KdfBegins.j0 : Nat → ByteArray → ByteArray → Int → Int → Bool → Option (Bool)
 | 0, _, _, _, _, _ => none
 | k + 1, x0, x1, x2, x3, x20 => if x20 = true then ((clavigerlaw12_awake.f k).bind fun t1 => (some t1)) else ((kdf_Counter.f k x0 x1 (wrap64 (x2))).bind fun bt2 => ((kdf_Counter.f k x0 x1 (wrap64 ((wrap64 (x2)) + (wrap64 (x3))))).bind fun bt3 => (if bt2.2 = 0 then (if bt3.2 = 0 then (if (bt2.1.size : Int) = (wrap64 (x2)) then (if (bt3.1.size : Int) = (wrap64 ((wrap64 (x2)) + (wrap64 (x3)))) then (if 0 ≤ (bt2.1.size : Int) then (if (bt2.1.size : Int) ≤ (bt3.1.size : Int) then (if (bt3.1.extract 0 ((bt2.1.size : Int) : Int).toNat).toList = bt2.1.toList then ((clavigerlaw12_awake.f k).bind fun t4 => (some t4)) else (some false)) else (none)) else (none)) else (some false)) else (some false)) else (some false)) else (if bt2.1.toList = ([] : List UInt8) then ((clavigerlaw12_awake.f k).bind fun t5 => (some t5)) else (some false)))))
def clavigerlaw12_KdfBegins.f (k : Nat) (a0 : ByteArray) (a1 : ByteArray) (a2 : Int) (a3 : Int) : Option (Bool) := if (a0.size : Int) > 100 then (clavigerlaw12_KdfBegins.j0 k a0 a1 a2 a3 true) else (clavigerlaw12_KdfBegins.j0 k a0 a1 a2 a3 (decide ((a1.size : Int) > 100)))
theorem clavigerlaw12_KdfBegins.mono_l : ∀ k, (∀ y6 y7 y8 y9 y10, LeO (clavigerlaw12_KdfBegins.j0 k y6 y7 y8 y9 y10) (clavigerlaw12_KdfBegins.j0 (k + 1) y6 y7 y8 y9 y10))
 | 0 => fun _ _ _ _ _ r h => by simp [clavigerlaw12_KdfBegins.j0] at h
 | k + 1 => by
  have ih0 := clavigerlaw12_KdfBegins.mono_l k
  ·intro y6 y7 y8 y9 y10
   unfold clavigerlaw12_KdfBegins.j0
   repeat' first
   | (with_reducible exact ih0 _ _ _ _ _)
   | (with_reducible exact clavigerlaw12_awake.mono _)
   | (with_reducible exact kdf_Counter.mono _ _ _ _)
   | (with_reducible exact LeO.refl _)
   | (with_reducible exact LeO.none _)
   | (with_reducible refine LeO.ite ?_ ?_)
   | (with_reducible refine LeO.bind ?_ (fun _ => ?_))
theorem clavigerlaw12_KdfBegins.mono : ∀ a0 a1 a2 a3 k, LeO (clavigerlaw12_KdfBegins.f k a0 a1 a2 a3) (clavigerlaw12_KdfBegins.f (k + 1) a0 a1 a2 a3) := by
 intro a0 a1 a2 a3 k
 have ih0 := clavigerlaw12_KdfBegins.mono_l k
 unfold clavigerlaw12_KdfBegins.f
 repeat' first
   | (with_reducible exact ih0 _ _ _ _ _)
   | (with_reducible exact clavigerlaw12_awake.mono _)
   | (with_reducible exact kdf_Counter.mono _ _ _ _)
   | (with_reducible exact LeO.refl _)
   | (with_reducible exact LeO.none _)
   | (with_reducible refine LeO.ite ?_ ?_)
   | (with_reducible refine LeO.bind ?_ (fun _ => ?_))
/-- THE ONE PURE STATEMENT of clavigerlaw12_KdfBegins: yours. -/
def clavigerlaw12_KdfBegins.Pure : Prop := ∀ (a0 : ByteArray) (a1 : ByteArray) (a2 : Int) (a3 : Int), a0.size ≤ 140737488351232 → a1.size ≤ 140737488351232 → (Lit.int .u8 a2).wf = true → (Lit.int .u8 a3).wf = true → ∃ k, clavigerlaw12_KdfBegins.f k a0 a1 a2 a3 = some true
end Go.Proofs.Ytokkhnjedmlbhaa.Pr
end
section
namespace Go.Proofs.Ytokkhnjedmlbhaa.Pr
open Go.RowKit Go.Proofs.YtokkhnjedmlbhaaW.PrintWords Go.Proofs.YtokkhnjedmlbhaaW.PrintLast Go.Proofs.YtokkhnjedmlbhaaW.PrintMore
attribute [local go_sem] max2_int min2_int max_two min_two max_three min_three max_four min_four   -- for this text's walks alone
set_option linter.unusedVariables false
set_option linter.unusedSimpArgs false

def clavigerlaw12_KdfTells.j0 : Nat → ByteArray → ByteArray → ByteArray → Int → Bool → Option (Bool)
 | 0, _, _, _, _, _ => none
 | k + 1, x0, x1, x2, x3, x33 => if x33 = true then ((kdf_Rounds.f x3).bind fun t1 => ((clavigerref12_Rounds.f k x3).bind fun t2 => (if t1 = t2 then ((clavigerlaw12_awake.f k).bind fun t3 => (some t3)) else (some false)))) else ((kdf_Counter.f k x0 x1 x3).bind fun bt4 => ((clavigerref12_Counter.f k x0 x1 x3).bind fun bt5 => (if bt4.1.toList = bt5.1.toList then (if bt4.2 = bt5.2 then ((kdf_Rounds.f x3).bind fun t6 => ((clavigerref12_Rounds.f k x3).bind fun t7 => (if t6 = t7 then ((kdf_Fixed.f x1 x2 x3).bind fun t8 => ((clavigerref12_Fixed.f k x1 x2 x3).bind fun t9 => (if t8.toList = t9.toList then ((clavigerlaw12_awake.f k).bind fun t10 => (some t10)) else (some false)))) else (some false)))) else (some false)) else (some false))))
def clavigerlaw12_KdfTells.f (k : Nat) (a0 : ByteArray) (a1 : ByteArray) (a2 : ByteArray) (a3 : Int) : Option (Bool) := if (a0.size : Int) > 100 then (clavigerlaw12_KdfTells.j0 k a0 a1 a2 a3 true) else (if (a1.size : Int) > 100 then (clavigerlaw12_KdfTells.j0 k a0 a1 a2 a3 true) else (if (a2.size : Int) > 100 then (clavigerlaw12_KdfTells.j0 k a0 a1 a2 a3 true) else (if a3 > 100 then (clavigerlaw12_KdfTells.j0 k a0 a1 a2 a3 (decide (a3 ≤ 4080))) else (clavigerlaw12_KdfTells.j0 k a0 a1 a2 a3 false))))
theorem clavigerlaw12_KdfTells.mono_l : ∀ k, (∀ y11 y12 y13 y14 y15, LeO (clavigerlaw12_KdfTells.j0 k y11 y12 y13 y14 y15) (clavigerlaw12_KdfTells.j0 (k + 1) y11 y12 y13 y14 y15))
 | 0 => fun _ _ _ _ _ r h => by simp [clavigerlaw12_KdfTells.j0] at h
 | k + 1 => by
  have ih0 := clavigerlaw12_KdfTells.mono_l k
  ·intro y11 y12 y13 y14 y15
   unfold clavigerlaw12_KdfTells.j0
   repeat' first
   | (with_reducible exact ih0 _ _ _ _ _)
   | (with_reducible exact clavigerlaw12_awake.mono _)
   | (with_reducible exact clavigerref12_Counter.mono _ _ _ _)
   | (with_reducible exact clavigerref12_Fixed.mono _ _ _ _)
   | (with_reducible exact clavigerref12_Rounds.mono _ _)
   | (with_reducible exact kdf_Counter.mono _ _ _ _)
   | (with_reducible exact LeO.refl _)
   | (with_reducible exact LeO.none _)
   | (with_reducible refine LeO.ite ?_ ?_)
   | (with_reducible refine LeO.bind ?_ (fun _ => ?_))
theorem clavigerlaw12_KdfTells.mono : ∀ a0 a1 a2 a3 k, LeO (clavigerlaw12_KdfTells.f k a0 a1 a2 a3) (clavigerlaw12_KdfTells.f (k + 1) a0 a1 a2 a3) := by
 intro a0 a1 a2 a3 k
 have ih0 := clavigerlaw12_KdfTells.mono_l k
 unfold clavigerlaw12_KdfTells.f
 repeat' first
   | (with_reducible exact ih0 _ _ _ _ _)
   | (with_reducible exact clavigerlaw12_awake.mono _)
   | (with_reducible exact clavigerref12_Counter.mono _ _ _ _)
   | (with_reducible exact clavigerref12_Fixed.mono _ _ _ _)
   | (with_reducible exact clavigerref12_Rounds.mono _ _)
   | (with_reducible exact kdf_Counter.mono _ _ _ _)
   | (with_reducible exact LeO.refl _)
   | (with_reducible exact LeO.none _)
   | (with_reducible refine LeO.ite ?_ ?_)
   | (with_reducible refine LeO.bind ?_ (fun _ => ?_))
/-- THE ONE PURE STATEMENT of clavigerlaw12_KdfTells: yours. -/
def clavigerlaw12_KdfTells.Pure : Prop := ∀ (a0 : ByteArray) (a1 : ByteArray) (a2 : ByteArray) (a3 : Int), a0.size ≤ 140737488351232 → a1.size ≤ 140737488351232 → a2.size ≤ 140737488351232 → (Lit.int .i64 a3).wf = true → ∃ k, clavigerlaw12_KdfTells.f k a0 a1 a2 a3 = some true
end Go.Proofs.Ytokkhnjedmlbhaa.Pr
end
section
namespace Go.Proofs.Ytokkhnjedmlbhaa.M
open Go.RowKit Go.Proofs.Ytokkhnjedmlbhaa.Pr Go.Proofs.YtokkhnjedmlbhaaW.PrintWords Go.Proofs.YtokkhnjedmlbhaaW.PrintLast Go.Proofs.YtokkhnjedmlbhaaW.PrintMore Go.Proofs.YtokkhnjedmlbhaaGf
set_option linter.unusedSimpArgs false
theorem ctr_pre {key fixed : ByteArray} (ok : okN key.size) {n m : Nat} (h1 : 1 ≤ n) (h2 : n + m ≤ 4080) : ((ctrX key fixed ((n + m : Nat) : Int)).1.extract 0 n) = (ctrX key fixed (n : Int)).1 ∧ (ctrX key fixed (n : Int)).1.size = n ∧ (ctrX key fixed (n : Int)).2 = 0 := by
  have hk := (ks_facts ok).2.1
  have r (q : Nat) (hq : 1 ≤ q) (hq2 : q ≤ 4080) : ctrX key fixed (q : Int) = ((catB (kTs (ksB key) fixed ((q + 15) / 16))).extract 0 q, 0) := by
    have e : rndK (q : Int) = (q + 15) / 16 := by unfold rndK; rw [if_neg (by omega), if_neg (by omega), Int.toNat_natCast]
    unfold ctrX
    rw [if_pos ok, e, if_neg (by omega), Int.toNat_natCast]
  have z (q : Nat) : (catB (kTs (ksB key) fixed q)).size = 16 * q := kTs_size hk fixed q
  rw [r n h1 (by omega), r (n + m) (by omega) h2]
  refine ⟨?_, by rw [ByteArray.size_extract, z]; omega, rfl⟩
  have e : kTs (ksB key) fixed ((n + m + 15) / 16) = kTs (ksB key) fixed ((n + 15) / 16) ++ (List.range ((n + m + 15) / 16 - (n + 15) / 16)).map fun i => kT (ksB key) fixed ((n + 15) / 16 + i) := by
    have hq : (n + m + 15) / 16 = (n + 15) / 16 + ((n + m + 15) / 16 - (n + 15) / 16) := by omega
    conv => lhs; rw [hq]
    unfold kTs
    rw [List.range_add, List.map_append, List.map_map]
    rfl
  show ((catB (kTs (ksB key) fixed ((n + m + 15) / 16))).extract 0 (n + m)).extract 0 n = _
  have hz := z ((n + 15) / 16)
  rw [e, cat_app, extract_nb, extract_nb, extract_nb, nb_mkB (isB_drop (isB_take (isB_nb _) _) _), nb_append, List.drop_zero, List.drop_zero, List.drop_zero, List.take_take, Nat.min_eq_left (by omega), List.take_append_of_le_length (by rw [nb_length]; omega)]
end Go.Proofs.Ytokkhnjedmlbhaa.M
end
section
namespace Go.Proofs.Ytokkhnjedmlbhaa.M
open Go.RowKit Go.Proofs.Ytokkhnjedmlbhaa.Pr Go.Proofs.YtokkhnjedmlbhaaW.PrintWords Go.Proofs.YtokkhnjedmlbhaaW.PrintLast Go.Proofs.YtokkhnjedmlbhaaW.PrintMore Go.Proofs.YtokkhnjedmlbhaaGf
set_option linter.unusedSimpArgs false
/-- The key of a purpose. -/
def dkT (kek : ByteArray) (p : Int) : ByteArray := (ctrX kek (inX p (kek.size : Int)) (kek.size : Int)).1
def dkX (kek : ByteArray) (p : Int) : ByteArray × Int := if okN kek.size then if p = 0 ∨ p = 1 then (dkT kek p, 0) else (⟨#[]⟩, 1) else (⟨#[]⟩, 2)
def dksX (kek : ByteArray) : ByteArray × ByteArray × Int := if okN kek.size then (dkT kek 0, dkT kek 1, 0) else (⟨#[]⟩, ⟨#[]⟩, 2)
theorem okI {n : Nat} (h : okN n) : (n : Int) = 16 ∨ (n : Int) = 24 ∨ (n : Int) = 32 := by rcases h with h | h | h <;> omega
theorem inX_size (p n : Int) : (inX p n).size ≤ 7 := by
  unfold inX
  split
  · rw [mkB_size]; exact Nat.le_refl 7
  · decide
theorem inX_ne {p n : Int} (hp : p = 0 ∨ p = 1) (hn : n = 16 ∨ n = 24 ∨ n = 32) : (inX p n).toList ≠ ([] : List UInt8) := by
  have hs : (inX p n).size = 7 := by unfold inX; rw [if_pos ⟨hp, hn⟩, mkB_size]; rfl
  rw [tl_eq]
  intro e
  have := congrArg List.length e
  rw [Array.length_toList] at this
  have h2 : (inX p n).data.size = (inX p n).size := rfl
  rw [h2, hs] at this
  cases this
theorem dk_ok {kek : ByteArray} (ok : okN kek.size) (p : Int) : ctrX kek (inX p (kek.size : Int)) (kek.size : Int) = (dkT kek p, 0) ∧ (dkT kek p).size = kek.size := by
  have h1 : 1 ≤ kek.size := by rcases ok with h | h | h <;> omega
  have h2 : kek.size + 0 ≤ 4080 := by rcases ok with h | h | h <;> omega
  obtain ⟨_, q2, q3⟩ := ctr_pre (fixed := inX p (kek.size : Int)) ok h1 h2
  exact ⟨Prod.ext rfl q3, q2⟩
theorem dkey_c (kek : ByteArray) (p : Int) : Ev (fun k => derive_Key.f k kek p) (dkX kek p) := by
  unfold derive_Key.f dkX
  refine evs (rounds_i _) ?_
  by_cases ok : okN kek.size
  · rw [if_pos ok]
    refine evn (by rw [rnd_ok ok]; omega) (evs (g := derive_Input.f p (kek.size : Int)) rfl ?_)
    by_cases hp : p = 0 ∨ p = 1
    · rw [if_pos hp]
      have h := kctr_c kek (inX p (kek.size : Int)) (by have := inX_size p (kek.size : Int); omega) (kek.size : Int)
      rw [(dk_ok ok p).1] at h
      exact evn (inX_ne hp (okI ok)) (evb h (Ev.now _))
    · rw [if_neg hp]
      have e : inX p (kek.size : Int) = ⟨#[]⟩ := by unfold inX; rw [if_neg (fun h => hp h.1)]
      rw [e]
      exact evp nil_list (Ev.now _)
  · rw [if_neg ok]
    exact evp (rnd_no ok) (Ev.now _)
theorem dkeys_c (kek : ByteArray) : Ev (fun k => derive_Keys.f k kek) (dksX kek) := by
  unfold derive_Keys.f dksX
  have h0 := dkey_c kek 0
  have h1 := dkey_c kek 1
  unfold dkX at h0 h1
  by_cases ok : okN kek.size
  · rw [if_pos ok, if_pos (.inl rfl)] at h0
    rw [if_pos ok, if_pos (.inr rfl)] at h1
    rw [if_pos ok]
    exact evb h0 (evp rfl (evb h1 (evp rfl (Ev.now _))))
  · rw [if_neg ok] at h0 ⊢
    exact evb h0 (evn (by decide) (Ev.now _))
theorem rin_c (p n : Int) : Ev (fun k => clavigerref35_Input.f k p n) (inX p n) := by
  have bad (h : ¬ ((p = 0 ∨ p = 1) ∧ (n = 16 ∨ n = 24 ∨ n = 32))) : Ev (fun k => clavigerref35_Input.j0 k p n true) (inX p n) := by
    have e : inX p n = ⟨#[]⟩ := by unfold inX; rw [if_neg h]
    rw [e]
    exact Ev.step (f := fun _ => some (⟨#[]⟩ : ByteArray)) (fun k => by simp only [clavigerref35_Input.j0]; rw [if_pos True.intro]) (Ev.now _)
  have good (hp : p = 0 ∨ p = 1) (hn : n = 16 ∨ n = 24 ∨ n = 32) : Ev (fun k => clavigerref35_Input.j0 k p n false) (inX p n) := by
    obtain ⟨q, hq, rfl⟩ : ∃ q : Nat, q < 2 ∧ p = (q : Int) := ⟨p.toNat, by omega, by omega⟩
    obtain ⟨m, hm, rfl⟩ : ∃ m : Nat, (m = 16 ∨ m = 24 ∨ m = 32) ∧ n = (m : Int) := ⟨n.toNat, by omega, by omega⟩
    have e1 : IntKind.u64.wrap ((q : Nat) : Int) = ((q : Nat) : Int) := by rw [IntKind.wrap_u64]; omega
    have e2 : IntKind.u64.wrap (wrap64 (Int.tdiv (m : Int) 8)) = ((m / 8 : Nat) : Int) := by rw [Int.tdiv_eq_ediv_of_nonneg (by omega), wrap_id (by omega) (by omega), IntKind.wrap_u64]; omega
    have e3 : IntKind.u64.wrap (wrap64 (8 * (m : Int))) = ((8 * m : Nat) : Int) := by rw [wrap_id (by omega) (by omega), IntKind.wrap_u64]; omega
    have l (u : Nat) : (mkB (lowL u 2)).size = 2 := by rw [mkB_size, lowL_length]
    have r : ((mkB (lowL q 2) ++ (⟨#[0]⟩ : ByteArray)) ++ mkB (lowL (m / 8) 2)) ++ mkB (lowL (8 * m) 2) = inX (q : Int) (m : Int) := by
      obtain rfl | rfl : q = 0 ∨ q = 1 := by omega
      · rcases hm with rfl | rfl | rfl <;> decide +kernel
      · rcases hm with rfl | rfl | rfl <;> decide +kernel
    rw [← r]
    refine Ev.step (f := fun k => (clavigerref01_Put.f k ((q : Nat) : Int) 2).bind fun t1 => (if t1.size + 1 ≤ 9223372036854775807 then ((clavigerref01_Put.f k ((m / 8 : Nat) : Int) 2).bind fun t2 => (if (t1 ++ (⟨#[0]⟩ : ByteArray)).size + t2.size ≤ 9223372036854775807 then ((clavigerref01_Put.f k ((8 * m : Nat) : Int) 2).bind fun t3 => (if ((t1 ++ (⟨#[0]⟩ : ByteArray)) ++ t2).size + t3.size ≤ 9223372036854775807 then (some (((t1 ++ (⟨#[0]⟩ : ByteArray)) ++ t2) ++ t3)) else (none))) else (none))) else (none))) (fun k => by simp only [clavigerref35_Input.j0, e1, e2, e3]; rw [if_neg (by simp)]) ?_
    have z1 : (⟨#[0]⟩ : ByteArray).size = 1 := rfl
    refine evb (rput_c q 2 (by omega) (by omega) (by omega)) (evp (by rw [l]; omega) (evb (rput_c (m / 8) 2 (by omega) (by omega) (by omega)) (evp (by rw [ByteArray.size_append, l, l, z1]; omega) (evb (rput_c (8 * m) 2 (by omega) (by omega) (by omega)) (evp (by rw [ByteArray.size_append, ByteArray.size_append, l, l, l, z1]; omega) (Ev.now _))))))
  unfold clavigerref35_Input.f
  by_cases h1 : p < 0
  · exact evp h1 (bad (fun h => by omega))
  · refine evn h1 ?_
    by_cases h2 : p > 1
    · exact evp h2 (bad (fun h => by omega))
    · refine evn h2 ?_
      by_cases h3 : n = 16
      · exact evp h3 (good (by omega) (by omega))
      · refine evn h3 ?_
        by_cases h4 : n = 24
        · exact evp h4 (good (by omega) (by omega))
        · refine evn h4 ?_
          by_cases h5 : n = 32
          · rw [show (n != 32) = false by rw [h5]; rfl]; exact good (by omega) (by omega)
          · rw [show (n != 32) = true from bne_iff_ne.mpr h5]; exact bad (fun h => by omega)
theorem rdkey_c (kek : ByteArray) (p : Int) : Ev (fun k => clavigerref35_Key.f k kek p) (dkX kek p) := by
  have go (ok : okN kek.size) : Ev (fun k => clavigerref35_Key.j0 k kek p false) (if p = 0 ∨ p = 1 then (dkT kek p, 0) else (⟨#[]⟩, 1)) := by
    have bad (h : ¬ (p = 0 ∨ p = 1)) : Ev (fun k => clavigerref35_Key.j1 k kek p true) (if p = 0 ∨ p = 1 then (dkT kek p, 0) else (⟨#[]⟩, 1)) := by
      rw [if_neg h]
      exact Ev.step (f := fun _ => some ((⟨#[]⟩ : ByteArray), 1)) (fun k => by simp only [clavigerref35_Key.j1]; rw [if_pos True.intro]) (Ev.now _)
    refine Ev.step (f := fun k => if p < 0 then clavigerref35_Key.j1 k kek p true else clavigerref35_Key.j1 k kek p (decide (p > 1))) (fun k => by simp only [clavigerref35_Key.j0]; rw [if_neg (by simp)]) ?_
    by_cases h1 : p < 0
    · exact evp h1 (bad (by omega))
    · refine evn h1 ?_
      by_cases h2 : p > 1
      · rw [decide_eq_true h2]; exact bad (by omega)
      · rw [decide_eq_false h2, if_pos (show p = 0 ∨ p = 1 by omega)]
        refine Ev.step (f := fun k => (clavigerref35_Input.f k p (kek.size : Int)).bind fun t1 => ((clavigerref12_Counter.f k kek t1 (kek.size : Int)).bind fun bt2 => (some (bt2.1, bt2.2)))) (fun k => by simp only [clavigerref35_Key.j1]; rw [if_neg (by simp)]) ?_
        have h := rctr_c kek (inX p (kek.size : Int)) (by have := inX_size p (kek.size : Int); omega) (kek.size : Int)
        rw [(dk_ok ok p).1] at h
        exact evb (rin_c p _) (evb h (Ev.now _))
  unfold clavigerref35_Key.f dkX
  by_cases h1 : kek.size = 16
  · rw [if_pos (.inl h1)]
    exact evp (by omega) (go (.inl h1))
  · refine evn (by omega) ?_
    by_cases h2 : kek.size = 24
    · rw [if_pos (.inr (.inl h2))]
      exact evp (by omega) (go (.inr (.inl h2)))
    · refine evn (by omega) ?_
      by_cases h3 : kek.size = 32
      · rw [if_pos (.inr (.inr h3)), show ((kek.size : Int) != 32) = false by rw [h3]; rfl]
        exact go (.inr (.inr h3))
      · rw [if_neg (by unfold okN; omega), show ((kek.size : Int) != 32) = true from bne_iff_ne.mpr (by omega)]
        exact Ev.step (f := fun _ => some ((⟨#[]⟩ : ByteArray), 2)) (fun k => by simp only [clavigerref35_Key.j0]; rw [if_pos True.intro]) (Ev.now _)
theorem rdkeys_c (kek : ByteArray) : Ev (fun k => clavigerref35_Keys.f k kek) (dksX kek) := by
  unfold clavigerref35_Keys.f dksX
  have h0 := rdkey_c kek 0
  have h1 := rdkey_c kek 1
  unfold dkX at h0 h1
  by_cases ok : okN kek.size
  · rw [if_pos ok, if_pos (.inl rfl)] at h0
    rw [if_pos ok, if_pos (.inr rfl)] at h1
    rw [if_pos ok]
    exact evb h0 (evb h1 (Ev.now _))
  · rw [if_neg ok] at h0 h1 ⊢
    exact evb h0 (evb h1 (Ev.now _))
end Go.Proofs.Ytokkhnjedmlbhaa.M
end
