-- several texts in one (by the session's program shake.py)
import Derived.Test.YtokkhnjedmlbhaaZXorP
import Derived.Test.YtokkhnjedmlbhaaZPrg01
import Derived.Test.YtokkhnjedmlbhaaZPrg01x
import Derived.Test.YtokkhnjedmlbhaaZPrg09
section
namespace Go.Proofs.Ytokkhnjedmlbhaa.Pr
open Go.RowKit Go.Proofs.YtokkhnjedmlbhaaW.PrintWords Go.Proofs.YtokkhnjedmlbhaaW.PrintLast Go.Proofs.YtokkhnjedmlbhaaW.PrintMore Go.Proofs.YtokkhnjedmlbhaaHw Go.Proofs.YtokkhnjedmlbhaaGf
/-- A row of bytes, made behind w0, that holds t. -/
def OB (w0 W : World) (v : Value) (t : ByteArray) : Prop := W.ownsRow w0.heap.size 5 1 v (bytesOf t).length (nums .u8 (bytesOf t))
theorem bytesOf_app (a b : ByteArray) : bytesOf (a ++ b) = bytesOf a ++ bytesOf b := by rw [M.bytesOf_nb, M.bytesOf_nb, M.bytesOf_nb, M.nb_append, List.map_append]
theorem strOf_bytes (t : ByteArray) : strOfNums (bytesOf t) = t := by rw [M.bytesOf_nb, M.strOfNums_cast, M.mkB_nb]
theorem OB.text {w0 W : World} {v : Value} {t : ByteArray} (h : OB w0 W v t) : (convert 66 9 v).run Try.prog W = .ok (.string t) W := by
  have h2 := own_string (P := Try.prog) (src := 66) (dst := 9) (e := 5) Try.underlying66 Try.underlying5 Try.underlying9 h
  rwa [strOf_bytes] at h2
theorem OB.below {w0 w w1 : World} {v : Value} {t : ByteArray} (h : OB w0 w v t) (hb : Below w.heap.size w w1) : OB w0 w1 v t := own_move h (fun q hq => hb.block q (World.ownsRow.lt h q hq).2)
theorem OB.drewN {w0 w : World} {v : Value} {t : ByteArray} (h : OB w0 w v t) (n : Nat) : OB w0 (w.drewN n) v t := own_move h (fun _ _ => rfl)
theorem info8 : (Try.prog.info? 5).map (fun i => (i.zero, i.size, i.bytes)) = some (some (.int .u8 0), 1, 1) := by kernel_rfl
theorem make8 (n : Nat) (hn : n ≤ 281474976710656) (W : World) : (Instr.makeSlice 66 (.int .i64 0) (.int .i64 (n : Int))).run Try.prog W = .ok (.slice (some ⟨W.heap.size, 0, none⟩) 0 n) (W.alloc (.cells (madeCells #[.int .u8 0] n) 5)) := by
  obtain ⟨i0, hi, hz0, hz1, hz2⟩ := info_parts info8
  have h := run_make (P := Try.prog) W 66 5 i0 (.int .u8 0) Try.underlying66 hi hz0 .i64 .i64 0 (n : Int) (by omega) (by omega) (by rw [hz2]; omega) (by omega)
  simp only [Int.toNat_natCast, Int.toNat_zero, hz1, Nat.mul_one] at h
  exact h
theorem OB.made (w0 W : World) (n : Nat) (hn : n ≤ 281474976710656) (hB : w0.heap.size ≤ W.heap.size) : OB w0 (W.alloc (.cells (madeCells #[.int .u8 0] n) 5)) (.slice (some ⟨W.heap.size, 0, none⟩) 0 n) ⟨#[]⟩ := by
  have h := World.ownsRow_made (base := w0.heap.size) (e := 5) (size := 1) W (madeCells #[.int .u8 0] n) n hB (by simp only [maxLen]; omega) (by simp [size_madeCells])
  show World.ownsRow _ _ _ 1 _ 0 []
  simpa using h
/-- A row of texts at its value: nothing is said of an empty one's place. -/
def SR (W : World) (A : Option Addr) (ps : List ByteArray) : Prop := 0 < ps.length → ∃ g, A = some ⟨g, 0, none⟩ ∧ StrRow W g ps
theorem SR.of_R {w : World} {base : Nat} {ok : Nat → Prop} {v : Value} {ps : List ByteArray} (h : Kd.R Kd.string 9 w base ok v ps) : ∃ A c, v = .slice A ps.length c ∧ SR w A ps := by
  by_cases hn : 0 < ps.length
  · obtain ⟨g, cap, rfl, _, hS⟩ := StrRow.of_R h hn
    exact ⟨_, _, rfl, fun _ => ⟨g, rfl, hS⟩⟩
  · obtain ⟨A, c, rfl⟩ := Kd.R_slice h
    exact ⟨A, c, rfl, fun h2 => absurd h2 hn⟩
theorem StrRow.grown8 {w w1 : World} {g : Nat} {ps : List ByteArray} {w0 : World} {v : Value} {t : ByteArray} (h : StrRow w g ps) (ho : OB w0 w v t) (hg : w.grownBy w1 v.ownBlock) : StrRow w1 g ps := by
  refine h.same (hg.block g h.lt (fun e => ?_))
  obtain ⟨cells, hc⟩ := own_typed ho g e.symm
  obtain ⟨cur, h1, _⟩ := h
  rw [hc] at h1
  simp at h1
theorem SR.grown8 {w w1 : World} {A : Option Addr} {ps : List ByteArray} {w0 : World} {v : Value} {t : ByteArray} (h : SR w A ps) (ho : OB w0 w v t) (hg : w.grownBy w1 v.ownBlock) : SR w1 A ps := fun hn => by
  obtain ⟨g, e, hS⟩ := h hn
  exact ⟨g, e, hS.grown8 ho hg⟩
theorem SR.below {w w1 : World} {A : Option Addr} {ps : List ByteArray} (h : SR w A ps) (hb : Below w.heap.size w w1) : SR w1 A ps := fun hn => by
  obtain ⟨g, e, hS⟩ := h hn
  exact ⟨g, e, hS.below hb⟩
section
variable {P : Program} {ops : Array Oper} {rest : List Oper} {o : Oper} {a : Act} {Q : Exit → Act → World → Prop}
theorem OB.append {w0 W : World} (hgd : o.guard = none) (s x : Operand) (ho : o.op = .call { callee := .builtin .append, args := #[s, x], argTypes := #[66, 9] })
    (v : Value) (t y : ByteArray) (hs : a.eval s = v) (hx : a.eval x = .string y) (HO : OB w0 W v t) (HB : Below w0.heap.size w0 W) (hl : t.size + y.size ≤ 140737488355328)
    (h : ∀ v1 w1, OB w0 w1 v1 (t ++ y) → Below w0.heap.size w0 w1 → W.grownBy w1 v.ownBlock → wpList Try.prog ops Q rest (a.put o.dst v1) w1) : wpList Try.prog ops Q (o :: rest) a W := by
  refine print_append_str (w0 := w0) w0.heap.size hgd s x 66 9 5 ho Try.underlying66 Try.underlying9 info8 v (bytesOf t) y hs hx HO HB HB.size (by rw [bytesOf_length]; exact hl) ?_
  intro v1 w1 h1 h2 h3
  refine h v1 w1 ?_ h2 h3
  unfold OB
  rw [bytesOf_app]
  exact h1
end
end Go.Proofs.Ytokkhnjedmlbhaa.Pr
end
section
namespace Go.Proofs.Ytokkhnjedmlbhaa.M
open Go.RowKit Go.Proofs.Ytokkhnjedmlbhaa.Pr Go.Proofs.YtokkhnjedmlbhaaW.PrintWords Go.Proofs.YtokkhnjedmlbhaaW.PrintLast Go.Proofs.YtokkhnjedmlbhaaW.PrintMore Go.Proofs.YtokkhnjedmlbhaaGf
set_option linter.unusedSimpArgs false
def okX (f : ByteArray → ByteArray) (s : ByteArray) : ByteArray × Int := if s.size = 16 then (f s, 0) else (⟨#[]⟩, 4)
/-- A block, encrypted; decrypted; or why not. -/
def encX (key s : ByteArray) : ByteArray × Int := if okN key.size then okX (encT (ksB key)) s else (⟨#[]⟩, 2)
theorem dropB {ks : List ByteArray} {i : Nat} (h : i < ks.length) : ks.drop i = ks.getD i ByteArray.empty :: ks.drop (i + 1) := by
  rw [List.drop_eq_getElem_cons h]
  simp [List.getD_eq_getElem?_getD, h]
theorem last_i (ks : List ByteArray) (i : Nat) (h : i < ks.length) (hb : ks.length ≤ 100) : (((i : Nat) : Int) == wrap64 ((ks.length : Int) - 1)) = (ks.drop (i + 1)).isEmpty := by
  rw [wrap_id (by omega) (by omega)]
  by_cases e : i + 1 = ks.length
  · rw [List.drop_of_length_le (by omega)]
    exact beq_iff_eq.mpr (by omega)
  · rw [dropB (show i + 1 < ks.length by omega)]
    exact beq_eq_false_iff_ne.mpr (by omega)
theorem rfwdL (ks : List ByteArray) (hb : ks.length ≤ 100) (d : Nat) : ∀ (i : Nat) (s : ByteArray), ks.length - i = d → i ≤ ks.length → Ev (fun k => clavigerref09_forward.l0 k ks s (i : Int)) (fwd (ks.drop i) s) := by
  induction d with
  | zero =>
    intro i s hd hi
    rw [List.drop_of_length_le (by omega)]
    refine Ev.step (f := fun _ => some s) (fun k => ?_) (Ev.now _)
    simp only [clavigerref09_forward.l0]
    rw [if_neg (by omega)]
  | succ d ih =>
    intro i s hd hi
    rw [dropB (show i < ks.length by omega)]
    refine Ev.step (f := fun k => (clavigerref07_Do.f k s (ks.getD i ByteArray.empty) ((ks.drop (i + 1)).isEmpty)).bind fun t269 => clavigerref09_forward.l0 k ks t269 ((i + 1 : Nat) : Int)) (fun k => ?_) ?_
    · simp only [clavigerref09_forward.l0]
      rw [if_pos (by omega), if_pos (by omega), last_i ks i (by omega) hb, rdO, wrap_id (by omega) (by omega)]
      rfl
    · exact evb (rdo_t _ _ _) (ih (i + 1) _ (by omega) (by omega))
theorem rfwd_c (ks : List ByteArray) (s : ByteArray) (h0 : 0 < ks.length) (hb : ks.length ≤ 100) : Ev (fun k => clavigerref09_forward.f k ks s) (encT ks s) := by
  unfold clavigerref09_forward.f
  refine evp (by omega) (evb (rkey_t _ _) ?_)
  have := rfwdL ks hb _ 1 (kyT s (rdOf ByteArray.empty ks 0)) rfl (by omega)
  cases ks with
  | nil => simp at h0
  | cons k ks => exact this
theorem rbwdL (ks : List ByteArray) (s : ByteArray) (hb : ks.length ≤ 100) : ∀ (i : Nat), i < ks.length → Ev (fun k => clavigerref09_backward.l0 k ks (bwd (ks.drop (i + 1)) s) (i : Int)) (decT ks s)
  | 0, hi => by
    refine Ev.step (f := fun k => (clavigerref07_Key.f k (bwd (ks.drop 1) s) (ks.getD 0 ByteArray.empty)).bind fun t390 => some t390) (fun k => ?_) ?_
    · simp only [clavigerref09_backward.l0]
      rw [if_neg (by omega), if_pos (by omega)]
      rfl
    · refine evb (rkey_t _ _) ?_
      cases ks with
      | nil => simp at hi
      | cons k ks => exact Ev.now _
  | i + 1, hi => by
    refine Ev.step (f := fun k => (clavigerref07_Undo.f k (bwd (ks.drop (i + 1 + 1)) s) (ks.getD (i + 1) ByteArray.empty) ((ks.drop (i + 1 + 1)).isEmpty)).bind fun t388 => clavigerref09_backward.l0 k ks t388 (i : Int)) (fun k => ?_) ?_
    · simp only [clavigerref09_backward.l0]
      rw [if_pos (by omega), if_pos (by omega), if_pos (by omega), last_i ks (i + 1) (by omega) hb, rdO, show wrap64 (((i + 1 : Nat) : Int) - 1) = (i : Int) by rw [wrap_id (by omega) (by omega)]; omega]
    · refine evb (run_t _ _ _) ?_
      have := rbwdL ks s hb i (by omega)
      rw [dropB (show i + 1 < ks.length by omega)] at this
      exact this
theorem rbwd_c (ks : List ByteArray) (s : ByteArray) (h0 : 0 < ks.length) (hb : ks.length ≤ 100) : Ev (fun k => clavigerref09_backward.f k ks s) (decT ks s) := by
  unfold clavigerref09_backward.f
  rw [show wrap64 ((ks.length : Int) - 1) = ((ks.length - 1 : Nat) : Int) by rw [wrap_id (by omega) (by omega)]; omega]
  have := rbwdL ks s hb (ks.length - 1) (by omega)
  rw [List.drop_of_length_le (by omega)] at this
  exact this
theorem renc_c (key s : ByteArray) : Ev (fun k => clavigerref09_Encrypt.f k key s) (encX key s) := by
  unfold clavigerref09_Encrypt.f encX okX
  by_cases h : okN key.size
  · rw [if_pos h]
    have hl := ks_len h
    refine evb (rkeys_c h) (evp rfl ?_)
    by_cases hs : s.size = 16
    · rw [if_pos hs]
      exact evp (by omega) (evb (rfwd_c _ _ (show 0 < (ksB key).length by omega) hl.2) (Ev.now _))
    · rw [if_neg hs]
      exact evn (by omega) (Ev.now _)
  · rw [if_neg h]
    exact evb (rkeys_n h) (evn (by decide) (Ev.now _))
theorem encX_ok {key s : ByteArray} (h : okN key.size) (hs : s.size = 16) : encX key s = (encT (ksB key) s, 0) := by unfold encX okX; rw [if_pos h, if_pos hs]
theorem nil_list : (⟨#[]⟩ : ByteArray).toList = ([] : List UInt8) := by decide +kernel
def cryT (ks : List ByteArray) (back : Bool) (s : ByteArray) : ByteArray := if back then decT ks s else encT ks s
def manyB (ks : List ByteArray) (back : Bool) (m : Nat) (s : ByteArray) : ByteArray := catB ((pcs 16 m s).map (cryT ks back))
def manyX (key s : ByteArray) (back : Bool) : ByteArray × Int := if okN key.size then if s.size % 16 = 0 then (manyB (ksB key) back (s.size / 16) s, 0) else (⟨#[]⟩, 4) else (⟨#[]⟩, 2)
theorem pcs_succ (n m : Nat) (s : ByteArray) : pcs n (m + 1) s = pcs n m s ++ [s.extract (n * m) (n * m + n)] := by
  unfold pcs; rw [List.range_succ, List.map_append]; rfl
theorem many_succ (ks : List ByteArray) (back : Bool) (m : Nat) (s : ByteArray) : manyB ks back (m + 1) s = manyB ks back m s ++ cryT ks back (s.extract (16 * m) (16 * m + 16)) := by
  unfold manyB
  rw [pcs_succ, List.map_append, cat_app, List.map_singleton, cat_one]
theorem cry_size {ks : List ByteArray} (h : all16 ks) (back : Bool) {s : ByteArray} (hs : s.size = 16) : (cryT ks back s).size = 16 := by
  unfold cryT
  cases back
  · exact enc_size h hs
  · exact dec_size h hs
theorem many_all {ks : List ByteArray} (h : all16 ks) (back : Bool) {m : Nat} {s : ByteArray} (hs : 16 * m ≤ s.size) : allS 16 ((pcs 16 m s).map (cryT ks back)) := by
  intro x hx
  obtain ⟨y, hy, rfl⟩ := List.mem_map.1 hx
  exact cry_size h back (pcs_size hs y hy)
theorem many_size {ks : List ByteArray} (h : all16 ks) (back : Bool) {m : Nat} {s : ByteArray} (hs : 16 * m ≤ s.size) : (manyB ks back m s).size = 16 * m := by
  unfold manyB
  rw [cat_size 16 _ (many_all h back hs), List.length_map, pcs_length]
theorem rmanyL {ks : List ByteArray} (hk : all16 ks) (h0 : 0 < ks.length) (hb : ks.length ≤ 100) (back : Bool) (s : ByteArray) (n : Nat) (hs : s.size = 16 * n) (hn : n < 1000000000) (d : Nat) : ∀ m, n - m = d → m ≤ n →
    Ev (fun k => clavigerref09_Many.l0 k s back ks (manyB ks back m s) ((16 * m : Nat) : Int)) (manyB ks back n s, 0) := by
  induction d with
  | zero =>
    intro m hd hm
    obtain rfl : m = n := by omega
    refine Ev.step (f := fun _ => some (manyB ks back m s, 0)) (fun k => ?_) (Ev.now _)
    simp only [clavigerref09_Many.l0]
    rw [if_neg (by omega)]
  | succ d ih =>
    intro m hd hm
    have hh := ih (m + 1) (by omega) (by omega)
    rw [many_succ] at hh
    have e : wrap64 (((16 * m : Nat) : Int) + 16) = ((16 * m + 16 : Nat) : Int) := by rw [wrap_id (by omega) (by omega)]; omega
    have e2 : ((16 * (m + 1) : Nat) : Int) = ((16 * m + 16 : Nat) : Int) := by omega
    rw [e2] at hh
    have hz : (s.extract (16 * m) (16 * m + 16)).size = 16 := by rw [ByteArray.size_extract]; omega
    have hc := cry_size hk back hz
    have hmz := many_size hk back (m := m) (s := s) (by omega)
    cases back with
    | true =>
      refine Ev.step (f := fun k => (clavigerref09_backward.f k ks (s.extract (16 * m) (16 * m + 16))).bind fun t395 => if (manyB ks true m s).size + t395.size ≤ 9223372036854775807 then clavigerref09_Many.l0 k s true ks (manyB ks true m s ++ t395) ((16 * m + 16 : Nat) : Int) else none) (fun k => ?_) ?_
      · simp only [clavigerref09_Many.l0]
        rw [if_pos (by omega), if_pos True.intro, if_pos (by omega), e, if_pos (by omega), if_pos (by omega), Int.toNat_natCast, Int.toNat_natCast]
      · refine evb (rbwd_c _ _ h0 hb) (evp ?_ hh)
        have : (decT ks (s.extract (16 * m) (16 * m + 16))).size = 16 := hc
        omega
    | false =>
      refine Ev.step (f := fun k => (clavigerref09_forward.f k ks (s.extract (16 * m) (16 * m + 16))).bind fun t395 => if (manyB ks false m s).size + t395.size ≤ 9223372036854775807 then clavigerref09_Many.l0 k s false ks (manyB ks false m s ++ t395) ((16 * m + 16 : Nat) : Int) else none) (fun k => ?_) ?_
      · simp only [clavigerref09_Many.l0]
        rw [if_pos (by omega), if_neg (by simp), if_pos (by omega), e, if_pos (by omega), if_pos (by omega), Int.toNat_natCast, Int.toNat_natCast]
      · refine evb (rfwd_c _ _ h0 hb) (evp ?_ hh)
        have : (encT ks (s.extract (16 * m) (16 * m + 16))).size = 16 := hc
        omega
theorem rmany_c (key s : ByteArray) (back : Bool) (hb : s.size < 1000000000) : Ev (fun k => clavigerref09_Many.f k key s back) (manyX key s back) := by
  unfold clavigerref09_Many.f manyX
  by_cases h : okN key.size
  · rw [if_pos h]
    have hl := ks_len h
    refine evb (rkeys_c h) (evp rfl ?_)
    by_cases hs : s.size % 16 = 0
    · rw [if_pos hs]
      exact evp (by omega) (rmanyL (ks_facts h).2.1 (by omega) hl.2 back s (s.size / 16) (by omega) (by omega) _ 0 rfl (by omega))
    · rw [if_neg hs]
      exact evn (by omega) (Ev.now _)
  · rw [if_neg h]
    exact evb (rkeys_n h) (evn (by decide) (Ev.now _))
end Go.Proofs.Ytokkhnjedmlbhaa.M
end
section
namespace Go.Proofs.Ytokkhnjedmlbhaa.M
/-- What comes ahead of block j of a chain; the chain up to there. -/
def ivJ (ks : List ByteArray) (s iv : ByteArray) : Nat → ByteArray
  | 0 => iv
  | j + 1 => encT ks (xorT (s.extract (16 * j) (16 * j + 16)) (ivJ ks s iv j))
def outJ (ks : List ByteArray) (s iv : ByteArray) : Nat → ByteArray
  | 0 => ⟨#[]⟩
  | j + 1 => outJ ks s iv j ++ ivJ ks s iv (j + 1)
theorem ivJ_size {ks : List ByteArray} (h : all16 ks) {s iv : ByteArray} (hi : iv.size = 16) : ∀ j, 16 * j ≤ s.size → (ivJ ks s iv j).size = 16
  | 0, _ => hi
  | j + 1, hj => enc_size h (by rw [xorT_size, ivJ_size h hi j (by omega), ByteArray.size_extract]; omega)
theorem outJ_size {ks : List ByteArray} (h : all16 ks) {s iv : ByteArray} (hi : iv.size = 16) : ∀ j, 16 * j ≤ s.size → (outJ ks s iv j).size = 16 * j
  | 0, _ => rfl
  | j + 1, hj => by
    show (outJ ks s iv j ++ ivJ ks s iv (j + 1)).size = _
    rw [ByteArray.size_append, outJ_size h hi j (by omega), ivJ_size h hi (j + 1) hj, Nat.mul_succ]
/-- Why there is no chain, or 0. -/
def rdyE (key iv s : ByteArray) : Int := if okN key.size then if iv.size = 16 then if s.size % 16 = 0 then 0 else 4 else 1 else 2
theorem rdy_ok {key iv s : ByteArray} (h : rdyE key iv s = 0) : okN key.size ∧ iv.size = 16 ∧ s.size % 16 = 0 := by
  unfold rdyE at h
  by_cases h1 : okN key.size
  · rw [if_pos h1] at h
    by_cases h2 : iv.size = 16
    · rw [if_pos h2] at h
      by_cases h3 : s.size % 16 = 0
      · exact ⟨h1, h2, h3⟩
      · rw [if_neg h3] at h; cases h
    · rw [if_neg h2] at h; cases h
  · rw [if_neg h1] at h; cases h
theorem pcs_get (n m : Nat) (s : ByteArray) (j : Nat) (hj : j < m) : (pcs n m s)[j]? = some (s.extract (n * j) (n * j + n)) := by simp [pcs, hj]
end Go.Proofs.Ytokkhnjedmlbhaa.M
namespace Go.Proofs.Ytokkhnjedmlbhaa.Pr
open Go.RowKit Go.Proofs.YtokkhnjedmlbhaaW.PrintWords Go.Proofs.YtokkhnjedmlbhaaW.PrintLast Go.Proofs.YtokkhnjedmlbhaaW.PrintMore Go.Proofs.YtokkhnjedmlbhaaHw Go.Proofs.YtokkhnjedmlbhaaGf
theorem cready_ok (key iv s : ByteArray) (w : World) (hk : M.okN key.size) (hi : iv.size = 16) (hs : s.size % 16 = 0) :
    Calls Try.prog 199 #[.string key, .string iv, .string s] w fun e w' => ∃ g : Nat, e = .returned (.tuple #[.pointer (some ⟨g, 0, none⟩), .int .i64 0]) ∧ IsK w' g key ∧ Below w.heap.size w w' := by
  have HK := Aside0.mk hk
  have e1 : (((iv.size : Nat) : Int) != 16) = false := by simp; omega
  have e2 : ((((s.size : Nat) : Int) % 16) != 0) = false := by simp; omega
  clear hk hi hs
  go_enter Try.func199, Try.ntmps199
  go_wp2_with (go_at_call 104; (with_reducible refine (new_ok _ _ HK.out).mono ?_); rintro e w1 ⟨g, rfl, hC, hb1⟩; have HC := Aside0.mk hC; have HB := Aside0.mk hb1; clear hC hb1)
  go_ret2
  exact ⟨g, rfl, HC.out, HB.out⟩
theorem cready_bad (key iv s : ByteArray) (w : World) (h : M.rdyE key iv s ≠ 0) :
    Calls Try.prog 199 #[.string key, .string iv, .string s] w fun e w' => e = .returned (.tuple #[.pointer none, .int .i64 (M.rdyE key iv s)]) ∧ Below w.heap.size w w' := by
  unfold M.rdyE at h ⊢
  by_cases hk : M.okN key.size
  · rw [if_pos hk] at h ⊢
    have HK := Aside0.mk hk
    by_cases hi : iv.size = 16
    · rw [if_pos hi] at h ⊢
      by_cases hs : s.size % 16 = 0
      · rw [if_pos hs] at h; exact absurd rfl h
      · rw [if_neg hs]
        have e1 : (((iv.size : Nat) : Int) != 16) = false := by simp; omega
        have e2 : ((((s.size : Nat) : Int) % 16) != 0) = true := by simp; omega
        clear h hk hi hs
        go_enter Try.func199, Try.ntmps199
        go_wp2_with (go_at_call 104; (with_reducible refine (new_ok _ _ HK.out).mono ?_); rintro e w1 ⟨g, rfl, hC, hb1⟩; have HB := Aside0.mk hb1; clear hC hb1)
        go_ret2
        exact ⟨rfl, HB.out⟩
    · rw [if_neg hi]
      have e1 : (((iv.size : Nat) : Int) != 16) = true := by simp; omega
      clear h hk hi
      go_enter Try.func199, Try.ntmps199
      go_wp2_with (go_at_call 104; (with_reducible refine (new_ok _ _ HK.out).mono ?_); rintro e w1 ⟨g, rfl, hC, hb1⟩; have HB := Aside0.mk hb1; clear hC hb1)
      go_ret2
      exact ⟨rfl, HB.out⟩
  · rw [if_neg hk] at h ⊢
    have HK := Aside0.mk hk
    clear h hk
    go_enter Try.func199, Try.ntmps199
    go_wp2_with (go_at_call 104; (with_reducible refine (new_bad _ _ HK.out).mono ?_); rintro e w1 ⟨rfl, hb1⟩; have HB := Aside0.mk hb1; clear hb1)
    go_ret2
    exact ⟨rfl, HB.out⟩
def cbc_Encrypt.f (a0 a1 a2 : ByteArray) : Option (ByteArray × Int) := if a2.size < 1000000 then some (if M.rdyE a0 a1 a2 = 0 then (M.outJ (M.ksB a0) a2 a1 (a2.size / 16), 0) else (⟨#[]⟩, M.rdyE a0 a1 a2)) else none
set_option maxHeartbeats 2000000 in
theorem cbc_enc (key iv s : ByteArray) (w : World) (hk : M.okN key.size) (hi : iv.size = 16) (hs : s.size % 16 = 0) (hb : s.size < 1000000) :
    Calls Try.prog 117 #[.string key, .string iv, .string s] w fun e w' => e = .returned (.tuple #[.string (M.outJ (M.ksB key) s iv (s.size / 16)), .int .i64 0]) ∧ Below w.heap.size w w' := by
  have hm : s.size = 16 * (s.size / 16) := by omega
  have hm2 : s.size / 16 < 100000 := by omega
  generalize s.size / 16 = m at *
  obtain ⟨kp, hp⟩ := Ev.rounds (M.pieces_m (n := 16) (by omega) (by omega) (by omega) hm)
  have HP : Aside0 (octets_Pieces.f kp s 16 = some (M.pcs 16 m s)) := ⟨hp⟩
  have hpl := M.pcs_length 16 m s
  have HK := Aside0.mk hk
  have HI := Aside0.mk hi
  have HM := Aside0.mk hm
  have HA := Aside0.mk (M.ks_facts hk).2.1
  have hmk := make8 s.size (by omega)
  have HG : Aside0 (∀ j, j < m → (M.pcs 16 m s)[j]? = some (s.extract (16 * j) (16 * j + 16))) := ⟨fun j hj => M.pcs_get 16 m s j hj⟩
  clear hp hk hi hs hm
  go_enter Try.func117, Try.ntmps117
  go_wp2_with (go_at_call 199; (with_reducible refine (cready_ok _ _ _ _ HK.out HI.out (by have := HM.out; omega)).mono ?_); rintro e w1 ⟨g, rfl, hC, hb1⟩; have HC := Aside0.mk hC; have HB1 := Aside0.mk hb1; clear hC hb1)
  have ho3 := OB.made w1 w1 s.size (by omega) (Nat.le_refl _)
  have hb3 : Below w1.heap.size w1 (w1.alloc (.cells (madeCells #[.int .u8 0] s.size) 5)) := below_alloc (Below.refl _ _) _
  generalize w1.alloc (.cells (madeCells #[.int .u8 0] s.size) 5) = w3 at *
  have HO3 := Aside0.mk ho3
  have HB3 := Aside0.mk hb3
  clear ho3 hb3 hmk
  go_wp2_with (go_at_call 186; (with_reducible refine (octets_Pieces.calls kp s 16 _ _ HP.out).mono ?_); rintro e w4 ⟨v0, rfl, hR, hb4⟩; obtain ⟨A, c, rfl, hS⟩ := SR.of_R hR; have HO4 := Aside0.mk (HO3.out.below hb4); have HS4 := Aside0.mk hS; have HB4 := Aside0.mk (below_then HB3.out HB3.out.size hb4); clear hR hb4 hS)
  clear HO3 HB3 HP
  go_loopw [1, 10, 29] (fun cv v i wr => ∃ (j : Nat), j ≤ m ∧ cv = .string (M.ivJ (M.ksB key) s iv j) ∧ i = .int .i64 j ∧ Aside0 (OB w1 wr v (M.outJ (M.ksB key) s iv j)) ∧ Aside0 (SR wr A (M.pcs 16 m s)) ∧ Aside0 (Below w1.heap.size w1 wr)) (fun _ _ i _ => m - (intOf i).toNat)
  case atStart => exact ⟨0, Nat.zero_le _, rfl, rfl, HO4, HS4, HB4⟩
  case round =>
    clear HO4 HS4 HB4
    obtain ⟨j, hj, rfl, rfl, HO, HS, HB⟩ := hrel
    by_cases hlt : j < m
    · obtain ⟨gp, rfl, hS⟩ := HS.out (by rw [hpl]; omega)
      have hcell := hS.cell j _ (HG.out j hlt)
      have HX : Aside0 (octets_Xor.f (s.extract (16 * j) (16 * j + 16)) (M.ivJ (M.ksB key) s iv j) = some (M.xorT (s.extract (16 * j) (16 * j + 16)) (M.ivJ (M.ksB key) s iv j))) := ⟨M.xor_c _ _ (by rw [ByteArray.size_extract]; omega)⟩
      have HZ : Aside0 ((M.xorT (s.extract (16 * j) (16 * j + 16)) (M.ivJ (M.ksB key) s iv j)).size = 16) := ⟨by rw [M.xorT_size, M.ivJ_size HA.out HI.out j (by have := HM.out; omega), ByteArray.size_extract]; have := HM.out; omega⟩
      have HE : Aside0 (M.encR key (M.xorT (s.extract (16 * j) (16 * j + 16)) (M.ivJ (M.ksB key) s iv j)) = (M.ivJ (M.ksB key) s iv (j + 1), 0)) := ⟨by unfold M.encR; rw [if_pos HZ.out]; rfl⟩
      have HL : Aside0 ((M.outJ (M.ksB key) s iv j).size + (M.ivJ (M.ksB key) s iv (j + 1)).size ≤ 140737488355328) := ⟨by have := HM.out; rw [M.outJ_size HA.out HI.out j (by omega), M.ivJ_size HA.out HI.out (j + 1) (by omega)]; omega⟩
      go_wp2_with (first | (go_at_call 170; (with_reducible refine (octets_Xor.calls _ _ _ _ HX.out).mono ?_); rintro e w5 ⟨rfl, hb5⟩; have HB5 := Aside0.mk (below_then HB.out HB.out.size hb5); have HO5 := Aside0.mk (HO.out.below hb5); have HS5 := Aside0.mk (HS.out.below hb5); clear hb5) | (go_at_call 106; (with_reducible refine (enc_any g key _ _ (HC.out.below HB5.out) HK.out).mono ?_); rintro e w6 ⟨rfl, hb6⟩; rw [HE.out]; have HB6 := Aside0.mk (below_then HB5.out HB5.out.size hb6); have HO6 := Aside0.mk (HO5.out.below hb6); have HS6 := Aside0.mk (HS5.out.below hb6); clear hb6) | (at_builtin; refine OB.append (w0 := w1) rfl _ _ rfl _ _ _ rfl rfl HO6.out HB6.out HL.out ?_))
      intro v1 w7 ho7 hb7 hg7
      have HO7 : Aside0 (OB w1 w7 v1 (M.outJ (M.ksB key) s iv (j + 1))) := ⟨ho7⟩
      have HS7 := Aside0.mk (HS6.out.grown8 HO6.out hg7)
      have HB7 := Aside0.mk hb7
      clear ho7 hb7 hg7 HO6 HS6 HB6 HO5 HS5 HB5 HO HS HB
      go_wp2
      exact ⟨⟨j + 1, hlt, rfl, by go_num, HO7, HS7, HB7⟩, by simp [intOf]; omega⟩
    · obtain rfl : j = m := by omega
      have hcv := HO.out.text
      go_wp2
      go_ret2
      exact ⟨rfl, HB1.out.trans (HB.out.mono HB1.out.size)⟩
theorem cbc_Encrypt.calls (a0 a1 a2 : ByteArray) (r0 : ByteArray) (r1 : Int) (w : World) (h : cbc_Encrypt.f a0 a1 a2 = some (r0, r1)) :
    Calls Try.prog 117 #[.string a0, .string a1, .string a2] w fun e w' => e = .returned (.tuple #[.string r0, .int .i64 r1]) ∧ Below w.heap.size w w' := by
  unfold cbc_Encrypt.f at h
  split at h
  case isFalse => cases h
  case isTrue hb =>
  by_cases hr : M.rdyE a0 a1 a2 = 0
  · rw [if_pos hr] at h
    obtain ⟨rfl, rfl⟩ := Prod.mk.inj (Option.some.inj h)
    obtain ⟨hk, hi, hs⟩ := M.rdy_ok hr
    exact cbc_enc a0 a1 a2 w hk hi hs hb
  · rw [if_neg hr] at h
    obtain ⟨rfl, rfl⟩ := Prod.mk.inj (Option.some.inj h)
    have hb2 : (M.rdyE a0 a1 a2 != 0) = true := bne_iff_ne.mpr hr
    have HR := Aside0.mk hr
    clear h hr hb
    go_enter Try.func117, Try.ntmps117
    go_wp2_with (go_at_call 199; (with_reducible refine (cready_bad _ _ _ _ HR.out).mono ?_); rintro e w1 ⟨rfl, hb1⟩; have HB := Aside0.mk hb1; clear hb1)
    go_ret2
    exact ⟨rfl, HB.out⟩
def cbc_Decrypt.f (a0 a1 a2 : ByteArray) : Option (ByteArray × Int) := if a2.size < 1000000 then some (if M.rdyE a0 a1 a2 = 0 then (M.xorT (M.manyB (M.ksB a0) true (a2.size / 16) a2) (a1 ++ a2), 0) else (⟨#[]⟩, M.rdyE a0 a1 a2)) else none
set_option maxHeartbeats 2000000 in
set_option maxRecDepth 100000 in
theorem cbc_dec (key iv s : ByteArray) (w : World) (hk : M.okN key.size) (hi : iv.size = 16) (hs : s.size % 16 = 0) (hb : s.size < 1000000) :
    Calls Try.prog 119 #[.string key, .string iv, .string s] w fun e w' => e = .returned (.tuple #[.string (M.xorT (M.manyB (M.ksB key) true (s.size / 16) s) (iv ++ s)), .int .i64 0]) ∧ Below w.heap.size w w' := by
  have hm : s.size = 16 * (s.size / 16) := by omega
  have hm2 : s.size / 16 < 100000 := by omega
  generalize s.size / 16 = m at *
  obtain ⟨kp, hp⟩ := Ev.rounds (M.pieces_m (n := 16) (by omega) (by omega) (by omega) hm)
  have HP : Aside0 (octets_Pieces.f kp s 16 = some (M.pcs 16 m s)) := ⟨hp⟩
  have hpl := M.pcs_length 16 m s
  have HK := Aside0.mk hk
  have HI := Aside0.mk hi
  have HM := Aside0.mk hm
  have HA := Aside0.mk (M.ks_facts hk).2.1
  have hmk := make8 s.size (by omega)
  have HG : Aside0 (∀ j, j < m → (M.pcs 16 m s)[j]? = some (s.extract (16 * j) (16 * j + 16))) := ⟨fun j hj => M.pcs_get 16 m s j hj⟩
  have HX : Aside0 (octets_Xor.f (M.manyB (M.ksB key) true m s) (iv ++ s) = some (M.xorT (M.manyB (M.ksB key) true m s) (iv ++ s))) := ⟨M.xor_c _ _ (by rw [M.many_size HA.out true (by omega)]; omega)⟩
  clear hp hk hi hs hm
  go_enter Try.func119, Try.ntmps119
  go_wp2_with (go_at_call 199; (with_reducible refine (cready_ok _ _ _ _ HK.out HI.out (by have := HM.out; omega)).mono ?_); rintro e w1 ⟨g, rfl, hC, hb1⟩; have HC := Aside0.mk hC; have HB1 := Aside0.mk hb1; clear hC hb1)
  have ho3 := OB.made w1 w1 s.size (by omega) (Nat.le_refl _)
  have hb3 : Below w1.heap.size w1 (w1.alloc (.cells (madeCells #[.int .u8 0] s.size) 5)) := below_alloc (Below.refl _ _) _
  generalize w1.alloc (.cells (madeCells #[.int .u8 0] s.size) 5) = w3 at *
  have HO3 := Aside0.mk ho3
  have HB3 := Aside0.mk hb3
  clear ho3 hb3 hmk
  go_wp2_with (go_at_call 186; (with_reducible refine (octets_Pieces.calls kp s 16 _ _ HP.out).mono ?_); rintro e w4 ⟨v0, rfl, hR, hb4⟩; obtain ⟨A, c, rfl, hS⟩ := SR.of_R hR; have HO4 := Aside0.mk (HO3.out.below hb4); have HS4 := Aside0.mk hS; have HB4 := Aside0.mk (below_then HB3.out HB3.out.size hb4); clear hR hb4 hS)
  clear HO3 HB3 HP
  go_loopw [10, 31] (fun v i wr => ∃ (j : Nat), j ≤ m ∧ i = .int .i64 j ∧ Aside0 (OB w1 wr v (M.manyB (M.ksB key) true j s)) ∧ Aside0 (SR wr A (M.pcs 16 m s)) ∧ Aside0 (Below w1.heap.size w1 wr)) (fun _ i _ => m - (intOf i).toNat)
  case atStart => exact ⟨0, Nat.zero_le _, rfl, HO4, HS4, HB4⟩
  case round =>
    clear HO4 HS4 HB4
    obtain ⟨j, hj, rfl, HO, HS, HB⟩ := hrel
    by_cases hlt : j < m
    · obtain ⟨gp, rfl, hS⟩ := HS.out (by rw [hpl]; omega)
      have hcell := hS.cell j _ (HG.out j hlt)
      have HE : Aside0 (M.decR key (s.extract (16 * j) (16 * j + 16)) = (M.cryT (M.ksB key) true (s.extract (16 * j) (16 * j + 16)), 0)) := ⟨by unfold M.decR; rw [if_pos (by rw [ByteArray.size_extract]; have := HM.out; omega)]; rfl⟩
      have HL : Aside0 ((M.manyB (M.ksB key) true j s).size + (M.cryT (M.ksB key) true (s.extract (16 * j) (16 * j + 16))).size ≤ 140737488355328) := ⟨by have := HM.out; rw [M.many_size HA.out true (by omega), M.cry_size HA.out true (by rw [ByteArray.size_extract]; omega)]; omega⟩
      go_wp2_with (first | (go_at_call 107; (with_reducible refine (dec_any g key _ _ (HC.out.below HB.out) HK.out).mono ?_); rintro e w6 ⟨rfl, hb6⟩; rw [HE.out]; have HB6 := Aside0.mk (below_then HB.out HB.out.size hb6); have HO6 := Aside0.mk (HO.out.below hb6); have HS6 := Aside0.mk (HS.out.below hb6); clear hb6) | (at_builtin; refine OB.append (w0 := w1) rfl _ _ rfl _ _ _ rfl rfl HO6.out HB6.out HL.out ?_))
      intro v1 w7 ho7 hb7 hg7
      have HO7 : Aside0 (OB w1 w7 v1 (M.manyB (M.ksB key) true (j + 1) s)) := ⟨by rw [M.many_succ]; exact ho7⟩
      have HS7 := Aside0.mk (HS6.out.grown8 HO6.out hg7)
      have HB7 := Aside0.mk hb7
      clear ho7 hb7 hg7 HO6 HS6 HB6 HO HS HB
      go_wp2
      exact ⟨⟨j + 1, hlt, by go_num, HO7, HS7, HB7⟩, by simp [intOf]; omega⟩
    · obtain rfl : j = m := by omega
      have hcv := HO.out.text
      have hcat : iv.size + s.size ≤ 9223372036854775807 := by have := HI.out; omega
      go_wp2_with (go_at_call 170; (with_reducible refine (octets_Xor.calls _ _ _ _ HX.out).mono ?_); rintro e w5 ⟨rfl, hb5⟩; have HB5 := Aside0.mk (below_then HB.out HB.out.size hb5); clear hb5)
      go_ret2
      exact ⟨rfl, HB1.out.trans (HB5.out.mono HB1.out.size)⟩
theorem cbc_Decrypt.calls (a0 a1 a2 : ByteArray) (r0 : ByteArray) (r1 : Int) (w : World) (h : cbc_Decrypt.f a0 a1 a2 = some (r0, r1)) :
    Calls Try.prog 119 #[.string a0, .string a1, .string a2] w fun e w' => e = .returned (.tuple #[.string r0, .int .i64 r1]) ∧ Below w.heap.size w w' := by
  unfold cbc_Decrypt.f at h
  split at h
  case isFalse => cases h
  case isTrue hb =>
  by_cases hr : M.rdyE a0 a1 a2 = 0
  · rw [if_pos hr] at h
    obtain ⟨rfl, rfl⟩ := Prod.mk.inj (Option.some.inj h)
    obtain ⟨hk, hi, hs⟩ := M.rdy_ok hr
    exact cbc_dec a0 a1 a2 w hk hi hs hb
  · rw [if_neg hr] at h
    obtain ⟨rfl, rfl⟩ := Prod.mk.inj (Option.some.inj h)
    have hb2 : (M.rdyE a0 a1 a2 != 0) = true := bne_iff_ne.mpr hr
    have HR := Aside0.mk hr
    clear h hr hb
    go_enter Try.func119, Try.ntmps119
    go_wp2_with (go_at_call 199; (with_reducible refine (cready_bad _ _ _ _ HR.out).mono ?_); rintro e w1 ⟨rfl, hb1⟩; have HB := Aside0.mk hb1; clear hb1)
    go_ret2
    exact ⟨rfl, HB.out⟩
end Go.Proofs.Ytokkhnjedmlbhaa.Pr
end
section
namespace Go.Proofs.Ytokkhnjedmlbhaa.Pr
open Go.RowKit Go.Proofs.YtokkhnjedmlbhaaW.PrintWords Go.Proofs.YtokkhnjedmlbhaaW.PrintLast Go.Proofs.YtokkhnjedmlbhaaW.PrintMore
attribute [local go_sem] max2_int min2_int max_two min_two max_three min_three max_four min_four   -- for this text's walks alone
set_option linter.unusedVariables false
set_option linter.unusedSimpArgs false

def clavigerlaw10_awake.f (k : Nat)  : Option (Bool) := (cbc_Encrypt.f (⟨#[48, 49, 50, 51, 52, 53, 54, 55, 56, 57, 97, 98, 99, 100, 101, 102]⟩ : ByteArray) (⟨#[0, 0, 0, 0, 0, 0, 0, 0, 0, 0, 0, 0, 0, 0, 0, 0]⟩ : ByteArray) (⟨#[102, 101, 100, 99, 98, 97, 57, 56, 55, 54, 53, 52, 51, 50, 49, 48]⟩ : ByteArray)).bind fun bt1 => ((clavigerref09_Encrypt.f k (⟨#[48, 49, 50, 51, 52, 53, 54, 55, 56, 57, 97, 98, 99, 100, 101, 102]⟩ : ByteArray) (⟨#[102, 101, 100, 99, 98, 97, 57, 56, 55, 54, 53, 52, 51, 50, 49, 48]⟩ : ByteArray)).bind fun bt2 => (if bt1.1.toList = bt2.1.toList then (some (bt1.2 == 0)) else (some false)))
theorem clavigerlaw10_awake.mono : ∀ k, LeO (clavigerlaw10_awake.f k ) (clavigerlaw10_awake.f (k + 1) ) := by
 intro  k
 unfold clavigerlaw10_awake.f
 repeat' first
   | (with_reducible exact clavigerref09_Encrypt.mono _ _ _)
   | (with_reducible exact LeO.refl _)
   | (with_reducible exact LeO.none _)
   | (with_reducible refine LeO.ite ?_ ?_)
   | (with_reducible refine LeO.bind ?_ (fun _ => ?_))
   | exact clavigerref09_Encrypt.mono _ _ _
   | exact LeO.none _
   | refine LeO.ite ?_ ?_
   | refine LeO.bind ?_ (fun _ => ?_)
set_option maxHeartbeats 8000000 in
set_option maxRecDepth 100000 in
theorem clavigerlaw10_awake.calls (k : Nat)  (r : Bool) (w : World) (h : clavigerlaw10_awake.f k  = some r) :
  Calls Try.prog 116 #[] w fun e w' => e = .returned (.bool r) ∧ Below w.heap.size w w' := by
 have HB := Aside0.mk (Below.refl w.heap.size w)
 have H : ((cbc_Encrypt.f (⟨#[48, 49, 50, 51, 52, 53, 54, 55, 56, 57, 97, 98, 99, 100, 101, 102]⟩ : ByteArray) (⟨#[0, 0, 0, 0, 0, 0, 0, 0, 0, 0, 0, 0, 0, 0, 0, 0]⟩ : ByteArray) (⟨#[102, 101, 100, 99, 98, 97, 57, 56, 55, 54, 53, 52, 51, 50, 49, 48]⟩ : ByteArray)).bind fun bt1 => ((clavigerref09_Encrypt.f k (⟨#[48, 49, 50, 51, 52, 53, 54, 55, 56, 57, 97, 98, 99, 100, 101, 102]⟩ : ByteArray) (⟨#[102, 101, 100, 99, 98, 97, 57, 56, 55, 54, 53, 52, 51, 50, 49, 48]⟩ : ByteArray)).bind fun bt2 => (if bt1.1.toList = bt2.1.toList then (some (bt1.2 == 0)) else (some false)))) = some r := h
 clear h
 replace H := Option.bind_eq_some_iff.mp H
 obtain ⟨⟨t1, t3⟩, A10, H⟩ := H
 replace H : ((clavigerref09_Encrypt.f k (⟨#[48, 49, 50, 51, 52, 53, 54, 55, 56, 57, 97, 98, 99, 100, 101, 102]⟩ : ByteArray) (⟨#[102, 101, 100, 99, 98, 97, 57, 56, 55, 54, 53, 52, 51, 50, 49, 48]⟩ : ByteArray)).bind fun bt2 => (if t1.toList = bt2.1.toList then (some (t3 == 0)) else (some false))) = some r := H
 have A1 := Aside0.mk A10
 clear A10
 replace H := Option.bind_eq_some_iff.mp H
 obtain ⟨⟨t2, t4⟩, A20, H⟩ := H
 replace H : (if t1.toList = t2.toList then (some (t3 == 0)) else (some false)) = some r := H
 have A2 := Aside0.mk A20
 clear A20
 by_cases c3 : t1.toList = t2.toList
 ·rw [if_pos c3] at H
  have c3b0 : (t1.toList == t2.toList) = true := beq_iff_eq.mpr c3
  have c3b1 : (t1.toList != t2.toList) = false := bne_eq_false_iff_eq.mpr c3
  clear c3
  obtain rfl := Option.some.inj H
  go_enter Try.func116, Try.ntmps116
  go_wp2_with (first | ((with_reducible refine gate_callee (f := 117) rfl ?_); refine goesL_ (some 8) rfl rfl Try.func117 (by kernel_rfl) rfl #[.string (⟨#[48, 49, 50, 51, 52, 53, 54, 55, 56, 57, 97, 98, 99, 100, 101, 102]⟩ : ByteArray), .string (⟨#[0, 0, 0, 0, 0, 0, 0, 0, 0, 0, 0, 0, 0, 0, 0, 0]⟩ : ByteArray), .string (⟨#[102, 101, 100, 99, 98, 97, 57, 56, 55, 54, 53, 52, 51, 50, 49, 48]⟩ : ByteArray)] rfl (by (try simp only [List.map_toArray, List.map_cons, List.map_nil]); first | done | rfl | (simp only [List.length_drop, List.length_take]; rfl) | (simp only [ByteArray.size_extract, Nat.min_self, Nat.sub_zero, ByteArray.size_append]; first | done | rfl)) ?_; (with_reducible refine (cbc_Encrypt.calls (⟨#[48, 49, 50, 51, 52, 53, 54, 55, 56, 57, 97, 98, 99, 100, 101, 102]⟩ : ByteArray) (⟨#[0, 0, 0, 0, 0, 0, 0, 0, 0, 0, 0, 0, 0, 0, 0, 0]⟩ : ByteArray) (⟨#[102, 101, 100, 99, 98, 97, 57, 56, 55, 54, 53, 52, 51, 50, 49, 48]⟩ : ByteArray) t1 t3 _ A1.out).mono ?_); rintro e w4 ⟨rfl, hb⟩; refine ⟨_, rfl, ?_⟩; have n0_ := Aside0.mk (below_step (by repeat (first | (with_reducible first | exact HB.out | apply below_alloc | apply pw_below_drewN | apply below_drew1) | exact HB.out)) hb); clear HB; have HB := n0_; clear n0_; (try clear hb); (try clear hb2); (try clear hk); (try clear hi)) | ((with_reducible refine gate_callee (f := 99) rfl ?_); refine goesL_ (some 12) rfl rfl Try.func99 (by kernel_rfl) rfl #[.string (⟨#[48, 49, 50, 51, 52, 53, 54, 55, 56, 57, 97, 98, 99, 100, 101, 102]⟩ : ByteArray), .string (⟨#[102, 101, 100, 99, 98, 97, 57, 56, 55, 54, 53, 52, 51, 50, 49, 48]⟩ : ByteArray)] rfl (by (try simp only [List.map_toArray, List.map_cons, List.map_nil]); first | done | rfl | (simp only [List.length_drop, List.length_take]; rfl) | (simp only [ByteArray.size_extract, Nat.min_self, Nat.sub_zero, ByteArray.size_append]; first | done | rfl)) ?_; (with_reducible refine (clavigerref09_Encrypt.calls k (⟨#[48, 49, 50, 51, 52, 53, 54, 55, 56, 57, 97, 98, 99, 100, 101, 102]⟩ : ByteArray) (⟨#[102, 101, 100, 99, 98, 97, 57, 56, 55, 54, 53, 52, 51, 50, 49, 48]⟩ : ByteArray) t2 t4 _ A2.out).mono ?_); rintro e w5 ⟨rfl, hb⟩; refine ⟨_, rfl, ?_⟩; have n0_ := Aside0.mk (below_step (by repeat (first | (with_reducible first | exact HB.out | apply below_alloc | apply pw_below_drewN | apply below_drew1) | exact HB.out)) hb); clear HB; have HB := n0_; clear n0_; (try clear hb); (try clear hb2); (try clear hk); (try clear hi)))
  go_ret
  exact ⟨by first | rfl | (simp [errW_none, errW_some] <;> rfl) | (simp [*, errW_none, errW_some] <;> rfl), by repeat (first | (with_reducible first | exact HB.out | apply below_alloc | apply pw_below_drewN | apply below_drew1) | exact HB.out)⟩
 ·rw [if_neg c3] at H
  have c3b0 : (t1.toList == t2.toList) = false := beq_eq_false_iff_ne.mpr c3
  have c3b1 : (t1.toList != t2.toList) = true := bne_iff_ne.mpr c3
  obtain rfl := Option.some.inj H
  go_enter Try.func116, Try.ntmps116
  go_wp2_with (first | ((with_reducible refine gate_callee (f := 117) rfl ?_); refine goesL_ (some 8) rfl rfl Try.func117 (by kernel_rfl) rfl #[.string (⟨#[48, 49, 50, 51, 52, 53, 54, 55, 56, 57, 97, 98, 99, 100, 101, 102]⟩ : ByteArray), .string (⟨#[0, 0, 0, 0, 0, 0, 0, 0, 0, 0, 0, 0, 0, 0, 0, 0]⟩ : ByteArray), .string (⟨#[102, 101, 100, 99, 98, 97, 57, 56, 55, 54, 53, 52, 51, 50, 49, 48]⟩ : ByteArray)] rfl (by (try simp only [List.map_toArray, List.map_cons, List.map_nil]); first | done | rfl | (simp only [List.length_drop, List.length_take]; rfl) | (simp only [ByteArray.size_extract, Nat.min_self, Nat.sub_zero, ByteArray.size_append]; first | done | rfl)) ?_; (with_reducible refine (cbc_Encrypt.calls (⟨#[48, 49, 50, 51, 52, 53, 54, 55, 56, 57, 97, 98, 99, 100, 101, 102]⟩ : ByteArray) (⟨#[0, 0, 0, 0, 0, 0, 0, 0, 0, 0, 0, 0, 0, 0, 0, 0]⟩ : ByteArray) (⟨#[102, 101, 100, 99, 98, 97, 57, 56, 55, 54, 53, 52, 51, 50, 49, 48]⟩ : ByteArray) t1 t3 _ A1.out).mono ?_); rintro e w6 ⟨rfl, hb⟩; refine ⟨_, rfl, ?_⟩; have n0_ := Aside0.mk (below_step (by repeat (first | (with_reducible first | exact HB.out | apply below_alloc | apply pw_below_drewN | apply below_drew1) | exact HB.out)) hb); clear HB; have HB := n0_; clear n0_; (try clear hb); (try clear hb2); (try clear hk); (try clear hi)) | ((with_reducible refine gate_callee (f := 99) rfl ?_); refine goesL_ (some 12) rfl rfl Try.func99 (by kernel_rfl) rfl #[.string (⟨#[48, 49, 50, 51, 52, 53, 54, 55, 56, 57, 97, 98, 99, 100, 101, 102]⟩ : ByteArray), .string (⟨#[102, 101, 100, 99, 98, 97, 57, 56, 55, 54, 53, 52, 51, 50, 49, 48]⟩ : ByteArray)] rfl (by (try simp only [List.map_toArray, List.map_cons, List.map_nil]); first | done | rfl | (simp only [List.length_drop, List.length_take]; rfl) | (simp only [ByteArray.size_extract, Nat.min_self, Nat.sub_zero, ByteArray.size_append]; first | done | rfl)) ?_; (with_reducible refine (clavigerref09_Encrypt.calls k (⟨#[48, 49, 50, 51, 52, 53, 54, 55, 56, 57, 97, 98, 99, 100, 101, 102]⟩ : ByteArray) (⟨#[102, 101, 100, 99, 98, 97, 57, 56, 55, 54, 53, 52, 51, 50, 49, 48]⟩ : ByteArray) t2 t4 _ A2.out).mono ?_); rintro e w7 ⟨rfl, hb⟩; refine ⟨_, rfl, ?_⟩; have n0_ := Aside0.mk (below_step (by repeat (first | (with_reducible first | exact HB.out | apply below_alloc | apply pw_below_drewN | apply below_drew1) | exact HB.out)) hb); clear HB; have HB := n0_; clear n0_; (try clear hb); (try clear hb2); (try clear hk); (try clear hi)))
  go_ret
  exact ⟨by first | rfl | (simp [errW_none, errW_some] <;> rfl) | (simp [*, errW_none, errW_some] <;> rfl), by repeat (first | (with_reducible first | exact HB.out | apply below_alloc | apply pw_below_drewN | apply below_drew1) | exact HB.out)⟩

end Go.Proofs.Ytokkhnjedmlbhaa.Pr
end
