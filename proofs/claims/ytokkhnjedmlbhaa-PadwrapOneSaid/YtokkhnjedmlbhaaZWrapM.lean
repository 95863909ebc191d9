-- several texts in one (by the session's program shake.py)
import Derived.Test.YtokkhnjedmlbhaaZXor
import Derived.Test.YtokkhnjedmlbhaaZAesM
import Derived.Test.YtokkhnjedmlbhaaZPrg05
import Derived.Test.YtokkhnjedmlbhaaZPrg01
import Derived.Test.YtokkhnjedmlbhaaZAesAdd
import Derived.Test.YtokkhnjedmlbhaaZWordM
import Derived.Test.YtokkhnjedmlbhaaZPrg01x
import Derived.Test.YtokkhnjedmlbhaaZPrg09
import Derived.Test.YtokkhnjedmlbhaaZPut
import Derived.Test.YtokkhnjedmlbhaaZFieldP
import Derived.Laws.BitsAllLaws
import Derived.Test.YtokkhnjedmlbhaaZPrg13
section
namespace Go.Proofs.Ytokkhnjedmlbhaa.Pr
open Go.RowKit Go.Proofs.YtokkhnjedmlbhaaW.PrintWords Go.Proofs.YtokkhnjedmlbhaaW.PrintLast Go.Proofs.YtokkhnjedmlbhaaW.PrintMore Go.Proofs.YtokkhnjedmlbhaaHw Go.Proofs.YtokkhnjedmlbhaaGf
/-- A row of bytes, made behind w0, that holds t. -/
def OB (w0 W : World) (v : Value) (t : ByteArray) : Prop := W.ownsRow w0.heap.size 5 1 v (bytesOf t).length (nums .u8 (bytesOf t))
theorem bytesOf_app (a b : ByteArray) : bytesOf (a ++ b) = bytesOf a ++ bytesOf b := by rw [M.bytesOf_nb, M.bytesOf_nb, M.bytesOf_nb, M.nb_append, List.map_append]
theorem OB.below {w0 w w1 : World} {v : Value} {t : ByteArray} (h : OB w0 w v t) (hb : Below w.heap.size w w1) : OB w0 w1 v t := own_move h (fun q hq => hb.block q (World.ownsRow.lt h q hq).2)
theorem OB.drewN {w0 w : World} {v : Value} {t : ByteArray} (h : OB w0 w v t) (n : Nat) : OB w0 (w.drewN n) v t := own_move h (fun _ _ => rfl)
theorem info8 : (Try.prog.info? 5).map (fun i => (i.zero, i.size, i.bytes)) = some (some (.int .u8 0), 1, 1) := by kernel_rfl
/-- A row of texts at its value: nothing is said of an empty one's place. -/
def SR (W : World) (A : Option Addr) (ps : List ByteArray) : Prop := 0 < ps.length → ∃ g, A = some ⟨g, 0, none⟩ ∧ StrRow W g ps
theorem SR.of_R {w : World} {base : Nat} {ok : Nat → Prop} {v : Value} {ps : List ByteArray} (h : Kd.R Kd.string 9 w base ok v ps) : ∃ A c, v = .slice A ps.length c ∧ SR w A ps := by
  by_cases hn : 0 < ps.length
  · obtain ⟨g, cap, rfl, _, hS⟩ := StrRow.of_R h hn
    exact ⟨_, _, rfl, fun _ => ⟨g, rfl, hS⟩⟩
  · obtain ⟨A, c, rfl⟩ := Kd.R_slice h
    exact ⟨A, c, rfl, fun h2 => absurd h2 hn⟩
theorem SR.below {w w1 : World} {A : Option Addr} {ps : List ByteArray} (h : SR w A ps) (hb : Below w.heap.size w w1) : SR w1 A ps := fun hn => by
  obtain ⟨g, e, hS⟩ := h hn
  exact ⟨g, e, hS.below hb⟩
section
variable {P : Program} {ops : Array Oper} {rest : List Oper} {o : Oper} {a : Act} {Q : Exit → Act → World → Prop}
theorem OB.append {w0 W : World} (hgd : o.guard = none) (s x : Operand) (ho : o.op = .call { callee := .builtin .append, args := #[s, x], argTypes := #[66, 9] })
    (v : Value) (t y : ByteArray) (hs : a.eval s = v) (hx : a.eval x = .string y) (HO : OB w0 W v t) (HB : Below w0.heap.size w0 W) (hl : t.size + y.size ≤ 140737488355328)
    (h : ∀ v1 w1, OB w0 w1 v1 (t ++ y) → Below w0.heap.size w0 w1 → W.grownBy w1 v.ownBlock → wpList Try.prog ops Q rest (a.put o.dst v1) w1) : wpList Try.prog ops Q (o :: rest) a W := by
  refine print_append_str (w0 := w0) w0.heap.size hgd s x 66 9 5 ho Try.underlying66 Try.underlying9 info8 v (bytesOf t) y hs hx HO HB HB.size (by rw [bytesOf_length]; exact hl) ?_
  intro v1 w1 h1 h2 h3
  refine h v1 w1 ?_ h2 h3
  unfold OB
  rw [bytesOf_app]
  exact h1
end
end Go.Proofs.Ytokkhnjedmlbhaa.Pr
end
section
namespace Go.Proofs.Ytokkhnjedmlbhaa.M
def dbN (g : Nat → Nat) (i : Nat) : Nat := if i < 15 then 2 * g i % 256 + g (i + 1) / 128 else (2 * g 15 % 256) ^^^ (g 0 / 128 * 135)
def dblT (b : ByteArray) : ByteArray := if b.size = 16 then T (dbN (bb b)) else ⟨#[]⟩
end Go.Proofs.Ytokkhnjedmlbhaa.M
end
section
namespace Go.Proofs.Ytokkhnjedmlbhaa.Pr
open Go.RowKit Go.Proofs.YtokkhnjedmlbhaaW.PrintWords Go.Proofs.YtokkhnjedmlbhaaW.PrintLast Go.Proofs.YtokkhnjedmlbhaaW.PrintMore Go.Proofs.YtokkhnjedmlbhaaHw Go.Proofs.YtokkhnjedmlbhaaGf
def clavigerref11_Double.f (b : ByteArray) : Option ByteArray := some (M.dblT b)
end Go.Proofs.Ytokkhnjedmlbhaa.Pr
end
section
namespace Go.Proofs.Ytokkhnjedmlbhaa.Pr
open Go.RowKit Go.Proofs.YtokkhnjedmlbhaaW.PrintWords Go.Proofs.YtokkhnjedmlbhaaW.PrintLast Go.Proofs.YtokkhnjedmlbhaaW.PrintMore
attribute [local go_sem] max2_int min2_int max_two min_two max_three min_three max_four min_four   -- for this text's walks alone
set_option linter.unusedVariables false
set_option linter.unusedSimpArgs false

def clavigerref11_Subkeys.f (k : Nat) (a0 : ByteArray) : Option (ByteArray × ByteArray × Int) := (clavigerref01_Zeros.f 16).bind fun t1 => ((clavigerref09_Encrypt.f k a0 t1).bind fun bt2 => (if bt2.2 = 0 then ((clavigerref11_Double.f bt2.1).bind fun t3 => ((clavigerref11_Double.f bt2.1).bind fun t4 => ((clavigerref11_Double.f t4).bind fun t5 => (some (t3, t5, 0))))) else (some ((⟨#[]⟩ : ByteArray), (⟨#[]⟩ : ByteArray), bt2.2))))
theorem clavigerref11_Subkeys.mono : ∀ a0 k, LeO (clavigerref11_Subkeys.f k a0) (clavigerref11_Subkeys.f (k + 1) a0) := by
 intro a0 k
 unfold clavigerref11_Subkeys.f
 repeat' first
   | (with_reducible exact clavigerref09_Encrypt.mono _ _ _)
   | (with_reducible exact LeO.refl _)
   | (with_reducible exact LeO.none _)
   | (with_reducible refine LeO.ite ?_ ?_)
   | (with_reducible refine LeO.bind ?_ (fun _ => ?_))
def clavigerref11_Tag.l0 : Nat → ByteArray → ByteArray → ByteArray → ByteArray → ByteArray → Option (ByteArray × Int)
 | 0, _, _, _, _, _ => none
 | k + 1, x0, x1, x6, x7, x9 => if (x1.size : Int) > 16 then (if 0 ≤ 16 then (if 16 ≤ (x1.size : Int) then ((clavigerref01_Xor.f k x9 (x1.extract 0 16)).bind fun t1 => ((clavigerref09_Encrypt.f k x0 t1).bind fun bt2 => (clavigerref11_Tag.l0 k x0 (x1.extract 16 x1.size) x6 x7 bt2.1))) else (none)) else (none)) else (if (x1.size : Int) = 16 then ((clavigerref01_Xor.f k x1 x6).bind fun t3 => ((clavigerref01_Xor.f k x9 t3).bind fun t4 => ((clavigerref09_Encrypt.f k x0 t4).bind fun bt5 => (some (bt5.1, 0))))) else (if x1.size + 1 ≤ 9223372036854775807 then ((clavigerref01_Pad.f k (x1 ++ (⟨#[128]⟩ : ByteArray)) 16).bind fun t6 => ((clavigerref01_Xor.f k t6 x7).bind fun t7 => ((clavigerref01_Xor.f k x9 t7).bind fun t8 => ((clavigerref09_Encrypt.f k x0 t8).bind fun bt9 => (some (bt9.1, 0)))))) else (none)))
def clavigerref11_Tag.f (k : Nat) (a0 : ByteArray) (a1 : ByteArray) : Option (ByteArray × Int) := (clavigerref11_Subkeys.f k a0).bind fun bt10 => (if bt10.2.2 = 0 then ((clavigerref01_Zeros.f 16).bind fun t11 => (clavigerref11_Tag.l0 k a0 a1 bt10.1 bt10.2.1 t11)) else (some ((⟨#[]⟩ : ByteArray), bt10.2.2)))
theorem clavigerref11_Tag.mono_l : ∀ k, (∀ y12 y13 y14 y15 y16, LeO (clavigerref11_Tag.l0 k y12 y13 y14 y15 y16) (clavigerref11_Tag.l0 (k + 1) y12 y13 y14 y15 y16))
 | 0 => fun _ _ _ _ _ r h => by simp [clavigerref11_Tag.l0] at h
 | k + 1 => by
  have ih0 := clavigerref11_Tag.mono_l k
  ·intro y12 y13 y14 y15 y16
   unfold clavigerref11_Tag.l0
   repeat' first
   | (with_reducible exact ih0 _ _ _ _ _)
   | (with_reducible exact clavigerref01_Pad.mono _ _ _)
   | (with_reducible exact clavigerref01_Xor.mono _ _ _)
   | (with_reducible exact clavigerref09_Encrypt.mono _ _ _)
   | (with_reducible exact clavigerref11_Subkeys.mono _ _)
   | (with_reducible exact LeO.refl _)
   | (with_reducible exact LeO.none _)
   | (with_reducible refine LeO.ite ?_ ?_)
   | (with_reducible refine LeO.bind ?_ (fun _ => ?_))
theorem clavigerref11_Tag.mono : ∀ a0 a1 k, LeO (clavigerref11_Tag.f k a0 a1) (clavigerref11_Tag.f (k + 1) a0 a1) := by
 intro a0 a1 k
 have ih0 := clavigerref11_Tag.mono_l k
 unfold clavigerref11_Tag.f
 repeat' first
   | (with_reducible exact ih0 _ _ _ _ _)
   | (with_reducible exact clavigerref01_Pad.mono _ _ _)
   | (with_reducible exact clavigerref01_Xor.mono _ _ _)
   | (with_reducible exact clavigerref09_Encrypt.mono _ _ _)
   | (with_reducible exact clavigerref11_Subkeys.mono _ _)
   | (with_reducible exact LeO.refl _)
   | (with_reducible exact LeO.none _)
   | (with_reducible refine LeO.ite ?_ ?_)
   | (with_reducible refine LeO.bind ?_ (fun _ => ?_))
def cmac_Double.f (k : Nat) (a0 : ByteArray) : Option (ByteArray) := if (a0.size : Int) = 16 then (if 0 ≤ 8 then (if 8 ≤ (a0.size : Int) then ((octets_Get.f k (a0.extract 0 8)).bind fun bt1 => ((octets_Get.f k (a0.extract 8 a0.size)).bind fun bt2 => ((octets_Put.f (Go.bits .or .u64 (IntKind.u64.wrap (bt1.1 * 2)) (bt2.1 / 9223372036854775808)) 8).bind fun t3 => ((octets_Put.f (Go.bits .xor .u64 (IntKind.u64.wrap (bt2.1 * 2)) (IntKind.u64.wrap ((bt1.1 / 9223372036854775808) * 135))) 8).bind fun t4 => (if t3.size + t4.size ≤ 9223372036854775807 then (some (t3 ++ t4)) else (none)))))) else (none)) else (none)) else (some (⟨#[]⟩ : ByteArray))
theorem cmac_Double.mono : ∀ a0 k, LeO (cmac_Double.f k a0) (cmac_Double.f (k + 1) a0) := by
 intro a0 k
 unfold cmac_Double.f
 repeat' first
   | (with_reducible exact octets_Get.mono _ _)
   | (with_reducible exact LeO.refl _)
   | (with_reducible exact LeO.none _)
   | (with_reducible refine LeO.ite ?_ ?_)
   | (with_reducible refine LeO.bind ?_ (fun _ => ?_))
def cmac_last.f (a0 : ByteArray) (a1 : ByteArray) (a2 : ByteArray) : Option (ByteArray) := if (a0.size : Int) = 16 then ((octets_Xor.f a0 a1).bind fun t1 => (some t1)) else (if a0.size + 1 ≤ 9223372036854775807 then ((octets_Pad.f (a0 ++ (⟨#[128]⟩ : ByteArray)) 16).bind fun t2 => ((octets_Xor.f t2 a2).bind fun t3 => (some t3))) else (none))
end Go.Proofs.Ytokkhnjedmlbhaa.Pr
end
section
namespace Go.Proofs.Ytokkhnjedmlbhaa.M
open Go.RowKit Go.Proofs.Ytokkhnjedmlbhaa.Pr Go.Proofs.YtokkhnjedmlbhaaW.PrintWords Go.Proofs.YtokkhnjedmlbhaaW.PrintLast Go.Proofs.YtokkhnjedmlbhaaW.PrintMore Go.Proofs.YtokkhnjedmlbhaaGf
set_option linter.unusedSimpArgs false
theorem bb_ext (s : ByteArray) (a j i : Nat) (_hj : j ≤ s.size) (hi : a + i < j) : bb (s.extract a j) i = bb s (a + i) := by
  rw [bb_nb, bb_nb, extract_nb, nb_mkB (isB_drop (isB_take (isB_nb s) _) _)]
  rw [List.getD_eq_getElem?_getD, List.getD_eq_getElem?_getD, List.getElem?_drop, List.getElem?_take_of_lt hi]
def be8 (g : Nat → Nat) : Nat := ((((((g 0 * 256 + g 1) * 256 + g 2) * 256 + g 3) * 256 + g 4) * 256 + g 5) * 256 + g 6) * 256 + g 7
theorem beT8 (s : ByteArray) : beT s 8 = be8 (bb s) := by simp [beT, be8]
def l8 (u : Nat) : List Nat := [u / 72057594037927936 % 256, u / 281474976710656 % 256, u / 1099511627776 % 256, u / 4294967296 % 256, u / 16777216 % 256, u / 65536 % 256, u / 256 % 256, u % 256]
theorem put8 (u : Nat) : octets_Put.f (u : Int) 8 = some (mkB (l8 u)) := by
  unfold octets_Put.f
  rw [if_neg (by decide), if_neg (by decide)]
  rfl
theorem isB_l8 (u : Nat) : isB (l8 u) := by
  intro x hx
  simp only [l8, List.mem_cons, List.not_mem_nil, or_false] at hx
  rcases hx with rfl | rfl | rfl | rfl | rfl | rfl | rfl | rfl <;> exact Nat.mod_lt _ (by omega)
theorem l8_be8 (g : Nat → Nat) (h : ∀ i, g i < 256) : l8 (be8 g) = [g 0, g 1, g 2, g 3, g 4, g 5, g 6, g 7] := by
  have h0 := h 0; have h1 := h 1; have h2 := h 2; have h3 := h 3; have h4 := h 4; have h5 := h 5; have h6 := h 6; have h7 := h 7
  unfold l8 be8
  generalize g 0 = a at *; generalize g 1 = b at *; generalize g 2 = c at *; generalize g 3 = d at *; generalize g 4 = e at *; generalize g 5 = p at *; generalize g 6 = q at *; generalize g 7 = r at *
  simp only [List.cons.injEq, and_true]
  refine ⟨by omega, by omega, by omega, by omega, by omega, by omega, by omega, by omega⟩
def zeros (z : Nat) : ByteArray := mkB (List.replicate z 0)
def padT (s : ByteArray) (n : Nat) : ByteArray := s ++ zeros ((n - s.size % n) % n)
theorem zeros_c (z : Nat) (hz : z ≤ 65552) : octets_Zeros.f (z : Int) = some (zeros z) := by
  unfold octets_Zeros.f
  by_cases h : z = 0
  · subst h; rw [if_pos (by decide)]; rfl
  · rw [if_neg (by omega), if_neg (by omega), if_pos (by omega), if_pos (by omega), Int.toNat_natCast]
    unfold zeros
    rw [← strOfNums_cast, List.map_replicate]
    rfl
theorem zeros_size (z : Nat) : (zeros z).size = z := by unfold zeros; rw [mkB_size, List.length_replicate]
theorem pad_c (s : ByteArray) (n : Nat) (h1 : 1 ≤ n) (h2 : n ≤ 65535) (hs : s.size < 1000000000) : octets_Pad.f s (n : Int) = some (padT s n) := by
  have hm : s.size % n < n := Nat.mod_lt _ h1
  have hz : (n - s.size % n) % n < n := Nat.mod_lt _ h1
  have e : Int.tmod (wrap64 ((n : Int) - ((s.size : Int) % (n : Int)))) (n : Int) = (((n - s.size % n) % n : Nat) : Int) := by
    rw [show (s.size : Int) % (n : Int) = ((s.size % n : Nat) : Int) from (Int.natCast_emod _ _).symm]
    generalize s.size % n = q at *
    rw [wrap_id (by omega) (by omega), show ((n : Int) - (q : Int)) = ((n - q : Nat) : Int) by omega, Int.tmod_eq_emod_of_nonneg (by omega), ← Int.natCast_emod]
  unfold octets_Pad.f
  rw [if_neg (by omega), if_neg (by omega), if_neg (by omega), e, zeros_c _ (by omega)]
  simp only [Option.bind_some]
  rw [if_pos (by rw [zeros_size]; omega)]
  rfl
end Go.Proofs.Ytokkhnjedmlbhaa.M
end
section
namespace Go.Proofs.Ytokkhnjedmlbhaa.M
open Go.RowKit Go.Proofs.Ytokkhnjedmlbhaa.Pr Go.Proofs.YtokkhnjedmlbhaaW.PrintWords Go.Proofs.YtokkhnjedmlbhaaW.PrintLast Go.Proofs.YtokkhnjedmlbhaaW.PrintMore Go.Proofs.YtokkhnjedmlbhaaGf
/-- What last blocks are added to. -/
def k1T (ks : List ByteArray) : ByteArray := dblT (encT ks (zeros 16))
def k2T (ks : List ByteArray) : ByteArray := dblT (k1T ks)
/-- The place of the last block. -/
def endI (n : Nat) : Nat := (n - 1) / 16
def lastX (r a b : ByteArray) : ByteArray := if r.size = 16 then xorT r a else xorT (padT (r ++ (⟨#[128]⟩ : ByteArray)) 16) b
def lastT (ks : List ByteArray) (s : ByteArray) : ByteArray := lastX (s.extract (16 * endI s.size) (16 * endI s.size + 16)) (k1T ks) (k2T ks)
def blkT (ks : List ByteArray) (s : ByteArray) (j : Nat) : ByteArray := if j = endI s.size then lastT ks s else s.extract (16 * j) (16 * j + 16)
def zJ (ks : List ByteArray) (s : ByteArray) : Nat → ByteArray
  | 0 => zeros 16
  | j + 1 => encT ks (xorT (zJ ks s j) (blkT ks s j))
def tagT (ks : List ByteArray) (s : ByteArray) : ByteArray := zJ ks s (endI s.size + 1)
end Go.Proofs.Ytokkhnjedmlbhaa.M
namespace Go.Proofs.Ytokkhnjedmlbhaa.Pr
open Go.RowKit Go.Proofs.YtokkhnjedmlbhaaW.PrintWords Go.Proofs.YtokkhnjedmlbhaaW.PrintLast Go.Proofs.YtokkhnjedmlbhaaW.PrintMore Go.Proofs.YtokkhnjedmlbhaaHw Go.Proofs.YtokkhnjedmlbhaaGf
theorem StrRow.set {w : World} {g : Nat} {ps : List ByteArray} (h : StrRow w g ps) (j : Nat) (hj : j < ps.length) (x : ByteArray) : StrRow (w.setCell ⟨g, j, none⟩ (.string x)) g (ps.set j x) := by
  obtain ⟨cur, h1, h2⟩ := h
  have hc : j < cur.size := by
    have := h2 j ps[j] (List.getElem?_eq_getElem hj)
    exact (Array.getElem?_eq_some_iff.1 this).1
  refine ⟨_, blk_set h1 j (.string x), fun i y hi => ?_⟩
  rw [List.getElem?_set] at hi
  rw [Array.getElem?_setIfInBounds]
  by_cases e : j = i
  · subst e
    rw [if_pos rfl, if_pos hj] at hi
    rw [if_pos rfl, if_pos hc]
    rw [Option.some.inj hi]
  · rw [if_neg e] at hi
    rw [if_neg e]
    exact h2 i y hi
theorem StrRow.frozen {w : World} {g : Nat} {ps : List ByteArray} (h : StrRow w g ps) (j : Nat) : w.frozen? ⟨g, j, none⟩ = false := by
  obtain ⟨cur, h1, _⟩ := h
  exact blk_frozen h1 j
def cmac_Tag.f (a0 a1 : ByteArray) : Option (ByteArray × Int) := if a1.size < 1000000 then some (if M.okN a0.size then (M.tagT (M.ksB a0) a1, 0) else (⟨#[]⟩, 2)) else none
def cmac_Subkeys.f (a0 : ByteArray) : Option (ByteArray × ByteArray × Int) := some (if M.okN a0.size then (M.k1T (M.ksB a0), M.k2T (M.ksB a0), 0) else (⟨#[]⟩, ⟨#[]⟩, 2))
end Go.Proofs.Ytokkhnjedmlbhaa.Pr
end
section
namespace Go.Proofs.Ytokkhnjedmlbhaa.M
open Go.RowKit Go.Proofs.Ytokkhnjedmlbhaa.Pr Go.Proofs.YtokkhnjedmlbhaaW.PrintWords Go.Proofs.YtokkhnjedmlbhaaW.PrintLast Go.Proofs.YtokkhnjedmlbhaaW.PrintMore Go.Proofs.YtokkhnjedmlbhaaGf
set_option linter.unusedSimpArgs false
/-- A number, written out ahead of what is made of it. -/
def fN {α : Type} (n : Nat) (f : Nat → α) : α := match n with
  | 0 => f 0
  | m + 1 => f (m + 1)
theorem fN_eq {α : Type} (n : Nat) (f : Nat → α) : fN n f = f n := by cases n <;> rfl
def fL {α : Type} : List Nat → (List Nat → α) → α
  | [], f => f []
  | a :: l, f => fN a fun a => fL l fun l => f (a :: l)
theorem fL_eq {α : Type} : ∀ (l : List Nat) (f : List Nat → α), fL l f = f l
  | [], _ => rfl
  | a :: l, f => by simp only [fL]; rw [fN_eq, fL_eq l]
def lf (l : List Nat) : Nat → Nat := fun i => l.getD i 0
theorem lf_lt {l : List Nat} (h : isB l) (i : Nat) : lf l i < 256 := isB_get h i
theorem lf_rng (g : Nat → Nat) (q : Nat) (hq : q < 16) : lf ((List.range 16).map g) q = g q := by simp [lf, hq]
theorem lf_T {l : List Nat} (hl : l.length = 16) : T (lf l) = mkB l := by
  unfold T
  congr 1
  apply List.ext_getElem (by simp [hl])
  intro i h1 h2
  simp [lf, h2]
theorem nb_T {g : Nat → Nat} (h : ∀ i, g i < 256) : nb (T g) = (List.range 16).map g := nb_mkB (isB_map h _)
def stepF {α : Type} (l k : List Nat) (last : Bool) (c : List Nat → α) : α :=
  fL ((List.range 16).map (F1 (lf l))) fun m => bif last then fL ((List.range 16).map fun q => lf m q ^^^ lf k q) c else fL ((List.range 16).map fun q => MX (lf m) q ^^^ lf k q) c
theorem stepF_eq {α : Type} {l k : List Nat} (hl : isB l) (hk : isB k) (hl2 : l.length = 16) (hk2 : k.length = 16) (last : Bool) (c : List Nat → α) : stepF l k last c = c (nb (doT (mkB l) (mkB k) last)) := by
  have hks : (mkB k).size = 16 := by rw [mkB_size, hk2]
  have e : ∀ q, bb (mkB k) q = lf k q := fun q => bb_mkB hk q
  unfold stepF
  rw [fL_eq, ← lf_T hl2]
  cases last
  · rw [do_mid (lf_lt hl) hks, cond_false, fL_eq, nb_T (fun i => xor_lt (MX_lt (F1_lt _) _) (bb_lt _ _))]
    congr 1
    refine List.map_congr_left (fun q hq => ?_)
    have hq := List.mem_range.1 hq
    rw [e, MX_congr (fun i hi => lf_rng (F1 (lf l)) i hi) hq]
  · rw [do_last (lf_lt hl) hks, cond_true, fL_eq, nb_T (fun i => xor_lt (F1_lt _ _) (bb_lt _ _))]
    congr 1
    refine List.map_congr_left (fun q hq => ?_)
    have hq := List.mem_range.1 hq
    rw [e, lf_rng _ q hq]
def fwdF {α : Type} : List (List Nat) → List Nat → (List Nat → α) → α
  | [], l, c => c l
  | k :: ks, l, c => stepF l k ks.isEmpty fun l => fwdF ks l c
def ok16 (k : List Nat) : Prop := isB k ∧ k.length = 16
theorem fwdF_eq {α : Type} : ∀ (ks : List (List Nat)) (l : List Nat) (c : List Nat → α), (∀ k ∈ ks, ok16 k) → ok16 l → fwdF ks l c = c (nb (fwd (ks.map mkB) (mkB l)))
  | [], l, c, _, hl => by simp only [fwdF, fwd, List.map_nil]; rw [nb_mkB hl.1]
  | k :: ks, l, c, h, hl => by
    have hk := h k (by simp)
    have hd : ok16 (nb (doT (mkB l) (mkB k) ks.isEmpty)) := ⟨isB_nb _, by rw [nb_length]; exact do_size (by rw [mkB_size, hl.2]) (by rw [mkB_size, hk.2]) _⟩
    simp only [fwdF, fwd, List.map_cons]
    rw [stepF_eq hl.1 hk.1 hl.2 hk.2, fwdF_eq ks _ c (fun x hx => h x (by simp [hx])) hd, mkB_nb, List.isEmpty_map]
def encF {α : Type} (ks : List (List Nat)) (l : List Nat) (c : List Nat → α) : α := match ks with
  | [] => c l
  | k :: ks => fL ((List.range 16).map fun q => lf l q ^^^ lf k q) fun l => fwdF ks l c
theorem encF_eq {α : Type} (ks : List (List Nat)) (l : List Nat) (c : List Nat → α) (h : ∀ k ∈ ks, ok16 k) (hl : ok16 l) : encF ks l c = c (nb (encT (ks.map mkB) (mkB l))) := by
  cases ks with
  | nil => simp only [encF, encT, List.map_nil]; rw [nb_mkB hl.1]
  | cons k ks =>
    have hk := h k (by simp)
    have e : kyT (mkB l) (mkB k) = mkB ((List.range 16).map fun q => lf l q ^^^ lf k q) := by
      rw [ky_16 (by rw [mkB_size, hl.2]) (by rw [mkB_size, hk.2])]
      unfold T
      congr 1
      exact List.map_congr_left (fun q _ => by rw [bb_mkB hl.1, bb_mkB hk.1]; rfl)
    simp only [encF, encT, List.map_cons]
    rw [fL_eq, fwdF_eq ks _ c (fun x hx => h x (by simp [hx])) ⟨isB_map (fun a => xor_lt (lf_lt hl.1 a) (lf_lt hk.1 a)) _, by simp⟩, e]
def goR {α : Type} (n : Nat) : Nat → Nat → List (List Nat) → (List (List Nat) → α) → α
  | 0, _, ws, c => c ws
  | d + 1, i, ws, c => fL (nb (stepB n i (mkB (ws.getD (n - 1) [])) (mkB (ws.getD 0 [])))) fun w => goR n d (i + 1) (w :: ws) c
theorem getD_rev (l : List (List Nat)) (j i : Nat) (hi : l.length = i) (hj : j < i) : mkB (l.getD j []) = (l.reverse.map mkB).getD (i - 1 - j) ByteArray.empty := by
  have h1 : j < l.length := by omega
  have h2 : l.length - 1 - j < l.reverse.length := by rw [List.length_reverse]; omega
  subst hi
  rw [List.getD_eq_getElem?_getD, List.getD_eq_getElem?_getD, List.getElem?_map, List.getElem?_eq_getElem h1, List.getElem?_eq_getElem h2]
  simp only [Option.getD_some, Option.map_some]
  rw [List.getElem_reverse]
  congr 2
  omega
theorem goR_eq {α : Type} (n : Nat) (hn : 0 < n) : ∀ (d i : Nat) (ws : List (List Nat)) (c : List (List Nat) → α), ws.length = i → n ≤ i → ∃ vs, goR n d i ws c = c vs ∧ vs.reverse.map mkB = goB n d i (ws.reverse.map mkB) ∧ ((∀ v ∈ ws, isB v) → ∀ v ∈ vs, isB v)
  | 0, _, ws, c, _, _ => ⟨ws, rfl, rfl, id⟩
  | d + 1, i, ws, c, hl, hi => by
    simp only [goR, goB]
    rw [fL_eq, getD_rev ws (n - 1) i hl (by omega), getD_rev ws 0 i hl (by omega), show i - 1 - (n - 1) = i - n by omega, show i - 1 - 0 = i - 1 by omega]
    obtain ⟨vs, h1, h2, h3⟩ := goR_eq n hn d (i + 1) (nb (stepB n i ((ws.reverse.map mkB).getD (i - n) ByteArray.empty) ((ws.reverse.map mkB).getD (i - 1) ByteArray.empty)) :: ws) c (by simp [hl]) (by omega)
    refine ⟨vs, h1, ?_, fun h => h3 (fun v hv => ?_)⟩
    · rw [h2, List.reverse_cons, List.map_append, List.map_singleton, mkB_nb]
    · rcases List.mem_cons.1 hv with rfl | hv
      · exact isB_nb _
      · exact h v hv
def quadL : List (List Nat) → List (List Nat)
  | a :: b :: c :: d :: l => (a ++ (b ++ (c ++ d))) :: quadL l
  | _ => []
theorem quadL_eq : ∀ l : List (List Nat), (quadL l).map mkB = quads (l.map mkB)
  | a :: b :: c :: d :: l => by simp only [quadL, quads, List.map_cons]; rw [quadL_eq l, mkB_append, mkB_append, mkB_append]
  | [] => rfl
  | [_] => rfl
  | [_, _] => rfl
  | [_, _, _] => rfl
/-- A key's words as lists, the last one first. -/
def fourL : List Nat → List (List Nat)
  | a :: b :: c :: d :: l => [a, b, c, d] :: fourL l
  | _ => []
def keysF {α : Type} (n : Nat) (key : List Nat) (c : List (List Nat) → α) : α := goR n (3 * n + 28) n (fourL key).reverse fun ws => c (quadL ws.reverse)
theorem keysF_eq {α : Type} (n : Nat) (hn : n = 4 ∨ n = 6 ∨ n = 8) (key : List Nat) (hkl : key.length = 4 * n) (hf : (fourL key).map mkB = pcs 4 n (mkB key)) (hf2 : ∀ v ∈ fourL key, isB v) (c : List (List Nat) → α) :
    ∃ ks, keysF n key c = c ks ∧ ks.map mkB = ksB (mkB key) ∧ ∀ k ∈ ks, ok16 k := by
  have hs : (mkB key).size = 4 * n := by rw [mkB_size, hkl]
  have hok : okN (mkB key).size := by unfold okN; omega
  have hl : (fourL key).length = n := by have := congrArg List.length hf; rw [List.length_map, pcs_length] at this; exact this
  obtain ⟨vs, h1, h2, h3⟩ := goR_eq n (by omega) (3 * n + 28) n (fourL key).reverse (fun ws => c (quadL ws.reverse)) (by simp [hl]) (Nat.le_refl _)
  have e : (quadL vs.reverse).map mkB = ksB (mkB key) := by
    rw [quadL_eq, h2, List.reverse_reverse, hf]
    unfold ksB wordsB
    rw [hs, show 4 * n / 4 = n by omega]
  have hb := h3 (fun v hv => hf2 v (List.mem_reverse.1 hv))
  refine ⟨_, h1, e, fun k hk => ?_⟩
  have ha := (ks_facts hok).2.1
  rw [← e] at ha
  have hz := ha (mkB k) (List.mem_map_of_mem hk)
  rw [mkB_size] at hz
  refine ⟨?_, hz⟩
  have : ∀ l : List (List Nat), (∀ v ∈ l, isB v) → ∀ k ∈ quadL l, isB k := by
    intro l
    induction l using quadL.induct with
    | case1 a b c d l ih =>
      intro h k hk
      rcases List.mem_cons.1 hk with rfl | hk
      · exact isB_append.2 ⟨h a (by simp), isB_append.2 ⟨h b (by simp), isB_append.2 ⟨h c (by simp), h d (by simp)⟩⟩⟩
      · exact ih (fun v hv => h v (by simp [hv])) k hk
    | case2 t h => intro _ k hk; rw [quadL] at hk; cases hk; exact h
  exact this _ (fun v hv => hb v (List.mem_reverse.1 hv)) k hk
end Go.Proofs.Ytokkhnjedmlbhaa.M
end
section
namespace Go.Proofs.Ytokkhnjedmlbhaa.M
open Go.RowKit Go.Proofs.Ytokkhnjedmlbhaa.Pr Go.Proofs.YtokkhnjedmlbhaaW.PrintWords Go.Proofs.YtokkhnjedmlbhaaW.PrintLast Go.Proofs.YtokkhnjedmlbhaaW.PrintMore Go.Proofs.YtokkhnjedmlbhaaGf
set_option linter.unusedSimpArgs false
def okX (f : ByteArray → ByteArray) (s : ByteArray) : ByteArray × Int := if s.size = 16 then (f s, 0) else (⟨#[]⟩, 4)
/-- A block, encrypted; decrypted; or why not. -/
def encX (key s : ByteArray) : ByteArray × Int := if okN key.size then okX (encT (ksB key)) s else (⟨#[]⟩, 2)
def decX (key s : ByteArray) : ByteArray × Int := if okN key.size then okX (decT (ksB key)) s else (⟨#[]⟩, 2)
theorem dropB {ks : List ByteArray} {i : Nat} (h : i < ks.length) : ks.drop i = ks.getD i ByteArray.empty :: ks.drop (i + 1) := by
  rw [List.drop_eq_getElem_cons h]
  simp [List.getD_eq_getElem?_getD, h]
theorem last_i (ks : List ByteArray) (i : Nat) (h : i < ks.length) (hb : ks.length ≤ 100) : (((i : Nat) : Int) == wrap64 ((ks.length : Int) - 1)) = (ks.drop (i + 1)).isEmpty := by
  rw [wrap_id (by omega) (by omega)]
  by_cases e : i + 1 = ks.length
  · rw [List.drop_of_length_le (by omega)]
    exact beq_iff_eq.mpr (by omega)
  · rw [dropB (show i + 1 < ks.length by omega)]
    exact beq_eq_false_iff_ne.mpr (by omega)
theorem rfwdL (ks : List ByteArray) (hb : ks.length ≤ 100) (d : Nat) : ∀ (i : Nat) (s : ByteArray), ks.length - i = d → i ≤ ks.length → Ev (fun k => clavigerref09_forward.l0 k ks s (i : Int)) (fwd (ks.drop i) s) := by
  induction d with
  | zero =>
    intro i s hd hi
    rw [List.drop_of_length_le (by omega)]
    refine Ev.step (f := fun _ => some s) (fun k => ?_) (Ev.now _)
    simp only [clavigerref09_forward.l0]
    rw [if_neg (by omega)]
  | succ d ih =>
    intro i s hd hi
    rw [dropB (show i < ks.length by omega)]
    refine Ev.step (f := fun k => (clavigerref07_Do.f k s (ks.getD i ByteArray.empty) ((ks.drop (i + 1)).isEmpty)).bind fun t269 => clavigerref09_forward.l0 k ks t269 ((i + 1 : Nat) : Int)) (fun k => ?_) ?_
    · simp only [clavigerref09_forward.l0]
      rw [if_pos (by omega), if_pos (by omega), last_i ks i (by omega) hb, rdO, wrap_id (by omega) (by omega)]
      rfl
    · exact evb (rdo_t _ _ _) (ih (i + 1) _ (by omega) (by omega))
theorem rfwd_c (ks : List ByteArray) (s : ByteArray) (h0 : 0 < ks.length) (hb : ks.length ≤ 100) : Ev (fun k => clavigerref09_forward.f k ks s) (encT ks s) := by
  unfold clavigerref09_forward.f
  refine evp (by omega) (evb (rkey_t _ _) ?_)
  have := rfwdL ks hb _ 1 (kyT s (rdOf ByteArray.empty ks 0)) rfl (by omega)
  cases ks with
  | nil => simp at h0
  | cons k ks => exact this
theorem rbwdL (ks : List ByteArray) (s : ByteArray) (hb : ks.length ≤ 100) : ∀ (i : Nat), i < ks.length → Ev (fun k => clavigerref09_backward.l0 k ks (bwd (ks.drop (i + 1)) s) (i : Int)) (decT ks s)
  | 0, hi => by
    refine Ev.step (f := fun k => (clavigerref07_Key.f k (bwd (ks.drop 1) s) (ks.getD 0 ByteArray.empty)).bind fun t390 => some t390) (fun k => ?_) ?_
    · simp only [clavigerref09_backward.l0]
      rw [if_neg (by omega), if_pos (by omega)]
      rfl
    · refine evb (rkey_t _ _) ?_
      cases ks with
      | nil => simp at hi
      | cons k ks => exact Ev.now _
  | i + 1, hi => by
    refine Ev.step (f := fun k => (clavigerref07_Undo.f k (bwd (ks.drop (i + 1 + 1)) s) (ks.getD (i + 1) ByteArray.empty) ((ks.drop (i + 1 + 1)).isEmpty)).bind fun t388 => clavigerref09_backward.l0 k ks t388 (i : Int)) (fun k => ?_) ?_
    · simp only [clavigerref09_backward.l0]
      rw [if_pos (by omega), if_pos (by omega), if_pos (by omega), last_i ks (i + 1) (by omega) hb, rdO, show wrap64 (((i + 1 : Nat) : Int) - 1) = (i : Int) by rw [wrap_id (by omega) (by omega)]; omega]
    · refine evb (run_t _ _ _) ?_
      have := rbwdL ks s hb i (by omega)
      rw [dropB (show i + 1 < ks.length by omega)] at this
      exact this
theorem rbwd_c (ks : List ByteArray) (s : ByteArray) (h0 : 0 < ks.length) (hb : ks.length ≤ 100) : Ev (fun k => clavigerref09_backward.f k ks s) (decT ks s) := by
  unfold clavigerref09_backward.f
  rw [show wrap64 ((ks.length : Int) - 1) = ((ks.length - 1 : Nat) : Int) by rw [wrap_id (by omega) (by omega)]; omega]
  have := rbwdL ks s hb (ks.length - 1) (by omega)
  rw [List.drop_of_length_le (by omega)] at this
  exact this
theorem renc_c (key s : ByteArray) : Ev (fun k => clavigerref09_Encrypt.f k key s) (encX key s) := by
  unfold clavigerref09_Encrypt.f encX okX
  by_cases h : okN key.size
  · rw [if_pos h]
    have hl := ks_len h
    refine evb (rkeys_c h) (evp rfl ?_)
    by_cases hs : s.size = 16
    · rw [if_pos hs]
      exact evp (by omega) (evb (rfwd_c _ _ (show 0 < (ksB key).length by omega) hl.2) (Ev.now _))
    · rw [if_neg hs]
      exact evn (by omega) (Ev.now _)
  · rw [if_neg h]
    exact evb (rkeys_n h) (evn (by decide) (Ev.now _))
theorem rdec_c (key s : ByteArray) : Ev (fun k => clavigerref09_Decrypt.f k key s) (decX key s) := by
  unfold clavigerref09_Decrypt.f decX okX
  by_cases h : okN key.size
  · rw [if_pos h]
    have hl := ks_len h
    refine evb (rkeys_c h) (evp rfl ?_)
    by_cases hs : s.size = 16
    · rw [if_pos hs]
      exact evp (by omega) (evb (rbwd_c _ _ (show 0 < (ksB key).length by omega) hl.2) (Ev.now _))
    · rw [if_neg hs]
      exact evn (by omega) (Ev.now _)
  · rw [if_neg h]
    exact evb (rkeys_n h) (evn (by decide) (Ev.now _))
theorem encX_ok {key s : ByteArray} (h : okN key.size) (hs : s.size = 16) : encX key s = (encT (ksB key) s, 0) := by unfold encX okX; rw [if_pos h, if_pos hs]
theorem decX_ok {key s : ByteArray} (h : okN key.size) (hs : s.size = 16) : decX key s = (decT (ksB key) s, 0) := by unfold decX okX; rw [if_pos h, if_pos hs]
theorem nil_list : (⟨#[]⟩ : ByteArray).toList = ([] : List UInt8) := by decide +kernel
def cryT (ks : List ByteArray) (back : Bool) (s : ByteArray) : ByteArray := if back then decT ks s else encT ks s
def manyB (ks : List ByteArray) (back : Bool) (m : Nat) (s : ByteArray) : ByteArray := catB ((pcs 16 m s).map (cryT ks back))
theorem run_enc (n : Nat) (hn : n = 4 ∨ n = 6 ∨ n = 8) {key l r : List Nat} (hkl : key.length = 4 * n) (hf : (fourL key).map mkB = pcs 4 n (mkB key)) (hf2 : (fourL key).all (fun v => v.all fun x => Nat.blt x 256) = true) (hl : l.all (fun x => Nat.blt x 256) = true) (hl2 : l.length = 16) (h : keysF n key (fun ks => encF ks l id) = r) :
    encT (ksB (mkB key)) (mkB l) = mkB r := by
  have lt_of : ∀ v : List Nat, v.all (fun x => Nat.blt x 256) = true → isB v := fun v hv x hx => by
    have := List.all_eq_true.1 hv x hx
    simpa using this
  obtain ⟨ks, h1, h2, h3⟩ := keysF_eq n hn key hkl hf (fun v hv => lt_of v (List.all_eq_true.1 hf2 v hv)) (fun ks => encF ks l id)
  rw [h1, encF_eq ks l id h3 ⟨lt_of l hl, hl2⟩, h2] at h
  rw [← h]
  exact (mkB_nb _).symm
end Go.Proofs.Ytokkhnjedmlbhaa.M
end
section
namespace Go.Proofs.Ytokkhnjedmlbhaa.M
/-- What comes ahead of block j of a chain; the chain up to there. -/
def ivJ (ks : List ByteArray) (s iv : ByteArray) : Nat → ByteArray
  | 0 => iv
  | j + 1 => encT ks (xorT (s.extract (16 * j) (16 * j + 16)) (ivJ ks s iv j))
def outJ (ks : List ByteArray) (s iv : ByteArray) : Nat → ByteArray
  | 0 => ⟨#[]⟩
  | j + 1 => outJ ks s iv j ++ ivJ ks s iv (j + 1)
/-- Why there is no chain, or 0. -/
def rdyE (key iv s : ByteArray) : Int := if okN key.size then if iv.size = 16 then if s.size % 16 = 0 then 0 else 4 else 1 else 2
end Go.Proofs.Ytokkhnjedmlbhaa.M
namespace Go.Proofs.Ytokkhnjedmlbhaa.Pr
open Go.RowKit Go.Proofs.YtokkhnjedmlbhaaW.PrintWords Go.Proofs.YtokkhnjedmlbhaaW.PrintLast Go.Proofs.YtokkhnjedmlbhaaW.PrintMore Go.Proofs.YtokkhnjedmlbhaaHw Go.Proofs.YtokkhnjedmlbhaaGf
def cbc_Encrypt.f (a0 a1 a2 : ByteArray) : Option (ByteArray × Int) := if a2.size < 1000000 then some (if M.rdyE a0 a1 a2 = 0 then (M.outJ (M.ksB a0) a2 a1 (a2.size / 16), 0) else (⟨#[]⟩, M.rdyE a0 a1 a2)) else none
def cbc_Decrypt.f (a0 a1 a2 : ByteArray) : Option (ByteArray × Int) := if a2.size < 1000000 then some (if M.rdyE a0 a1 a2 = 0 then (M.xorT (M.manyB (M.ksB a0) true (a2.size / 16) a2) (a1 ++ a2), 0) else (⟨#[]⟩, M.rdyE a0 a1 a2)) else none
end Go.Proofs.Ytokkhnjedmlbhaa.Pr
end
section
namespace Go.Proofs.Ytokkhnjedmlbhaa.Pr
open Go.RowKit Go.Proofs.YtokkhnjedmlbhaaW.PrintWords Go.Proofs.YtokkhnjedmlbhaaW.PrintLast Go.Proofs.YtokkhnjedmlbhaaW.PrintMore
attribute [local go_sem] max2_int min2_int max_two min_two max_three min_three max_four min_four   -- for this text's walks alone
set_option linter.unusedVariables false
set_option linter.unusedSimpArgs false

def clavigerref10_bad.j0 : Nat → ByteArray → ByteArray → Bool → Option (Int)
 | 0, _, _, _ => none
 | k + 1, x1, x2, x19 => if x19 = true then (some 2) else (if (x1.size : Int) = 16 then (if ((x2.size : Int) % 16) = 0 then (some 0) else (some 4)) else (some 1))
def clavigerref10_bad.f (k : Nat) (a0 : ByteArray) (a1 : ByteArray) (a2 : ByteArray) : Option (Int) := if (a0.size : Int) = 16 then (clavigerref10_bad.j0 k a1 a2 false) else (if (a0.size : Int) = 24 then (clavigerref10_bad.j0 k a1 a2 false) else (clavigerref10_bad.j0 k a1 a2 ((a0.size : Int) != 32)))
theorem clavigerref10_bad.mono_l : ∀ k, (∀ y1 y2 y3, LeO (clavigerref10_bad.j0 k y1 y2 y3) (clavigerref10_bad.j0 (k + 1) y1 y2 y3))
 | 0 => fun _ _ _ r h => by simp [clavigerref10_bad.j0] at h
 | k + 1 => by
  have ih0 := clavigerref10_bad.mono_l k
  ·intro y1 y2 y3
   unfold clavigerref10_bad.j0
   repeat' first
   | (with_reducible exact ih0 _ _ _)
   | (with_reducible exact LeO.refl _)
   | (with_reducible exact LeO.none _)
   | (with_reducible refine LeO.ite ?_ ?_)
   | (with_reducible refine LeO.bind ?_ (fun _ => ?_))
theorem clavigerref10_bad.mono : ∀ a0 a1 a2 k, LeO (clavigerref10_bad.f k a0 a1 a2) (clavigerref10_bad.f (k + 1) a0 a1 a2) := by
 intro a0 a1 a2 k
 have ih0 := clavigerref10_bad.mono_l k
 unfold clavigerref10_bad.f
 repeat' first
   | (with_reducible exact ih0 _ _ _)
   | (with_reducible exact LeO.refl _)
   | (with_reducible exact LeO.none _)
   | (with_reducible refine LeO.ite ?_ ?_)
   | (with_reducible refine LeO.bind ?_ (fun _ => ?_))
def clavigerref10_Encrypt.l0 : Nat → ByteArray → ByteArray → ByteArray → ByteArray → Int → Option (ByteArray × Int)
 | 0, _, _, _, _, _ => none
 | k + 1, x0, x1, x2, x9, x10 => if x10 < (x2.size : Int) then (if 0 ≤ x10 then (if x10 ≤ (wrap64 (x10 + 16)) then (if (wrap64 (x10 + 16)) ≤ (x2.size : Int) then ((clavigerref01_Xor.f k (x2.extract (x10 : Int).toNat ((wrap64 (x10 + 16)) : Int).toNat) x1).bind fun t1 => ((clavigerref09_Encrypt.f k x0 t1).bind fun bt2 => (if x9.size + bt2.1.size ≤ 9223372036854775807 then (clavigerref10_Encrypt.l0 k x0 bt2.1 x2 (x9 ++ bt2.1) (wrap64 (x10 + 16))) else (none)))) else (none)) else (none)) else (none)) else (some (x9, 0))
def clavigerref10_Encrypt.f (k : Nat) (a0 : ByteArray) (a1 : ByteArray) (a2 : ByteArray) : Option (ByteArray × Int) := (clavigerref10_bad.f k a0 a1 a2).bind fun t3 => (if t3 = 0 then (clavigerref10_Encrypt.l0 k a0 a1 a2 (⟨#[]⟩ : ByteArray) 0) else (some ((⟨#[]⟩ : ByteArray), t3)))
theorem clavigerref10_Encrypt.mono_l : ∀ k, (∀ y4 y5 y6 y7 y8, LeO (clavigerref10_Encrypt.l0 k y4 y5 y6 y7 y8) (clavigerref10_Encrypt.l0 (k + 1) y4 y5 y6 y7 y8))
 | 0 => fun _ _ _ _ _ r h => by simp [clavigerref10_Encrypt.l0] at h
 | k + 1 => by
  have ih0 := clavigerref10_Encrypt.mono_l k
  ·intro y4 y5 y6 y7 y8
   unfold clavigerref10_Encrypt.l0
   repeat' first
   | (with_reducible exact ih0 _ _ _ _ _)
   | (with_reducible exact clavigerref01_Xor.mono _ _ _)
   | (with_reducible exact clavigerref09_Encrypt.mono _ _ _)
   | (with_reducible exact clavigerref10_bad.mono _ _ _ _)
   | (with_reducible exact LeO.refl _)
   | (with_reducible exact LeO.none _)
   | (with_reducible refine LeO.ite ?_ ?_)
   | (with_reducible refine LeO.bind ?_ (fun _ => ?_))
theorem clavigerref10_Encrypt.mono : ∀ a0 a1 a2 k, LeO (clavigerref10_Encrypt.f k a0 a1 a2) (clavigerref10_Encrypt.f (k + 1) a0 a1 a2) := by
 intro a0 a1 a2 k
 have ih0 := clavigerref10_Encrypt.mono_l k
 unfold clavigerref10_Encrypt.f
 repeat' first
   | (with_reducible exact ih0 _ _ _ _ _)
   | (with_reducible exact clavigerref01_Xor.mono _ _ _)
   | (with_reducible exact clavigerref09_Encrypt.mono _ _ _)
   | (with_reducible exact clavigerref10_bad.mono _ _ _ _)
   | (with_reducible exact LeO.refl _)
   | (with_reducible exact LeO.none _)
   | (with_reducible refine LeO.ite ?_ ?_)
   | (with_reducible refine LeO.bind ?_ (fun _ => ?_))
def clavigerref10_Decrypt.l0 : Nat → ByteArray → ByteArray → ByteArray → ByteArray → Int → Option (ByteArray × Int)
 | 0, _, _, _, _, _ => none
 | k + 1, x1, x2, x9, x10, x12 => if x12 < (x2.size : Int) then (if 0 ≤ x12 then (if x12 ≤ (wrap64 (x12 + 16)) then (if (wrap64 (x12 + 16)) ≤ (x10.size : Int) then ((clavigerref01_Xor.f k (x10.extract (x12 : Int).toNat ((wrap64 (x12 + 16)) : Int).toNat) x1).bind fun t1 => (if x9.size + t1.size ≤ 9223372036854775807 then (if (wrap64 (x12 + 16)) ≤ (x2.size : Int) then (clavigerref10_Decrypt.l0 k (x2.extract (x12 : Int).toNat ((wrap64 (x12 + 16)) : Int).toNat) x2 (x9 ++ t1) x10 (wrap64 (x12 + 16))) else (none)) else (none))) else (none)) else (none)) else (none)) else (some (x9, 0))
def clavigerref10_Decrypt.f (k : Nat) (a0 : ByteArray) (a1 : ByteArray) (a2 : ByteArray) : Option (ByteArray × Int) := (clavigerref10_bad.f k a0 a1 a2).bind fun t2 => (if t2 = 0 then ((clavigerref09_Many.f k a0 a2 true).bind fun bt3 => (clavigerref10_Decrypt.l0 k a1 a2 (⟨#[]⟩ : ByteArray) bt3.1 0)) else (some ((⟨#[]⟩ : ByteArray), t2)))
theorem clavigerref10_Decrypt.mono_l : ∀ k, (∀ y4 y5 y6 y7 y8, LeO (clavigerref10_Decrypt.l0 k y4 y5 y6 y7 y8) (clavigerref10_Decrypt.l0 (k + 1) y4 y5 y6 y7 y8))
 | 0 => fun _ _ _ _ _ r h => by simp [clavigerref10_Decrypt.l0] at h
 | k + 1 => by
  have ih0 := clavigerref10_Decrypt.mono_l k
  ·intro y4 y5 y6 y7 y8
   unfold clavigerref10_Decrypt.l0
   repeat' first
   | (with_reducible exact ih0 _ _ _ _ _)
   | (with_reducible exact clavigerref01_Xor.mono _ _ _)
   | (with_reducible exact clavigerref09_Many.mono _ _ _ _)
   | (with_reducible exact clavigerref10_bad.mono _ _ _ _)
   | (with_reducible exact LeO.refl _)
   | (with_reducible exact LeO.none _)
   | (with_reducible refine LeO.ite ?_ ?_)
   | (with_reducible refine LeO.bind ?_ (fun _ => ?_))
theorem clavigerref10_Decrypt.mono : ∀ a0 a1 a2 k, LeO (clavigerref10_Decrypt.f k a0 a1 a2) (clavigerref10_Decrypt.f (k + 1) a0 a1 a2) := by
 intro a0 a1 a2 k
 have ih0 := clavigerref10_Decrypt.mono_l k
 unfold clavigerref10_Decrypt.f
 repeat' first
   | (with_reducible exact ih0 _ _ _ _ _)
   | (with_reducible exact clavigerref01_Xor.mono _ _ _)
   | (with_reducible exact clavigerref09_Many.mono _ _ _ _)
   | (with_reducible exact clavigerref10_bad.mono _ _ _ _)
   | (with_reducible exact LeO.refl _)
   | (with_reducible exact LeO.none _)
   | (with_reducible refine LeO.ite ?_ ?_)
   | (with_reducible refine LeO.bind ?_ (fun _ => ?_))
def cbc_Last.f (a0 : ByteArray) (a1 : ByteArray) : Option (ByteArray) := if (a1.size : Int) < 16 then (some a0) else (if 0 ≤ (wrap64 ((a1.size : Int) - 16)) then (if (wrap64 ((a1.size : Int) - 16)) ≤ (a1.size : Int) then (some (a1.extract ((wrap64 ((a1.size : Int) - 16)) : Int).toNat a1.size)) else (none)) else (none))
def clavigerref10_Last.f (a0 : ByteArray) (a1 : ByteArray) : Option (ByteArray) := if (a1.size : Int) < 16 then (some a0) else (if 0 ≤ (wrap64 ((a1.size : Int) - 16)) then (if (wrap64 ((a1.size : Int) - 16)) ≤ (a1.size : Int) then (some (a1.extract ((wrap64 ((a1.size : Int) - 16)) : Int).toNat a1.size)) else (none)) else (none))
end Go.Proofs.Ytokkhnjedmlbhaa.Pr
end
section
namespace Go.Proofs.Ytokkhnjedmlbhaa.M
open Go.RowKit Go.Proofs.Ytokkhnjedmlbhaa.Pr Go.Proofs.YtokkhnjedmlbhaaW.PrintWords Go.Proofs.YtokkhnjedmlbhaaW.PrintLast Go.Proofs.YtokkhnjedmlbhaaW.PrintMore Go.Proofs.YtokkhnjedmlbhaaGf
set_option linter.unusedSimpArgs false
def blk (s : ByteArray) (j : Nat) : ByteArray := s.extract (16 * j) (16 * j + 16)
theorem bb_app (a b : ByteArray) (i : Nat) : bb (a ++ b) i = if i < a.size then bb a i else bb b (i - a.size) := by
  rw [bb_nb, nb_append, List.getD_eq_getElem?_getD]
  by_cases h : i < a.size
  · rw [if_pos h, List.getElem?_append_left (by rw [nb_length]; exact h), bb_nb, List.getD_eq_getElem?_getD]
  · rw [if_neg h, List.getElem?_append_right (by rw [nb_length]; omega), nb_length, bb_nb, List.getD_eq_getElem?_getD]
theorem cat_get (n : Nat) : ∀ (l : List ByteArray) (j : Nat) (x : ByteArray), allS n l → l[j]? = some x → (catB l).extract (n * j) (n * j + n) = x
  | [], j, x, _, h => by simp at h
  | a :: l, 0, x, hs, h => by
    have ha := hs a (by simp)
    have : a = x := by simpa using h
    subst this
    show (a ++ catB l).extract (n * 0) (n * 0 + n) = a
    rw [Nat.mul_zero, Nat.zero_add, ← ha]
    exact ext_left a _
  | a :: l, j + 1, x, hs, h => by
    have ha := hs a (by simp)
    have hh := cat_get n l j x (fun y hy => hs y (by simp [hy])) (by simpa using h)
    show (a ++ catB l).extract (n * (j + 1)) (n * (j + 1) + n) = x
    rw [← hh, Nat.mul_succ, extract_nb, extract_nb, nb_append]
    congr 1
    have hl := nb_length a
    rw [show n * j + n + n = (nb a).length + (n * j + n) by omega, show n * j + n = (nb a).length + n * j by omega, List.take_length_add_append, List.drop_length_add_append]
end Go.Proofs.Ytokkhnjedmlbhaa.M
end
section
namespace Go.Proofs.Ytokkhnjedmlbhaa.M
open Go.RowKit Go.Proofs.Ytokkhnjedmlbhaa.Pr Go.Proofs.YtokkhnjedmlbhaaW.PrintWords Go.Proofs.YtokkhnjedmlbhaaW.PrintLast Go.Proofs.YtokkhnjedmlbhaaW.PrintMore Go.Proofs.YtokkhnjedmlbhaaGf
def n0 (s : ByteArray) (i : Nat) : Nat := if i < s.size then bb s i else 0
def n1 (s : ByteArray) (i : Nat) : Nat := if i < s.size then 1 else 0
theorem at0_n (s : ByteArray) (i : Nat) : at0 s (i : Int) = ((n0 s i : Nat) : Int) := by
  unfold at0 n0
  by_cases h : i < s.size
  · rw [if_pos (by omega), if_pos h, bt_bb]
  · rw [if_neg (by omega), if_neg h]; rfl
theorem at1_n (s : ByteArray) (i : Nat) : at1 s (i : Int) = ((n1 s i : Nat) : Int) := by
  unfold at1 n1
  by_cases h : i < s.size
  · rw [if_pos (by omega), if_pos h]; rfl
  · rw [if_neg (by omega), if_neg h]; rfl
theorem n0_lt (s : ByteArray) (i : Nat) : n0 s i < 256 := by
  unfold n0
  split
  · exact bb_lt s i
  · omega
theorem n1_lt (s : ByteArray) (i : Nat) : n1 s i < 256 := by unfold n1; split <;> omega
theorem or_lt8 {a b : Nat} (ha : a < 256) (hb : b < 256) : a ||| b < 256 := Nat.or_lt_two_pow (n := 8) ha hb
def scN (a b : ByteArray) : Nat → Nat
  | 0 => 0
  | k + 1 => scN a b k ||| ((n0 a k ^^^ n0 b k) ||| (n1 a k ^^^ n1 b k))
theorem scN_lt (a b : ByteArray) (k : Nat) : scN a b k < 256 := by
  induction k with
  | zero => show 0 < 256; omega
  | succ k ih => exact or_lt8 ih (or_lt8 (xor_lt (n0_lt a k) (n0_lt b k)) (xor_lt (n1_lt a k) (n1_lt b k)))
theorem scan_n (a b : ByteArray) (k : Nat) : scanTo a b k = ((scN a b k : Nat) : Int) := by
  induction k with
  | zero => rfl
  | succ k ih =>
    show Go.bits .or .u8 (scanTo a b k) (Go.bits .or .u8 (Go.bits .xor .u8 (at0 a k) (at0 b k)) (Go.bits .xor .u8 (at1 a k) (at1 b k))) = _
    rw [ih, at0_n, at0_n, at1_n, at1_n, u8_xor_nat _ _ (n0_lt a k) (n0_lt b k), u8_xor_nat _ _ (n1_lt a k) (n1_lt b k), u8_or_nat _ _ (xor_lt (n0_lt a k) (n0_lt b k)) (xor_lt (n1_lt a k) (n1_lt b k)), u8_or_nat _ _ (scN_lt a b k) (or_lt8 (xor_lt (n0_lt a k) (n0_lt b k)) (xor_lt (n1_lt a k) (n1_lt b k)))]
    rfl
theorem xor_zero_iff {a b : Nat} : a ^^^ b = 0 ↔ a = b := by
  constructor
  · intro h
    have : (a ^^^ b) ^^^ b = 0 ^^^ b := by rw [h]
    rwa [Nat.xor_assoc, Nat.xor_self, Nat.xor_zero, Nat.zero_xor] at this
  · rintro rfl; exact Nat.xor_self a
theorem scN_zero (a b : ByteArray) (k : Nat) : scN a b k = 0 ↔ ∀ j, j < k → n0 a j = n0 b j ∧ n1 a j = n1 b j := by
  induction k with
  | zero => exact ⟨fun _ j hj => absurd hj (by omega), fun _ => rfl⟩
  | succ k ih =>
    show (scN a b k ||| ((n0 a k ^^^ n0 b k) ||| (n1 a k ^^^ n1 b k))) = 0 ↔ _
    rw [Nat.or_eq_zero_iff, Nat.or_eq_zero_iff, ih, xor_zero_iff, xor_zero_iff]
    constructor
    · rintro ⟨h1, h2⟩ j hj
      by_cases e : j = k
      · subst e; exact h2
      · exact h1 j (by omega)
    · intro h
      exact ⟨fun j hj => h j (by omega), h k (by omega)⟩
theorem same_of {a b : ByteArray} (hs : a.size = b.size) (h : ∀ j, j < a.size → bb a j = bb b j) : a = b := by
  rw [← mkB_nb a, ← mkB_nb b]
  congr 1
  apply List.ext_getElem (by rw [nb_length, nb_length, hs])
  intro i h1 h2
  have := h i (by rw [nb_length] at h1; exact h1)
  rw [bb_nb, bb_nb, List.getD_eq_getElem?_getD, List.getD_eq_getElem?_getD, List.getElem?_eq_getElem h1, List.getElem?_eq_getElem h2] at this
  exact this
theorem scan_c (a b : ByteArray) (ha : a.size < 1000000000) (hb : b.size < 1000000000) : equal_Scan.f a b = some (decide (a = b), mx (a.size : Int) (b.size : Int)) := by
  unfold equal_Scan.f
  rw [if_pos (by omega), if_pos (by omega), scan_n]
  congr 2
  by_cases e : a = b
  · rw [decide_eq_true e]
    have : scN a b (max a.size b.size) = 0 := (scN_zero _ _ _).2 (fun j _ => by rw [e]; exact ⟨rfl, rfl⟩)
    rw [this]; rfl
  · rw [decide_eq_false e]
    refine beq_eq_false_iff_ne.mpr (fun h => e ?_)
    have h0 : scN a b (max a.size b.size) = 0 := by omega
    have hh := (scN_zero _ _ _).1 h0
    have hs : a.size = b.size := by
      by_cases h1 : a.size < b.size
      · have := (hh a.size (by omega)).2
        unfold n1 at this
        rw [if_neg (by omega), if_pos h1] at this
        omega
      · by_cases h2 : b.size < a.size
        · have := (hh b.size (by omega)).2
          unfold n1 at this
          rw [if_pos h2, if_neg (by omega)] at this
          omega
        · omega
    refine same_of hs (fun j hj => ?_)
    have := (hh j (by omega)).1
    unfold n0 at this
    rwa [if_pos hj, if_pos (by omega)] at this
end Go.Proofs.Ytokkhnjedmlbhaa.M
end
section
namespace Go.Proofs.Ytokkhnjedmlbhaa.M
open Go.RowKit Go.Proofs.Ytokkhnjedmlbhaa.Pr Go.Proofs.YtokkhnjedmlbhaaW.PrintWords Go.Proofs.YtokkhnjedmlbhaaW.PrintLast Go.Proofs.YtokkhnjedmlbhaaW.PrintMore Go.Proofs.YtokkhnjedmlbhaaGf
set_option linter.unusedSimpArgs false
/-- Eight bytes with a number added bit by bit. -/
def cntX (x : ByteArray) (t : Nat) : ByteArray := mkB (l8 (beT x 8 ^^^ t))
theorem cntX_size (x : ByteArray) (t : Nat) : (cntX x t).size = 8 := by unfold cntX; rw [mkB_size]; rfl
theorem cnt_c (x : ByteArray) (t : Nat) (hx : x.size = 8) (ht : t < 18446744073709551616) : Ev (fun k => wrap_counted.f k x (t : Int)) (cntX x t) := by
  unfold wrap_counted.f
  have hg := get_c x (by omega) (by omega)
  rw [hx] at hg
  have hb := beT_lt x 8
  refine evb hg ?_
  show Ev (fun k => (octets_Put.f (Go.bits .xor .u64 ((beT x 8 : Nat) : Int) (t : Int)) 8).bind fun t2 => some t2) _
  rw [u64_xor_nat _ _ (by omega) ht, put8]
  exact Ev.now _
/-- One step of wrapping n pieces: the state is the value and the pieces. -/
def stW (ks : List ByteArray) (n t : Nat) (p : ByteArray × List ByteArray) : ByteArray × List ByteArray :=
  (cntX ((encT ks (p.1 ++ p.2.getD (t % n) ⟨#[]⟩)).extract 0 8) (t + 1), p.2.set (t % n) ((encT ks (p.1 ++ p.2.getD (t % n) ⟨#[]⟩)).extract 8 16))
def runW (ks : List ByteArray) (n : Nat) (p : ByteArray × List ByteArray) : Nat → ByteArray × List ByteArray
  | 0 => p
  | t + 1 => stW ks n t (runW ks n p t)
/-- One step back. -/
def unW (ks : List ByteArray) (n t : Nat) (p : ByteArray × List ByteArray) : ByteArray × List ByteArray :=
  ((decT ks (cntX p.1 (t + 1) ++ p.2.getD (t % n) ⟨#[]⟩)).extract 0 8, p.2.set (t % n) ((decT ks (cntX p.1 (t + 1) ++ p.2.getD (t % n) ⟨#[]⟩)).extract 8 16))
theorem beT_l8 (v : Nat) (h : v < 18446744073709551616) : beT (mkB (l8 v)) 8 = v := by
  rw [beT8]
  unfold be8
  simp only [bb_mkB (isB_l8 v)]
  simp only [l8, List.getD_eq_getElem?_getD, List.getElem?_cons_zero, List.getElem?_cons_succ, Option.getD_some]
  omega
theorem l8_beT {x : ByteArray} (hx : x.size = 8) : mkB (l8 (beT x 8)) = x := by
  rw [beT8, l8_be8 (bb x) (bb_lt x)]
  refine same_of (by rw [mkB_size]; exact hx.symm) (fun j hj => ?_)
  rw [mkB_size] at hj
  have hj : j < 8 := hj
  rw [bb_mkB (fun y hy => by
    simp only [List.mem_cons, List.not_mem_nil, or_false] at hy
    rcases hy with rfl | rfl | rfl | rfl | rfl | rfl | rfl | rfl <;> exact bb_lt x _)]
  rcases (show j = 0 ∨ j = 1 ∨ j = 2 ∨ j = 3 ∨ j = 4 ∨ j = 5 ∨ j = 6 ∨ j = 7 by omega) with rfl | rfl | rfl | rfl | rfl | rfl | rfl | rfl <;> rfl
theorem cnt_cnt {x : ByteArray} {t : Nat} (hx : x.size = 8) (ht : t < 18446744073709551616) : cntX (cntX x t) t = x := by
  have hb := beT_lt x 8
  unfold cntX
  rw [beT_l8 _ (Nat.xor_lt_two_pow (n := 64) hb ht), Nat.xor_assoc, Nat.xor_self, Nat.xor_zero, l8_beT hx]
theorem half_l {a x : ByteArray} (ha : a.size = 8) : (a ++ x).extract 0 8 = a := by
  have h := ext_left a x
  rwa [ha] at h
theorem half_r {a x : ByteArray} (ha : a.size = 8) (hx : x.size = 8) : (a ++ x).extract 8 16 = x := by
  rw [extract_nb, nb_append, List.take_of_length_le (by rw [List.length_append, nb_length, nb_length]; omega), List.drop_left' (by rw [nb_length]; exact ha), mkB_nb]
theorem halves {b : ByteArray} (hb : b.size = 16) : b.extract 0 8 ++ b.extract 8 16 = b := by
  conv => rhs; rw [← mkB_nb b]
  rw [extract_nb, extract_nb, mkB_append, List.drop_zero, List.take_of_length_le (i := 16) (by rw [nb_length]; omega), List.take_append_drop]
theorem un_st {ks : List ByteArray} (hk : all16 ks) {n t : Nat} {p : ByteArray × List ByteArray} (h1 : p.1.size = 8) (hl : p.2.length = n) (hn : 0 < n) (ha : allS 8 p.2) (ht : t + 1 < 18446744073709551616) : unW ks n t (stW ks n t p) = p := by
  have hi : t % n < p.2.length := by rw [hl]; exact Nat.mod_lt _ hn
  have hx : p.2.getD (t % n) ⟨#[]⟩ = p.2[t % n] := by rw [List.getD_eq_getElem?_getD, List.getElem?_eq_getElem hi]; rfl
  have hxs : (p.2[t % n]).size = 8 := ha _ (List.getElem_mem hi)
  have hs : (p.1 ++ p.2[t % n]).size = 16 := by rw [ByteArray.size_append]; omega
  have hb := enc_size hk hs
  unfold unW stW
  simp only [hx]
  have hg : (p.2.set (t % n) ((encT ks (p.1 ++ p.2[t % n])).extract 8 16)).getD (t % n) ⟨#[]⟩ = (encT ks (p.1 ++ p.2[t % n])).extract 8 16 := by
    rw [List.getD_eq_getElem?_getD, List.getElem?_set_self (by exact hi)]; rfl
  rw [hg, cnt_cnt (by rw [ByteArray.size_extract]; omega) ht, halves hb, dec_enc hk hs, half_l h1, half_r h1 hxs, List.set_set, List.set_getElem_self]
theorem st_un {ks : List ByteArray} (hk : all16 ks) {n t : Nat} {p : ByteArray × List ByteArray} (h1 : p.1.size = 8) (hl : p.2.length = n) (hn : 0 < n) (ha : allS 8 p.2) (ht : t + 1 < 18446744073709551616) : stW ks n t (unW ks n t p) = p := by
  have hi : t % n < p.2.length := by rw [hl]; exact Nat.mod_lt _ hn
  have hx : p.2.getD (t % n) ⟨#[]⟩ = p.2[t % n] := by rw [List.getD_eq_getElem?_getD, List.getElem?_eq_getElem hi]; rfl
  have hxs : (p.2[t % n]).size = 8 := ha _ (List.getElem_mem hi)
  have hc := cntX_size p.1 (t + 1)
  have hs : (cntX p.1 (t + 1) ++ p.2[t % n]).size = 16 := by rw [ByteArray.size_append]; omega
  have hb := dec_size hk hs
  unfold stW unW
  simp only [hx]
  have hg : (p.2.set (t % n) ((decT ks (cntX p.1 (t + 1) ++ p.2[t % n])).extract 8 16)).getD (t % n) ⟨#[]⟩ = (decT ks (cntX p.1 (t + 1) ++ p.2[t % n])).extract 8 16 := by
    rw [List.getD_eq_getElem?_getD, List.getElem?_set_self (by exact hi)]; rfl
  rw [hg, halves hb, enc_dec hk hs, half_l hc, half_r hc hxs, cnt_cnt h1 ht, List.set_set, List.set_getElem_self]
/-- A state: a value of eight bytes, n pieces of eight. -/
def okW (n : Nat) (p : ByteArray × List ByteArray) : Prop := p.1.size = 8 ∧ p.2.length = n ∧ allS 8 p.2
theorem allS_set {n i : Nat} {l : List ByteArray} {x : ByteArray} (h : allS n l) (hx : x.size = n) : allS n (l.set i x) := by
  intro y hy
  rcases List.mem_or_eq_of_mem_set hy with h1 | rfl
  · exact h y h1
  · exact hx
theorem stW_ok {ks : List ByteArray} (hk : all16 ks) {n t : Nat} (hn : 0 < n) {p : ByteArray × List ByteArray} (h : okW n p) : okW n (stW ks n t p) := by
  obtain ⟨h1, hl, ha⟩ := h
  have hi : t % n < p.2.length := by rw [hl]; exact Nat.mod_lt _ hn
  have hx : p.2.getD (t % n) ⟨#[]⟩ = p.2[t % n] := by rw [List.getD_eq_getElem?_getD, List.getElem?_eq_getElem hi]; rfl
  have hxs : (p.2[t % n]).size = 8 := ha _ (List.getElem_mem hi)
  have hb := enc_size hk (s := p.1 ++ p.2[t % n]) (by rw [ByteArray.size_append]; omega)
  unfold stW
  rw [hx]
  exact ⟨cntX_size _ _, by simpa using hl, allS_set ha (by rw [ByteArray.size_extract]; omega)⟩
theorem unW_ok {ks : List ByteArray} (hk : all16 ks) {n t : Nat} (hn : 0 < n) {p : ByteArray × List ByteArray} (h : okW n p) : okW n (unW ks n t p) := by
  obtain ⟨h1, hl, ha⟩ := h
  have hi : t % n < p.2.length := by rw [hl]; exact Nat.mod_lt _ hn
  have hx : p.2.getD (t % n) ⟨#[]⟩ = p.2[t % n] := by rw [List.getD_eq_getElem?_getD, List.getElem?_eq_getElem hi]; rfl
  have hxs : (p.2[t % n]).size = 8 := ha _ (List.getElem_mem hi)
  have hc := cntX_size p.1 (t + 1)
  have hb := dec_size hk (s := cntX p.1 (t + 1) ++ p.2[t % n]) (by rw [ByteArray.size_append]; omega)
  unfold unW
  rw [hx]
  exact ⟨by show (ByteArray.extract _ 0 8).size = 8; rw [ByteArray.size_extract]; omega, by simpa using hl, allS_set ha (by rw [ByteArray.size_extract]; omega)⟩
/-- All steps back, the last one first. -/
def backW (ks : List ByteArray) (n : Nat) (p : ByteArray × List ByteArray) : Nat → ByteArray × List ByteArray
  | 0 => p
  | t + 1 => backW ks n (unW ks n t p) t
theorem runW_ok {ks : List ByteArray} (hk : all16 ks) {n : Nat} (hn : 0 < n) {p : ByteArray × List ByteArray} (h : okW n p) : ∀ t, okW n (runW ks n p t)
  | 0 => h
  | t + 1 => stW_ok hk hn (runW_ok hk hn h t)
theorem backW_ok {ks : List ByteArray} (hk : all16 ks) {n : Nat} (hn : 0 < n) : ∀ (t : Nat) {p : ByteArray × List ByteArray}, okW n p → okW n (backW ks n p t)
  | 0, _, h => h
  | t + 1, _, h => backW_ok hk hn t (unW_ok hk hn h)
theorem back_run {ks : List ByteArray} (hk : all16 ks) {n : Nat} (hn : 0 < n) {p : ByteArray × List ByteArray} (h : okW n p) : ∀ t, t < 18446744073709551616 → backW ks n (runW ks n p t) t = p
  | 0, _ => rfl
  | t + 1, ht => by
    have ho := runW_ok hk hn h t
    show backW ks n (unW ks n t (stW ks n t (runW ks n p t))) t = p
    rw [un_st hk ho.1 ho.2.1 hn ho.2.2 ht]
    exact back_run hk hn h t (by omega)
theorem run_back {ks : List ByteArray} (hk : all16 ks) {n : Nat} (hn : 0 < n) : ∀ (t : Nat) {p : ByteArray × List ByteArray}, t < 18446744073709551616 → okW n p → runW ks n (backW ks n p t) t = p
  | 0, _, _, _ => rfl
  | t + 1, p, ht, h => by
    show stW ks n t (runW ks n (backW ks n (unW ks n t p) t) t) = p
    rw [run_back hk hn t (by omega) (unW_ok hk hn h), st_un hk h.1 h.2.1 hn h.2.2 ht]
end Go.Proofs.Ytokkhnjedmlbhaa.M
end
