-- several texts in one (by the session's program shake.py)
import Derived.Test.YtokkhnjedmlbhaaZFieldP
import Derived.Shelf.Strings.OnBuilder
import Derived.Shelf.Strings.BuilderK
import Derived.Shelf.Strings.Repeat
import Derived.Test.YtokkhnjedmlbhaaProg
import Derived.Test.YtokkhnjedmlbhaaZPrg05
import Derived.Lib.Strings
import Derived.Lib.Slices
import Derived.Lib.Walk
import Derived.Lib.Builder
import Derived.Lib.AppendStr
import Derived.Lib.UnsafeStr
import Derived.Lib.MakeNoZero
import Derived.Laws.Externs
import Derived.Test.YtokkhnjedmlbhaaZPrg06
import Derived.Test.YtokkhnjedmlbhaaZPut
import Derived.RegionTactic
import Derived.ChangeAlike
import Derived.StillTailTactics
import Derived.Laws.Rows
import Derived.Laws.CopyOwn
section
namespace Go.Proofs.Ytokkhnjedmlbhaa.M
open Go.RowKit Go.Proofs.Ytokkhnjedmlbhaa.Pr Go.Proofs.YtokkhnjedmlbhaaW.PrintWords Go.Proofs.YtokkhnjedmlbhaaW.PrintLast Go.Proofs.YtokkhnjedmlbhaaW.PrintMore Go.Proofs.YtokkhnjedmlbhaaGf
theorem ix {p q : Nat} (hp : p < 4611686018427387904) (hq : q < 4611686018427387904) : Go.bits .xor .i64 (p : Int) (q : Int) = ((p ^^^ q : Nat) : Int) := by
  have h := Nat.xor_lt_two_pow (n := 62) hp hq
  have h1 : p % 2 ^ 64 = p := Nat.mod_eq_of_lt (by omega)
  have h2 : q % 2 ^ 64 = q := Nat.mod_eq_of_lt (by omega)
  show IntKind.i64.wrap (((BitVec.ofInt 64 (p : Int)) ^^^ (BitVec.ofInt 64 (q : Int))).toNat : Int) = _
  simp only [BitVec.ofInt_natCast, BitVec.toNat_xor, BitVec.toNat_ofNat, h1, h2]
  rw [IntKind.wrap_i64]
  omega
theorem shr_c {b k : Nat} (hk : k ≤ 64) : shr .i64 (b : Int) (k : Int) = ((b / 2 ^ k : Nat) : Int) := by
  unfold shr
  rw [show min ((k : Int).toNat) IntKind.i64.bits = k from by simp [IntKind.bits]; omega]
  simp
theorem shl_c {a k : Nat} (hk : k ≤ 64) (h : a * 2 ^ k < 9223372036854775808) : shl .i64 (a : Int) (k : Int) = ((a * 2 ^ k : Nat) : Int) := by
  unfold shl
  rw [show min ((k : Int).toNat) IntKind.i64.bits = k from by simp [IntKind.bits]; omega]
  have : (a : Int) * 2 ^ k = ((a * 2 ^ k : Nat) : Int) := by simp
  rw [this, IntKind.wrap_i64]
  omega
theorem tmod2 (x : Nat) : Int.tmod (x : Int) 2 = ((x % 2 : Nat) : Int) := by rw [Int.tmod_eq_emod_of_nonneg (by omega)]; omega
/-- The product without a remainder, by the first k bits of b. -/
def clT (a b : Nat) : Nat → Nat
  | 0 => 0
  | k + 1 => clT a b k ^^^ (if b / 2 ^ k % 2 = 1 then a * 2 ^ k else 0)
/-- The remainder, j steps of it. -/
def rdT (p : Nat) : Nat → Nat
  | 0 => p
  | j + 1 => rdT p j ^^^ (if rdT p j / 2 ^ (14 - j) % 2 = 1 then 283 * 2 ^ (6 - j) else 0)
theorem pow_le8 {k : Nat} (hk : k < 8) : 2 ^ k ≤ 128 := by
  have : 2 ^ k ≤ 2 ^ 7 := Nat.pow_le_pow_right (by omega) (by omega)
  omega
theorem clT_lt {a b : Nat} (ha : a < 256) (k : Nat) (hk : k ≤ 8) : clT a b k < 32768 := by
  induction k with
  | zero => show 0 < 32768; omega
  | succ k ih =>
    refine Nat.xor_lt_two_pow (n := 15) (ih (by omega)) ?_
    have h1 := pow_le8 (show k < 8 by omega)
    have h2 : a * 2 ^ k ≤ 255 * 128 := Nat.mul_le_mul (by omega) h1
    split
    · show _ < 32768; omega
    · show 0 < 32768; omega
theorem rdT_lt {p : Nat} (hp : p < 32768) (j : Nat) (hj : j ≤ 7) : rdT p j < 32768 := by
  induction j with
  | zero => exact hp
  | succ j ih =>
    refine Nat.xor_lt_two_pow (n := 15) (ih (by omega)) ?_
    have h1 : 2 ^ (6 - j) ≤ 2 ^ 6 := Nat.pow_le_pow_right (by omega) (by omega)
    have h2 : 283 * 2 ^ (6 - j) ≤ 283 * 64 := Nat.mul_le_mul_left _ h1
    split
    · show _ < 32768; omega
    · show 0 < 32768; omega
theorem bit_xor (p q i : Nat) : (p ^^^ q) / 2 ^ i % 2 = 1 ↔ ¬ (p / 2 ^ i % 2 = 1 ↔ q / 2 ^ i % 2 = 1) := by
  have h := Nat.testBit_xor p q i
  simp only [Nat.testBit_eq_decide_div_mod_eq] at h
  by_cases h1 : p / 2 ^ i % 2 = 1 <;> by_cases h2 : q / 2 ^ i % 2 = 1 <;> simp [h1, h2] at h ⊢ <;> simpa using h
theorem rdT_xor (p q j : Nat) : rdT (p ^^^ q) j = rdT p j ^^^ rdT q j := by
  induction j with
  | zero => rfl
  | succ j ih =>
    simp only [rdT]
    rw [ih, xor4]
    congr 1
    have h := bit_xor (rdT p j) (rdT q j) (14 - j)
    by_cases h1 : rdT p j / 2 ^ (14 - j) % 2 = 1 <;> by_cases h2 : rdT q j / 2 ^ (14 - j) % 2 = 1 <;> simp [h, h1, h2]
theorem rdT_zero (j : Nat) : rdT 0 j = 0 := by
  induction j with
  | zero => rfl
  | succ j ih => simp [rdT, ih]
/-- xt, k times. -/
def xtN : Nat → Nat → Nat
  | 0, a => a
  | k + 1, a => xtN k (xt a)
theorem rd_all : allB 256 (fun a => allB 8 fun k => Nat.beq (rdT (a * 2 ^ k) 7) (xtN k a)) = true := by decide +kernel
theorem rd_pow {a k : Nat} (ha : a < 256) (hk : k < 8) : rdT (a * 2 ^ k) 7 = xtN k a := Nat.eq_of_beq_eq_true (allB_of (allB_of rd_all a ha) k hk)
theorem rd_ite {a k : Nat} {c : Prop} [Decidable c] (ha : a < 256) (hk : k < 8) : rdT (if c then a * 2 ^ k else 0) 7 = if c then xtN k a else 0 := by
  split
  · exact rd_pow ha hk
  · exact rdT_zero 7
theorem rd_cl {a : Nat} (b : Nat) (ha : a < 256) : rdT (clT a b 8) 7 = gm a b := by
  simp only [clT, rdT_xor, rdT_zero, rd_ite ha (show 0 < 8 by omega), rd_ite ha (show 1 < 8 by omega), rd_ite ha (show 2 < 8 by omega), rd_ite ha (show 3 < 8 by omega), rd_ite ha (show 4 < 8 by omega), rd_ite ha (show 5 < 8 by omega), rd_ite ha (show 6 < 8 by omega), rd_ite ha (show 7 < 8 by omega)]
  simp only [gm, mulF, xtN, Nat.div_div_eq_div_mul, Nat.zero_xor, Nat.xor_zero, Nat.xor_assoc, Nat.pow_zero, Nat.div_one]
theorem refMulR (d : Nat) : ∀ (j p : Nat), j ≤ 7 → 7 - j = d → p < 32768 → Ev (fun k => clavigerref05_Mul.l1 k ((rdT p j : Nat) : Int) ((14 - j : Nat) : Int)) (((rdT p 7 % 256 : Nat)) : Int) := by
  induction d with
  | zero =>
    intro j p hj hd hp
    obtain rfl : j = 7 := by omega
    refine Ev.step (f := fun _ => some (((rdT p 7 : Nat) : Int) % 256)) (fun k => by simp only [clavigerref05_Mul.l1]; rw [if_neg (by omega)]) ?_
    exact Ev.now _
  | succ d ih =>
    intro j p hj hd hp
    have hi := ih (j + 1) p (by omega) (by omega) hp
    have hl := rdT_lt hp j hj
    refine Ev.step (fun k => ?_) hi
    simp only [clavigerref05_Mul.l1]
    rw [if_pos (by omega), if_pos (by omega), shr_c (by omega), tmod2]
    have e1 : wrap64 (((14 - j : Nat) : Int) - 1) = ((14 - (j + 1) : Nat) : Int) := by unfold wrap64; omega
    have e2 : wrap64 (((14 - j : Nat) : Int) - 8) = ((6 - j : Nat) : Int) := by unfold wrap64; omega
    have h1 : 2 ^ (6 - j) ≤ 2 ^ 6 := Nat.pow_le_pow_right (by omega) (by omega)
    have h2 : 283 * 2 ^ (6 - j) ≤ 283 * 64 := Nat.mul_le_mul_left _ h1
    rw [e1, e2]
    by_cases hb : rdT p j / 2 ^ (14 - j) % 2 = 1
    · rw [if_pos (by omega), if_pos (by omega), show (283 : Int) = ((283 : Nat) : Int) from rfl, shl_c (by omega) (by omega), ix (by omega) (by omega)]
      simp only [rdT]
      rw [if_pos hb]
    · rw [if_neg (by omega)]
      simp only [rdT]
      rw [if_neg hb, Nat.xor_zero]
theorem refMulL (d : Nat) : ∀ (j a b : Nat), j ≤ 8 → 8 - j = d → a < 256 → b < 256 → Ev (fun k => clavigerref05_Mul.l0 k (a : Int) (b : Int) ((clT a b j : Nat) : Int) (j : Int)) ((gm a b : Nat) : Int) := by
  induction d with
  | zero =>
    intro j a b hj hd ha hb
    obtain rfl : j = 8 := by omega
    have hr := refMulR 7 0 (clT a b 8) (by omega) (by omega) (clT_lt ha 8 (by omega))
    rw [rd_cl b ha, Nat.mod_eq_of_lt (gm_lt ha)] at hr
    refine Ev.step (fun k => ?_) hr
    simp only [clavigerref05_Mul.l0]
    rw [if_neg (by omega)]
    rfl
  | succ d ih =>
    intro j a b hj hd ha hb
    have hi := ih (j + 1) a b (by omega) (by omega) ha hb
    have hl := clT_lt (b := b) ha j hj
    refine Ev.step (fun k => ?_) hi
    simp only [clavigerref05_Mul.l0]
    have h1 := pow_le8 (show j < 8 by omega)
    have h2 : a * 2 ^ j ≤ 255 * 128 := Nat.mul_le_mul (by omega) h1
    rw [if_pos (by omega), if_pos (by omega), wrap_id (x := (b : Int)) (by omega) (by omega), wrap_id (x := (a : Int)) (by omega) (by omega), wrap_id (x := (j : Int) + 1) (by omega) (by omega), shr_c (by omega), tmod2]
    by_cases hb' : b / 2 ^ j % 2 = 1
    · rw [if_pos (by omega), shl_c (by omega) (by omega), ix (by omega) (by omega)]
      simp only [clT]
      rw [if_pos hb']
      rfl
    · rw [if_neg (by omega)]
      simp only [clT]
      rw [if_neg hb', Nat.xor_zero]
      rfl
theorem rmul_c {a b : Nat} (ha : a < 256) (hb : b < 256) : Ev (fun k => clavigerref05_Mul.f k (a : Int) (b : Int)) ((gm a b : Nat) : Int) := refMulL 8 0 a b (by omega) (by omega) ha hb
theorem rpowL (d : Nat) : ∀ (i a : Nat) (n : Int), 0 ≤ n → i ≤ (n.toNat % 255) → n.toNat % 255 - i = d → a < 256 → Ev (fun k => clavigerref05_Pow.l0 k (a : Int) n ((pw a i : Nat) : Int) (i : Int)) ((pw a (n.toNat % 255) : Nat) : Int) := by
  induction d with
  | zero =>
    intro i a n h0 hi hd ha
    obtain rfl : i = n.toNat % 255 := by omega
    refine Ev.step (f := fun _ => some ((pw a (n.toNat % 255) : Nat) : Int)) (fun k => by simp only [clavigerref05_Pow.l0]; rw [if_neg (by rw [Int.tmod_eq_emod_of_nonneg h0]; omega)]) (Ev.now _)
  | succ d ih =>
    intro i a n h0 hi hd ha
    have hh := ih (i + 1) a n h0 (by omega) (by omega) ha
    refine Ev.step (f := fun k => (clavigerref05_Mul.f k ((pw a i : Nat) : Int) (a : Int)).bind fun t109 => (clavigerref05_Pow.l0 k (a : Int) n t109 (wrap64 ((i : Int) + 1)))) (fun k => by simp only [clavigerref05_Pow.l0]; rw [if_pos (by rw [Int.tmod_eq_emod_of_nonneg h0]; omega)]) ?_
    refine Ev.bind (rmul_c (pw_lt i) ha) ?_
    rw [wrap_id (by omega) (by omega)]
    exact hh
theorem rpow_c {a : Nat} (ha : a < 256) (n : Int) : Ev (fun k => clavigerref05_Pow.f k (a : Int) n) ((powI a n : Nat) : Int) := by
  unfold powI
  by_cases h : n < 1
  · refine Ev.congr (f := fun _ => some (1 : Int)) (fun k => by simp only [clavigerref05_Pow.f]; rw [if_pos h]) ?_
    rw [show n.toNat = 0 by omega]
    exact Ev.now _
  · by_cases h0 : a = 0
    · subst h0
      refine Ev.congr (f := fun _ => some (0 : Int)) (fun k => by simp only [clavigerref05_Pow.f]; rw [if_neg h, if_pos (by rfl)]) ?_
      rw [pw_zero (by omega)]
      exact Ev.now _
    · have := rpowL (n.toNat % 255) 0 a n (by omega) (by omega) (by omega) ha
      rw [pw_mod ha h0] at this
      refine Ev.congr (fun k => by simp only [clavigerref05_Pow.f]; rw [if_neg h, if_neg (by omega)]; rfl) this
end Go.Proofs.Ytokkhnjedmlbhaa.M
end
section
namespace Go.Proofs.Ytokkhnjedmlbhaa.M
open Go.RowKit Go.Proofs.Ytokkhnjedmlbhaa.Pr Go.Proofs.YtokkhnjedmlbhaaW.PrintWords Go.Proofs.YtokkhnjedmlbhaaW.PrintLast Go.Proofs.YtokkhnjedmlbhaaW.PrintMore Go.Proofs.YtokkhnjedmlbhaaGf
theorem of_i64 {a : Int} (h : (Lit.int .i64 a).wf = true) : -9223372036854775808 ≤ a ∧ a ≤ 9223372036854775807 := by
  simp [Lit.wf, IntKind.min, IntKind.max, IntKind.signed, IntKind.bits] at h
  omega
/-- A call whose answer is known, ahead of what goes on with it. -/
theorem evb {α β : Type} {g : Nat → Option α} {f : Nat → α → Option β} {a : α} {r : β} (h : Ev g a) (k : Ev (fun n => f n a) r) : Ev (fun n => (g n).bind (f n)) r := Ev.bind h k
theorem evs {α β : Type} {g : Option α} {f : Nat → α → Option β} {a : α} {r : β} (h : g = some a) (k : Ev (fun n => f n a) r) : Ev (fun n => g.bind (f n)) r := by subst h; exact k
theorem evp {α : Type} {c : Prop} [Decidable c] {f g : Nat → Option α} {r : α} (h : c) (k : Ev f r) : Ev (fun n => if c then f n else g n) r := by simp only [if_pos h]; exact k
theorem evn {α : Type} {c : Prop} [Decidable c] {f g : Nat → Option α} {r : α} (h : ¬ c) (k : Ev g r) : Ev (fun n => if c then f n else g n) r := by simp only [if_neg h]; exact k
/-- The byte at a place, as a number. -/
def bb (s : ByteArray) (i : Nat) : Nat := (bt s (i : Int)).toNat
theorem bb_lt (s : ByteArray) (i : Nat) : bb s i < 256 := by have := bt_range s (i : Int); unfold bb; omega
theorem bt_bb (s : ByteArray) (i : Nat) : bt s (i : Int) = ((bb s i : Nat) : Int) := by have := bt_range s (i : Int); unfold bb; omega
theorem mn_c (a b : Nat) : mn (a : Int) (b : Int) = ((min a b : Nat) : Int) := by unfold mn; omega
end Go.Proofs.Ytokkhnjedmlbhaa.M
end
section
namespace Go.Proofs.Ytokkhnjedmlbhaa.M
open Go.RowKit Go.Proofs.Ytokkhnjedmlbhaa.Pr Go.Proofs.YtokkhnjedmlbhaaW.PrintWords Go.Proofs.YtokkhnjedmlbhaaW.PrintLast Go.Proofs.YtokkhnjedmlbhaaW.PrintMore Go.Proofs.YtokkhnjedmlbhaaGf
/-- The text of a list of bytes. -/
def mkB (l : List Nat) : ByteArray := ⟨(l.map UInt8.ofNat).toArray⟩
/-- A text's bytes. -/
def nb (s : ByteArray) : List Nat := s.data.toList.map UInt8.toNat
def isB (l : List Nat) : Prop := ∀ x ∈ l, x < 256
theorem mkB_size (l : List Nat) : (mkB l).size = l.length := by
  show (l.map UInt8.ofNat).toArray.size = _
  simp
theorem nb_length (s : ByteArray) : (nb s).length = s.size := by rw [nb, List.length_map, data_length]
theorem isB_nb (s : ByteArray) : isB (nb s) := by
  intro x hx
  obtain ⟨u, _, rfl⟩ := List.mem_map.1 hx
  exact UInt8.toNat_lt u
theorem mkB_nb (s : ByteArray) : mkB (nb s) = s := by
  cases s with | mk d =>
  simp only [mkB, nb, List.map_map]
  congr 1
  apply Array.ext'
  simp only []
  conv => rhs; rw [← List.map_id d.toList]
  apply List.map_congr_left
  intro u _
  simp
theorem nb_mkB {l : List Nat} (h : isB l) : nb (mkB l) = l := by
  simp only [nb, mkB, List.map_map]
  conv => rhs; rw [← List.map_id l]
  apply List.map_congr_left
  intro n hn
  have := h n hn
  simp
  omega
theorem mkB_append (l m : List Nat) : mkB l ++ mkB m = mkB (l ++ m) := by
  apply ByteArray.ext
  simp [mkB]
theorem bb_nb (s : ByteArray) (i : Nat) : bb s i = (nb s).getD i 0 := by
  unfold bb bt
  by_cases h : i < s.size
  · rw [dif_pos (by simpa using h)]
    have h' : i < (nb s).length := by rw [nb_length]; exact h
    rw [List.getD_eq_getElem?_getD, List.getElem?_eq_getElem h']
    simp only [Option.getD_some, nb, List.getElem_map, Int.toNat_natCast]
    rfl
  · rw [dif_neg (by simpa using h)]
    rw [List.getD_eq_getElem?_getD, List.getElem?_eq_none (by rw [nb_length]; omega)]
    rfl
theorem strOfNums_cast (l : List Nat) : strOfNums (l.map Int.ofNat) = mkB l := by
  simp only [strOfNums, mkB, List.map_map]
  rfl
theorem bytesOf_nb (s : ByteArray) : bytesOf s = (nb s).map Int.ofNat := by
  simp only [bytesOf, nb, List.map_map]
  rfl
theorem extract_nb (s : ByteArray) (i j : Nat) : s.extract i j = mkB (((nb s).take j).drop i) := by
  apply ByteArray.ext
  simp only [ByteArray.data_extract, mkB]
  apply Array.ext'
  rw [Array.toList_extract]
  simp only [List.extract_eq_take_drop, nb]
  rw [← List.map_take, ← List.map_drop, List.map_map]
  rw [show (UInt8.ofNat ∘ UInt8.toNat) = id from by funext u; simp, List.map_id, List.drop_take]
theorem isB_append {l m : List Nat} : isB (l ++ m) ↔ isB l ∧ isB m := by
  simp [isB, or_imp, forall_and]
theorem isB_take {l : List Nat} (h : isB l) (n : Nat) : isB (l.take n) := fun x hx => h x (List.mem_of_mem_take hx)
theorem isB_drop {l : List Nat} (h : isB l) (n : Nat) : isB (l.drop n) := fun x hx => h x (List.mem_of_mem_drop hx)
theorem isB_get {l : List Nat} (h : isB l) (i : Nat) : l.getD i 0 < 256 := by
  rw [List.getD_eq_getElem?_getD]
  by_cases hi : i < l.length
  · rw [List.getElem?_eq_getElem hi]; exact h _ (List.getElem_mem hi)
  · rw [List.getElem?_eq_none (by omega)]; decide
end Go.Proofs.Ytokkhnjedmlbhaa.M
end
section
namespace Go.Proofs
open Go.Shelf
def Try.lays156_ren : Go.Shelf.Ren := ⟨fun | 156 => 187 | 165 => 219 | 166 => 220 | 169 => 215 | 240 => 226 | 241 => 227 | 276 => 231 | 277 => 232 | n => n, fun | 31 => 49 | 9 => 9 | 3 => 3 | 4 => 4 | 0 => 0 | 20 => 20 | 72 => 135 | 76 => 141 | 70 => 133 | 37 => 66 | 75 => 137 | 127 => 149 | 164 => 154 | 5 => 5 | 80 => 41 | n => n, fun | n => n⟩
theorem Try.lays156 : Go.Proofs.Lays.n156 Try.prog Try.lays156_ren := {
  mixed := by kernel_rfl
  f156 := Try.func187.trans (congrArg some (by kernel_rfl))
  f165 := Try.func219.trans (congrArg some (by kernel_rfl))
  f166 := Try.func220.trans (congrArg some (by kernel_rfl))
  f169 := Try.func215.trans (congrArg some (by kernel_rfl))
  f240 := Try.func226.trans (congrArg some (by kernel_rfl))
  f241 := Try.func227.trans (congrArg some (by kernel_rfl))
  f276 := Try.func231.trans (congrArg some (by kernel_rfl))
  f277 := Try.func232.trans (congrArg some (by kernel_rfl))
  t0 := Try.underlying0
  a0 := Try.isAgg0
  z0 := Try.sizeOf0
  v0 := Try.zeroValue0
  t3 := Try.underlying3
  a3 := Try.isAgg3
  z3 := Try.sizeOf3
  v3 := Try.zeroValue3
  t4 := Try.underlying4
  a4 := Try.isAgg4
  z4 := Try.sizeOf4
  v4 := Try.zeroValue4
  t9 := Try.underlying9
  a9 := Try.isAgg9
  z9 := Try.sizeOf9
  v9 := Try.zeroValue9
  t20 := Try.underlying20
  a20 := Try.isAgg20
  z20 := Try.sizeOf20
  v20 := Try.zeroValue20
  t31 := Try.underlying49
  a31 := Try.isAgg49
  z31 := Try.sizeOf49
  v31 := Try.zeroValue49
  t37 := Try.underlying66
  a37 := Try.isAgg66
  z37 := Try.sizeOf66
  v37 := Try.zeroValue66
  t70 := Try.underlying133
  a70 := Try.isAgg133
  z70 := Try.sizeOf133
  v70 := Try.zeroValue133
  t72 := Try.underlying135
  a72 := Try.isAgg135
  z72 := Try.sizeOf135
  v72 := Try.zeroValue135
  t75 := Try.underlying137
  a75 := Try.isAgg137
  z75 := Try.sizeOf137
  v75 := Try.zeroValue137
  t76 := Try.underlying141
  a76 := Try.isAgg141
  z76 := Try.sizeOf141
  v76 := Try.zeroValue141
  t127 := Try.underlying149
  a127 := Try.isAgg149
  z127 := Try.sizeOf149
  v127 := Try.zeroValue149
  t164 := Try.underlying154
  a164 := Try.isAgg154
  z164 := Try.sizeOf154
  v164 := Try.zeroValue154 }
theorem Try.Builder_Extra_156 : Builder.Extra Try.prog Try.lays156_ren := {
  sizeBuilder := by kernel_rfl
  liesBuilder := by kernel_rfl
  t5 := Try.underlying5
  a5 := Try.isAgg5
  z5 := Try.sizeOf5
  v5 := Try.zeroValue5
  infoByte := by kernel_rfl
  cellsByte := by kernel_rfl
  sizeByte := by kernel_rfl
  neB5 := by decide }
open Go.RowKit in
/-- No element: the empty string; the world is as it was. (Whatever the slice's address and capacity: a nil slice too.) (LAID: no walk: one application.) -/
theorem Try.strings_Join_none (a : Option Addr) (c : Nat) (sep : ByteArray) (w : World) :
    Calls Try.prog 187 #[.slice a 0 c, .string sep] w fun e w' => e = .returned (.string ⟨#[]⟩) ∧ w' = w := Any.strings_Join_none Try.lays156 Try.Builder_Extra_156 a c sep w
open Go.RowKit in
/-- strings.Join: "Join concatenates the elements of its first argument to create a single string. The separator string sep is placed between elements in the resulting string.": HOWEVER MANY ELEMENTS. Below the heap's end the world is as it was. (LAID: no walk: one application.) -/
theorem Try.strings_Join (bk o c : Nat) (xs : List ByteArray) (sep : ByteArray) (w : World) (hcells : ∀ (j : Nat) x, xs[j]? = some x → w.cell? ⟨bk, o + j, none⟩ = some (.string x)) (hbk : bk < w.heap.size) (hN : xs.length ≤ 140737488355328) (hcap : xs.length ≤ c) (hlen : (Lib.join (xs.map (·.data.toList)) sep.data.toList).length ≤ 140737488355328) :
    Calls Try.prog 187 #[.slice (some ⟨bk, o, none⟩) xs.length c, .string sep] w fun e w' => e = .returned (.string ⟨(Lib.join (xs.map (·.data.toList)) sep.data.toList).toArray⟩) ∧ Below w.heap.size w w' := Any.strings_Join Try.lays156 Try.Builder_Extra_156 bk o c xs sep w hcells hbk hN hcap hlen
end Go.Proofs
end
section
namespace Go.Proofs.Ytokkhnjedmlbhaa.Pr
open Go.RowKit Go.Proofs.YtokkhnjedmlbhaaW.PrintWords Go.Proofs.YtokkhnjedmlbhaaW.PrintLast Go.Proofs.YtokkhnjedmlbhaaW.PrintMore
def inBytes (ys : List Int) : Bool := ys.all fun n => decide (0 ≤ n) && decide (n ≤ 255)
/-- All bytes of a text, by a function that may not answer. -/
def eachF (g : Int → Option Int) (s : ByteArray) : Option ByteArray := if s.size ≤ 140737488355328 then ((bytesOf s).mapM g).bind (fun ys => if inBytes ys = true then some (strOfNums ys) else none) else none
theorem mapM_mono {g g' : Int → Option Int} (h : ∀ x, LeO (g x) (g' x)) : ∀ l : List Int, LeO (l.mapM g) (l.mapM g')
  | [] => by simp only [List.mapM_nil]; exact LeO.refl _
  | x :: l => by
    simp only [List.mapM_cons]
    exact LeO.bind (h x) (fun y => LeO.bind (mapM_mono h l) (fun z => LeO.refl _))
theorem eachF_mono {g g' : Int → Option Int} (h : ∀ x, LeO (g x) (g' x)) (s : ByteArray) : LeO (eachF g s) (eachF g' s) := by
  unfold eachF
  exact LeO.ite (LeO.bind (mapM_mono h _) (fun _ => LeO.refl _)) (LeO.none _)

def sbox_Subs.f (k : Nat) (s : ByteArray) : Option ByteArray := eachF (sbox_Sub.f k) s
theorem sbox_Subs.mono : ∀ a0 k, LeO (sbox_Subs.f k a0) (sbox_Subs.f (k + 1) a0) := fun a0 k => eachF_mono (fun x => sbox_Sub.mono x k) a0
def sbox_Backs.f (k : Nat) (s : ByteArray) : Option ByteArray := eachF (sbox_Back.f k) s
theorem sbox_Backs.mono : ∀ a0 k, LeO (sbox_Backs.f k a0) (sbox_Backs.f (k + 1) a0) := fun a0 k => eachF_mono (fun x => sbox_Back.mono x k) a0
end Go.Proofs.Ytokkhnjedmlbhaa.Pr
end
section
namespace Go.Proofs.Ytokkhnjedmlbhaa.Pr
open Go.RowKit Go.Proofs.YtokkhnjedmlbhaaW.PrintWords Go.Proofs.YtokkhnjedmlbhaaW.PrintLast Go.Proofs.YtokkhnjedmlbhaaW.PrintMore
attribute [local go_sem] max2_int min2_int max_two min_two max_three min_three max_four min_four   -- for this text's walks alone
set_option linter.unusedVariables false
set_option linter.unusedSimpArgs false

def clavigerref02_Unhex.l0 : Nat → ByteArray → ByteArray → Int → Option (ByteArray × Bool)
 | 0, _, _, _ => none
 | k + 1, x0, x4, x5 => if x5 < (x0.size : Int) then (if 0 ≤ x5 then ((clavigerref02_Value.f k (bt x0 x5)).bind fun t1 => (if 0 ≤ (wrap64 (x5 + 1)) then (if (wrap64 (x5 + 1)) < (x0.size : Int) then ((clavigerref02_Value.f k (bt x0 (wrap64 (x5 + 1)))).bind fun t2 => (if t1 < 0 then (some ((⟨#[]⟩ : ByteArray), false)) else (if t2 < 0 then (some ((⟨#[]⟩ : ByteArray), false)) else ((some (([(wrap64 ((wrap64 (16 * t1)) + t2)) % 256] : List Int) : List Int)).bind fun y3 => (if x4.size + (strOfNums y3).size ≤ 9223372036854775807 then (clavigerref02_Unhex.l0 k x0 (x4 ++ (strOfNums y3)) (wrap64 (x5 + 2))) else (none)))))) else (none)) else (none))) else (none)) else (some (x4, true))
def clavigerref02_Unhex.f (k : Nat) (a0 : ByteArray) : Option (ByteArray × Bool) := if ((a0.size : Int) % 2) = 0 then (clavigerref02_Unhex.l0 k a0 (⟨#[]⟩ : ByteArray) 0) else (some ((⟨#[]⟩ : ByteArray), false))
theorem clavigerref02_Unhex.mono_l : ∀ k, (∀ y4 y5 y6, LeO (clavigerref02_Unhex.l0 k y4 y5 y6) (clavigerref02_Unhex.l0 (k + 1) y4 y5 y6))
 | 0 => fun _ _ _ r h => by simp [clavigerref02_Unhex.l0] at h
 | k + 1 => by
  have ih0 := clavigerref02_Unhex.mono_l k
  ·intro y4 y5 y6
   unfold clavigerref02_Unhex.l0
   repeat' first
   | (with_reducible exact ih0 _ _ _)
   | (with_reducible exact clavigerref02_Value.mono _ _)
   | (with_reducible exact LeO.refl _)
   | (with_reducible exact LeO.none _)
   | (with_reducible refine LeO.ite ?_ ?_)
   | (with_reducible refine LeO.bind ?_ (fun _ => ?_))
theorem clavigerref02_Unhex.mono : ∀ a0 k, LeO (clavigerref02_Unhex.f k a0) (clavigerref02_Unhex.f (k + 1) a0) := by
 intro a0 k
 have ih0 := clavigerref02_Unhex.mono_l k
 unfold clavigerref02_Unhex.f
 repeat' first
   | (with_reducible exact ih0 _ _ _)
   | (with_reducible exact clavigerref02_Value.mono _ _)
   | (with_reducible exact LeO.refl _)
   | (with_reducible exact LeO.none _)
   | (with_reducible refine LeO.ite ?_ ?_)
   | (with_reducible refine LeO.bind ?_ (fun _ => ?_))
def clavigerref06_Table.f (k : Nat)  : Option (ByteArray) := (clavigerref02_Unhex.f k (⟨#[54, 51, 55, 67, 55, 55, 55, 66, 70, 50, 54, 66, 54, 70, 67, 53, 51, 48, 48, 49, 54, 55, 50, 66, 70, 69, 68, 55, 65, 66, 55, 54, 67, 65, 56, 50, 67, 57, 55, 68, 70, 65, 53, 57, 52, 55, 70, 48, 65, 68, 68, 52, 65, 50, 65, 70, 57, 67, 65, 52, 55, 50, 67, 48, 66, 55, 70, 68, 57, 51, 50, 54, 51, 54, 51, 70, 70, 55, 67, 67, 51, 52, 65, 53, 69, 53, 70, 49, 55, 49, 68, 56, 51, 49, 49, 53, 48, 52, 67, 55, 50, 51, 67, 51, 49, 56, 57, 54, 48, 53, 57, 65, 48, 55, 49, 50, 56, 48, 69, 50, 69, 66, 50, 55, 66, 50, 55, 53, 48, 57, 56, 51, 50, 67, 49, 65, 49, 66, 54, 69, 53, 65, 65, 48, 53, 50, 51, 66, 68, 54, 66, 51, 50, 57, 69, 51, 50, 70, 56, 52, 53, 51, 68, 49, 48, 48, 69, 68, 50, 48, 70, 67, 66, 49, 53, 66, 54, 65, 67, 66, 66, 69, 51, 57, 52, 65, 52, 67, 53, 56, 67, 70, 68, 48, 69, 70, 65, 65, 70, 66, 52, 51, 52, 68, 51, 51, 56, 53, 52, 53, 70, 57, 48, 50, 55, 70, 53, 48, 51, 67, 57, 70, 65, 56, 53, 49, 65, 51, 52, 48, 56, 70, 57, 50, 57, 68, 51, 56, 70, 53, 66, 67, 66, 54, 68, 65, 50, 49, 49, 48, 70, 70, 70, 51, 68, 50, 67, 68, 48, 67, 49, 51, 69, 67, 53, 70, 57, 55, 52, 52, 49, 55, 67, 52, 65, 55, 55, 69, 51, 68, 54, 52, 53, 68, 49, 57, 55, 51, 54, 48, 56, 49, 52, 70, 68, 67, 50, 50, 50, 65, 57, 48, 56, 56, 52, 54, 69, 69, 66, 56, 49, 52, 68, 69, 53, 69, 48, 66, 68, 66, 69, 48, 51, 50, 51, 65, 48, 65, 52, 57, 48, 54, 50, 52, 53, 67, 67, 50, 68, 51, 65, 67, 54, 50, 57, 49, 57, 53, 69, 52, 55, 57, 69, 55, 67, 56, 51, 55, 54, 68, 56, 68, 68, 53, 52, 69, 65, 57, 54, 67, 53, 54, 70, 52, 69, 65, 54, 53, 55, 65, 65, 69, 48, 56, 66, 65, 55, 56, 50, 53, 50, 69, 49, 67, 65, 54, 66, 52, 67, 54, 69, 56, 68, 68, 55, 52, 49, 70, 52, 66, 66, 68, 56, 66, 56, 65, 55, 48, 51, 69, 66, 53, 54, 54, 52, 56, 48, 51, 70, 54, 48, 69, 54, 49, 51, 53, 53, 55, 66, 57, 56, 54, 67, 49, 49, 68, 57, 69, 69, 49, 70, 56, 57, 56, 49, 49, 54, 57, 68, 57, 56, 69, 57, 52, 57, 66, 49, 69, 56, 55, 69, 57, 67, 69, 53, 53, 50, 56, 68, 70, 56, 67, 65, 49, 56, 57, 48, 68, 66, 70, 69, 54, 52, 50, 54, 56, 52, 49, 57, 57, 50, 68, 48, 70, 66, 48, 53, 52, 66, 66, 49, 54]⟩ : ByteArray)).bind fun bt1 => (some bt1.1)
theorem clavigerref06_Table.mono : ∀ k, LeO (clavigerref06_Table.f k ) (clavigerref06_Table.f (k + 1) ) := by
 intro  k
 unfold clavigerref06_Table.f
 repeat' first
   | (with_reducible exact clavigerref02_Unhex.mono _ _)
   | (with_reducible exact LeO.refl _)
   | (with_reducible exact LeO.none _)
   | (with_reducible refine LeO.ite ?_ ?_)
   | (with_reducible refine LeO.bind ?_ (fun _ => ?_))
end Go.Proofs.Ytokkhnjedmlbhaa.Pr
end
section
namespace Go.Proofs.Ytokkhnjedmlbhaa.Pr
open Go.RowKit Go.Proofs.YtokkhnjedmlbhaaW.PrintWords Go.Proofs.YtokkhnjedmlbhaaW.PrintLast Go.Proofs.YtokkhnjedmlbhaaW.PrintMore Go.Proofs.YtokkhnjedmlbhaaHw
/-- n rounds more, from p and q on. -/
def tabL (k : Nat) (third : Int) : Nat → Int → Int → List Int → Option (List Int)
  | 0, _, _, xs => some xs
  | n + 1, p, q, xs => (sbox_mixed.f q).bind fun m => (field_Mul.f k p 3).bind fun p' => (field_Mul.f k q third).bind fun q' => if 0 ≤ p then if p < 256 then tabL k third n p' q' (xs.set p.toNat m) else none else none
def sbox_Table.f (k : Nat) : Option ByteArray := (field_Inv.f k 3).bind fun third => (tabL k third 255 1 1 (List.replicate 256 0)).map fun xs => strOfNums (xs.set 0 99)
theorem tabL_mono (k : Nat) (third : Int) : ∀ n p q xs, LeO (tabL k third n p q xs) (tabL (k + 1) third n p q xs)
  | 0, _, _, _ => LeO.refl _
  | n + 1, p, q, xs => by
    simp only [tabL]
    exact LeO.bind (LeO.refl _) fun m => LeO.bind (field_Mul.mono _ _ _) fun p' => LeO.bind (field_Mul.mono _ _ _) fun q' => LeO.ite (LeO.ite (tabL_mono k third n p' q' _) (LeO.none _)) (LeO.none _)
theorem sbox_Table.mono : ∀ k, LeO (sbox_Table.f k) (sbox_Table.f (k + 1)) := fun k => LeO.bind (field_Inv.mono _ _) fun third => LeO.map _ (tabL_mono k third _ _ _ _)
theorem map_set_u8 (xs : List Int) (i : Nat) (v : Int) : ((xs.map (Value.int .u8)).toArray.setIfInBounds i (.int .u8 v)) = (((xs.set i v).map (Value.int .u8)).toArray) := by
  apply Array.ext'
  simp only [Array.toList_setIfInBounds]
  exact (List.map_set).symm
theorem row_get (xs : List Int) (i : Nat) (h : i < xs.length) : (xs.map (Value.int .u8)).toArray[i]? = some (.int .u8 (xs.getD i 0)) := by
  simp [h]
set_option maxHeartbeats 1000000 in
set_option maxRecDepth 100000 in
theorem sbox_Table.calls (k : Nat) (r : ByteArray) (w : World) (h : sbox_Table.f k = some r) :
    Calls Try.prog 70 #[] w fun e w' => e = .returned (.string r) ∧ Below w.heap.size w w' := by
  unfold sbox_Table.f at h
  replace h := Option.bind_eq_some_iff.1 h
  obtain ⟨third, h3, h⟩ := h
  replace h := Option.map_eq_some_iff.1 h
  obtain ⟨xs, hx, hr⟩ := h
  subst hr
  have H3 := Aside0.mk h3
  have HX := Aside0.mk hx
  clear h3 hx
  go_enter Try.func70, Try.ntmps70
  go_wp2_with (go_at_call 47; refine (field_Inv.calls k _ _ _ H3.out).mono ?_; rintro e w1 ⟨rfl, hd⟩)
  obtain ⟨nd, rfl⟩ := hd.out
  have hz : Try.zeroCells93 = ((List.replicate 256 (0 : Int)).map (Value.int .u8)).toArray := by kernel_rfl
  have hb0 : ((w.alloc (.cells Try.zeroCells93 93)).drewN nd).heap[w.heap.size]? = some (.cells ((List.replicate 256 (0 : Int)).map (Value.int .u8)).toArray 93 (0, 0)) := by
    rw [← hz]; exact heap_alloc_new w _
  have HK0 := Aside0.mk hb0
  have HL0 := Aside0.mk (pw_below_drewN ((Below.refl w.heap.size w).alloc (Nat.le_refl _) (.cells Try.zeroCells93 93)) nd)
  clear hz hb0 hd
  go_loopw [3, 4, 6] (fun vp vq i wr => ∃ (j : Nat) (p q : Int) (ys : List Int), j ≤ 255 ∧ vp = .int .u8 p ∧ vq = .int .u8 q ∧ i = .int .i64 j ∧ Aside0 (tabL k third (255 - j) p q ys = some xs) ∧ Aside0 (ys.length = 256) ∧ Aside0 (wr.heap[w.heap.size]? = some (.cells (ys.map (Value.int .u8)).toArray 93 (0, 0))) ∧ Aside0 (Below w.heap.size w wr)) (fun _ _ i _ => 255 - (intOf i).toNat)
  case atStart => exact ⟨0, 1, 1, _, by omega, rfl, rfl, rfl, HX, ⟨by rw [List.length_replicate]⟩, HK0, HL0⟩
  case round =>
    clear HX HK0 HL0
    obtain ⟨j, p, q, ys, hj, rfl, rfl, rfl, HX, HY, HK, HB⟩ := hrel
    by_cases hlt : j < 255
    · have hx := HX.out
      rw [show 255 - j = (255 - (j + 1)) + 1 by omega] at hx
      simp only [tabL] at hx
      replace hx := Option.bind_eq_some_iff.1 hx
      obtain ⟨m, hm, hx⟩ := hx
      replace hx := Option.bind_eq_some_iff.1 hx
      obtain ⟨p', hp', hx⟩ := hx
      replace hx := Option.bind_eq_some_iff.1 hx
      obtain ⟨q', hq', hx⟩ := hx
      split at hx
      case isFalse => cases hx
      case isTrue h0 =>
      split at hx
      case isFalse => cases hx
      case isTrue h1 =>
      obtain ⟨pn, rfl⟩ := Int.eq_ofNat_of_zero_le h0
      rw [Int.toNat_natCast] at hx
      have HM := Aside0.mk hm
      have HP := Aside0.mk hp'
      have HQ := Aside0.mk hq'
      have HX1 := Aside0.mk hx
      clear HX hx hm hp' hq'
      have hpn : pn < 256 := by omega
      have HC : Aside0 (∀ n2, (wr.drewN n2).cell? ⟨w.heap.size, pn, none⟩ = some (.int .u8 (ys.getD pn 0))) := ⟨fun n2 => (blk_cell (w := wr.drewN n2) HK.out pn).trans (row_get ys pn (by rw [HY.out]; exact hpn))⟩
      have HF : Aside0 (∀ n2, (wr.drewN n2).frozen? ⟨w.heap.size, pn, none⟩ = false) := ⟨fun n2 => blk_frozen (w := wr.drewN n2) HK.out pn⟩
      go_wp2_with (go_at_call 172; refine (sbox_mixed.calls _ _ _ HM.out).mono ?_; rintro e w2 ⟨rfl, hd⟩; obtain ⟨n2, rfl⟩ := hd.out; clear hd; have hc := HC.out n2; have hf := HF.out n2)
      go_wp2_with (first | (go_at_call 43; (with_reducible refine (field_Mul.calls k _ _ _ _ HP.out).mono ?_); rintro e w3 ⟨rfl, hd⟩; obtain ⟨n3, rfl⟩ := hd.out; clear hd) | (go_at_call 43; (with_reducible refine (field_Mul.calls k _ _ _ _ HQ.out).mono ?_); rintro e w3 ⟨rfl, hd⟩; obtain ⟨n3, rfl⟩ := hd.out; clear hd))
      rename_i n1
      refine ⟨⟨j + 1, p', q', ys.set pn m, by omega, rfl, rfl, by go_num, HX1, ⟨by rw [List.length_set]; exact HY.out⟩, ⟨?_⟩, ⟨?_⟩⟩, by simp [intOf]; omega⟩
      · rw [← map_set_u8]
        exact blk_set (w := wr.drewN n2) HK.out pn _
      · exact pw_below_drewN (below_set (pw_below_drewN HB.out n2) (Nat.le_refl _)) _
    · obtain rfl : j = 255 := by omega
      have hx : ys = xs := by simpa [tabL] using HX.out
      subst hx
      clear HX
      have hc : wr.cell? ⟨w.heap.size, 0, none⟩ = some (.int .u8 (ys.getD 0 0)) := (blk_cell HK.out 0).trans (row_get ys 0 (by rw [HY.out]; omega))
      have hf : wr.frozen? ⟨w.heap.size, 0, none⟩ = false := blk_frozen HK.out 0
      have hb := blk_set HK.out 0 (.int .u8 99)
      rw [map_set_u8] at hb
      have hlen : (ys.set 0 99).length = 256 := by rw [List.length_set]; exact HY.out
      have hcv := run_convert_bytes_arg (P := Try.prog) (wr.setCell ⟨w.heap.size, 0, none⟩ (.int .u8 99)) 66 5 Try.underlying66 Try.underlying5 w.heap.size 0 256 256 (ys.set 0 99) hlen (fun i hi => by
        rw [Nat.zero_add, blk_cell hb i]
        exact row_get _ i (by rw [hlen]; exact hi)) 9 Try.underlying9
      clear hb hlen
      go_wp2
      go_ret
      exact ⟨rfl, below_set HB.out (Nat.le_refl _)⟩
end Go.Proofs.Ytokkhnjedmlbhaa.Pr
end
section
namespace Go.Proofs.Ytokkhnjedmlbhaa.M
open Go.RowKit Go.Proofs.Ytokkhnjedmlbhaa.Pr Go.Proofs.YtokkhnjedmlbhaaW.PrintWords Go.Proofs.YtokkhnjedmlbhaaW.PrintLast Go.Proofs.YtokkhnjedmlbhaaW.PrintMore Go.Proofs.YtokkhnjedmlbhaaGf
/-- A byte, turned by m. -/
def rot (a m : Nat) : Nat := (a * 2 ^ m) % 256 + a / 2 ^ (8 - m)
theorem and7 (n : Int) : Go.bits .and .i64 n 7 = n % 8 := by
  have h0 : 0 ≤ n % 18446744073709551616 := Int.emod_nonneg _ (by omega)
  have h1 : n % 18446744073709551616 < 18446744073709551616 := Int.emod_lt_of_pos _ (by omega)
  show IntKind.i64.wrap (((BitVec.ofInt 64 n) &&& (BitVec.ofInt 64 7)).toNat : Int) = _
  have h7 : (BitVec.ofInt 64 7).toNat = 2 ^ 3 - 1 := by decide
  rw [BitVec.toNat_and, h7, Nat.and_two_pow_sub_one_eq_mod, BitVec.toNat_ofInt, IntKind.wrap_i64]
  rw [show ((2 ^ 64 : Nat) : Int) = 18446744073709551616 from rfl]
  omega
def mixN (b : Nat) : Nat := b ^^^ rot b 1 ^^^ rot b 2 ^^^ rot b 3 ^^^ rot b 4 ^^^ 99
theorem mixed_all : allB 256 (fun b => decide (sbox_mixed.f (b : Int) = some ((mixN b : Nat) : Int)) && Nat.blt (mixN b) 256) = true := by decide +kernel
theorem mixN_lt {b : Nat} (hb : b < 256) : mixN b < 256 := by
  have := allB_of mixed_all b hb
  simp only [Bool.and_eq_true] at this
  exact Nat.le_of_ble_eq_true this.2
def sN (a : Nat) : Nat := mixN (inv a)
theorem sN_lt (a : Nat) : sN a < 256 := mixN_lt (inv_lt a)
def backN (a : Nat) : Nat := rot a 1 ^^^ rot a 3 ^^^ rot a 6 ^^^ 5
def bN (a : Nat) : Nat := inv (backN a)
theorem bN_lt (a : Nat) : bN a < 256 := inv_lt _
/-- All bytes for which bytes stand. -/
def sT : List Nat := (List.range 256).map sN
theorem back_all : allB 256 (fun a => Nat.beq (bN (sN a)) a && Nat.beq (sN (bN a)) a && !Nat.beq (sN a) a && !Nat.beq (sN a ^^^ a) 255) = true := by decide +kernel
theorem bs_id {a : Nat} (ha : a < 256) : bN (sN a) = a ∧ sN (bN a) = a ∧ sN a ≠ a ∧ sN a ^^^ a ≠ 255 := by
  have h := allB_of back_all a ha
  simp only [Bool.and_eq_true, Bool.not_eq_true'] at h
  exact ⟨Nat.eq_of_beq_eq_true h.1.1.1, Nat.eq_of_beq_eq_true h.1.1.2, (fun e => by have h2 := h.1.2; rw [e, Nat.beq_refl] at h2; cases h2), (fun e => by have h2 := h.2; rw [e] at h2; exact absurd h2 (by decide))⟩
theorem isB_map {f : Nat → Nat} (h : ∀ a, f a < 256) (l : List Nat) : isB (l.map f) := by
  intro x hx
  obtain ⟨a, _, rfl⟩ := List.mem_map.1 hx
  exact h a
theorem rsub_all : allB 256 (fun a => decide (clavigerref06_Sub.f 20 (a : Int) = some ((sN a : Nat) : Int))) = true := by decide +kernel
theorem rsub_c {a : Nat} (ha : a < 256) : Ev (fun k => clavigerref06_Sub.f k (a : Int)) ((sN a : Nat) : Int) := Ev.of (fun k => clavigerref06_Sub.mono _ k) (k := 20) (of_decide_eq_true (allB_of rsub_all a ha))
theorem rback_all : allB 256 (fun a => decide (clavigerref06_Back.f 20 (a : Int) = some ((bN a : Nat) : Int))) = true := by decide +kernel
theorem rback_c {a : Nat} (ha : a < 256) : Ev (fun k => clavigerref06_Back.f k (a : Int)) ((bN a : Nat) : Int) := Ev.of (fun k => clavigerref06_Back.mono _ k) (k := 20) (of_decide_eq_true (allB_of rback_all a ha))
end Go.Proofs.Ytokkhnjedmlbhaa.M
end
section
namespace Go.Proofs.Ytokkhnjedmlbhaa.M
open Go.RowKit Go.Proofs.Ytokkhnjedmlbhaa.Pr Go.Proofs.YtokkhnjedmlbhaaW.PrintWords Go.Proofs.YtokkhnjedmlbhaaW.PrintLast Go.Proofs.YtokkhnjedmlbhaaW.PrintMore Go.Proofs.YtokkhnjedmlbhaaGf
theorem rSubsL (d : Nat) : ∀ (i : Nat) (s : ByteArray), s.size ≤ 140737488355328 → i ≤ s.size → s.size - i = d → Ev (fun k => clavigerref06_Subs.l0 k s (mkB (((nb s).take i).map sN)) (i : Int)) (mkB ((nb s).map sN)) := by
  induction d with
  | zero =>
    intro i s hs hi hd
    obtain rfl : i = s.size := by omega
    rw [List.take_of_length_le (by rw [nb_length]; exact Nat.le_refl _)]
    exact Ev.step (f := fun _ => some (mkB ((nb s).map sN))) (fun k => by simp only [clavigerref06_Subs.l0]; rw [if_neg (by omega)]) (Ev.now _)
  | succ d ih =>
    intro i s hs hi hd
    have hl : i < (nb s).length := by rw [nb_length]; omega
    have hh := ih (i + 1) s hs (by omega) (by omega)
    rw [List.take_succ_eq_append_getElem hl, List.map_append, ← mkB_append] at hh
    refine Ev.step (f := fun k => (clavigerref06_Sub.f k (bt s (i : Int))).bind fun t185 => ((some (([t185] : List Int) : List Int)).bind fun y186 => (if (mkB (((nb s).take i).map sN)).size + (strOfNums y186).size ≤ 9223372036854775807 then (clavigerref06_Subs.l0 k s (mkB (((nb s).take i).map sN) ++ (strOfNums y186)) (wrap64 ((i : Int) + 1))) else (none)))) (fun k => by simp only [clavigerref06_Subs.l0]; rw [if_pos (by omega), if_pos (by omega)]) ?_
    have e : bb s i = (nb s)[i] := by rw [bb_nb, List.getD_eq_getElem?_getD, List.getElem?_eq_getElem hl]; rfl
    rw [bt_bb]
    refine evb (rsub_c (bb_lt s i)) (evs rfl ?_)
    rw [show strOfNums [((sN (bb s i) : Nat) : Int)] = mkB [sN (bb s i)] from strOfNums_cast [sN (bb s i)]]
    refine evp (by rw [mkB_size, mkB_size, List.length_map, List.length_take]; simp; omega) ?_
    rw [wrap_id (by omega) (by omega), e]
    exact hh
theorem rSubs_c (s : ByteArray) (hs : s.size ≤ 140737488355328) : Ev (fun k => clavigerref06_Subs.f k s) (mkB ((nb s).map sN)) := rSubsL s.size 0 s hs (by omega) (by omega)
theorem rBacksL (d : Nat) : ∀ (i : Nat) (s : ByteArray), s.size ≤ 140737488355328 → i ≤ s.size → s.size - i = d → Ev (fun k => clavigerref06_Backs.l0 k s (mkB (((nb s).take i).map bN)) (i : Int)) (mkB ((nb s).map bN)) := by
  induction d with
  | zero =>
    intro i s hs hi hd
    obtain rfl : i = s.size := by omega
    rw [List.take_of_length_le (by rw [nb_length]; exact Nat.le_refl _)]
    exact Ev.step (f := fun _ => some (mkB ((nb s).map bN))) (fun k => by simp only [clavigerref06_Backs.l0]; rw [if_neg (by omega)]) (Ev.now _)
  | succ d ih =>
    intro i s hs hi hd
    have hl : i < (nb s).length := by rw [nb_length]; omega
    have hh := ih (i + 1) s hs (by omega) (by omega)
    rw [List.take_succ_eq_append_getElem hl, List.map_append, ← mkB_append] at hh
    refine Ev.step (f := fun k => (clavigerref06_Back.f k (bt s (i : Int))).bind fun t185 => ((some (([t185] : List Int) : List Int)).bind fun y186 => (if (mkB (((nb s).take i).map bN)).size + (strOfNums y186).size ≤ 9223372036854775807 then (clavigerref06_Backs.l0 k s (mkB (((nb s).take i).map bN) ++ (strOfNums y186)) (wrap64 ((i : Int) + 1))) else (none)))) (fun k => by simp only [clavigerref06_Backs.l0]; rw [if_pos (by omega), if_pos (by omega)]) ?_
    have e : bb s i = (nb s)[i] := by rw [bb_nb, List.getD_eq_getElem?_getD, List.getElem?_eq_getElem hl]; rfl
    rw [bt_bb]
    refine evb (rback_c (bb_lt s i)) (evs rfl ?_)
    rw [show strOfNums [((bN (bb s i) : Nat) : Int)] = mkB [bN (bb s i)] from strOfNums_cast [bN (bb s i)]]
    refine evp (by rw [mkB_size, mkB_size, List.length_map, List.length_take]; simp; omega) ?_
    rw [wrap_id (by omega) (by omega), e]
    exact hh
theorem rBacks_c (s : ByteArray) (hs : s.size ≤ 140737488355328) : Ev (fun k => clavigerref06_Backs.f k s) (mkB ((nb s).map bN)) := rBacksL s.size 0 s hs (by omega) (by omega)
theorem table_all : sbox_Table.f 300 = some (mkB sT) := by decide +kernel
theorem table_c : Ev (fun k => sbox_Table.f k) (mkB sT) := Ev.of sbox_Table.mono (k := 300) table_all
end Go.Proofs.Ytokkhnjedmlbhaa.M
end
section
namespace Go.Proofs.Ytokkhnjedmlbhaa.M
open Go.Proofs.YtokkhnjedmlbhaaGf
set_option linter.unusedSimpArgs false
theorem xor_xc (a b : Nat) : a ^^^ (a ^^^ b) = b := by rw [← Nat.xor_assoc, Nat.xor_self, Nat.zero_xor]
theorem xor_lc (a b c : Nat) : a ^^^ (b ^^^ c) = b ^^^ (a ^^^ c) := by rw [← Nat.xor_assoc, Nat.xor_comm a, Nat.xor_assoc]
theorem gm_sm_all : allB 256 (fun a => Nat.beq (gm 1 a) a && Nat.beq (gm 2 a) (xt a) && Nat.beq (gm 3 a) (xt a ^^^ a) && Nat.beq (gm 9 a) (xt (xt (xt a)) ^^^ a) && Nat.beq (gm 11 a) (xt (xt (xt a)) ^^^ (xt a ^^^ a)) && Nat.beq (gm 13 a) (xt (xt (xt a)) ^^^ (xt (xt a) ^^^ a)) && Nat.beq (gm 14 a) (xt (xt (xt a)) ^^^ (xt (xt a) ^^^ xt a))) = true := by decide +kernel
theorem gm_sm {a : Nat} (ha : a < 256) : gm 1 a = a ∧ gm 2 a = xt a ∧ gm 3 a = xt a ^^^ a ∧ gm 9 a = xt (xt (xt a)) ^^^ a ∧ gm 11 a = xt (xt (xt a)) ^^^ (xt a ^^^ a) ∧ gm 13 a = xt (xt (xt a)) ^^^ (xt (xt a) ^^^ a) ∧ gm 14 a = xt (xt (xt a)) ^^^ (xt (xt a) ^^^ xt a) := by
  have h := allB_of gm_sm_all a ha
  simp only [Bool.and_eq_true] at h
  obtain ⟨⟨⟨⟨⟨⟨h1, h2⟩, h3⟩, h4⟩, h5⟩, h6⟩, h7⟩ := h
  exact ⟨Nat.eq_of_beq_eq_true h1, Nat.eq_of_beq_eq_true h2, Nat.eq_of_beq_eq_true h3, Nat.eq_of_beq_eq_true h4, Nat.eq_of_beq_eq_true h5, Nat.eq_of_beq_eq_true h6, Nat.eq_of_beq_eq_true h7⟩
/-- A byte of a column, mixed. -/
def m0 (a b c d : Nat) : Nat := xt a ^^^ (xt b ^^^ (b ^^^ (c ^^^ d)))
/-- A byte of a column, as it was. -/
def u0 (a b c d : Nat) : Nat := gm 14 a ^^^ (gm 11 b ^^^ (gm 13 c ^^^ gm 9 d))
theorem m0_lt {a b c d : Nat} (ha : a < 256) (hb : b < 256) (hc : c < 256) (hd : d < 256) : m0 a b c d < 256 := xor_lt (xt_lt ha) (xor_lt (xt_lt hb) (xor_lt hb (xor_lt hc hd)))
theorem u0_lt {a b c d : Nat} : u0 a b c d < 256 := xor_lt (gm_lt (by omega)) (xor_lt (gm_lt (by omega)) (xor_lt (gm_lt (by omega)) (gm_lt (by omega))))
set_option maxHeartbeats 4000000 in
theorem m0_u0 {a b c d : Nat} (ha : a < 256) (hb : b < 256) (hc : c < 256) (hd : d < 256) : m0 (u0 a b c d) (u0 b c d a) (u0 c d a b) (u0 d a b c) = a := by
  unfold m0 u0
  simp only [gm_sm ha, gm_sm hb, gm_sm hc, gm_sm hd]
  have ha1 := xt_lt ha; have ha2 := xt_lt ha1; have ha3 := xt_lt ha2
  have hb1 := xt_lt hb; have hb2 := xt_lt hb1; have hb3 := xt_lt hb2
  have hc1 := xt_lt hc; have hc2 := xt_lt hc1; have hc3 := xt_lt hc2
  have hd1 := xt_lt hd; have hd2 := xt_lt hd1; have hd3 := xt_lt hd2
  simp (config := {maxDischargeDepth := 30}) only [xt_lin, xor_lt, ha, hb, hc, hd, ha1, ha2, ha3, hb1, hb2, hb3, hc1, hc2, hc3, hd1, hd2, hd3]
  clear ha1 ha2 ha3 hb1 hb2 hb3 hc1 hc2 hc3 hd1 hd2 hd3
  generalize xt (xt (xt (xt a))) = a4
  generalize xt (xt (xt a)) = a3
  generalize xt (xt a) = a2
  generalize xt a = a1
  generalize xt (xt (xt (xt b))) = b4
  generalize xt (xt (xt b)) = b3
  generalize xt (xt b) = b2
  generalize xt b = b1
  generalize xt (xt (xt (xt c))) = c4
  generalize xt (xt (xt c)) = c3
  generalize xt (xt c) = c2
  generalize xt c = c1
  generalize xt (xt (xt (xt d))) = d4
  generalize xt (xt (xt d)) = d3
  generalize xt (xt d) = d2
  generalize xt d = d1
  simp only [Nat.xor_assoc, Nat.xor_comm, xor_lc, Nat.xor_self, Nat.xor_zero, Nat.zero_xor, xor_xc]
set_option maxHeartbeats 4000000 in
theorem u0_m0 {a b c d : Nat} (ha : a < 256) (hb : b < 256) (hc : c < 256) (hd : d < 256) : u0 (m0 a b c d) (m0 b c d a) (m0 c d a b) (m0 d a b c) = a := by
  have h1 := m0_lt ha hb hc hd
  have h2 := m0_lt hb hc hd ha
  have h3 := m0_lt hc hd ha hb
  have h4 := m0_lt hd ha hb hc
  unfold u0
  simp only [gm_sm h1, gm_sm h2, gm_sm h3, gm_sm h4]
  clear h1 h2 h3 h4
  unfold m0
  have ha1 := xt_lt ha; have ha2 := xt_lt ha1; have ha3 := xt_lt ha2
  have hb1 := xt_lt hb; have hb2 := xt_lt hb1; have hb3 := xt_lt hb2
  have hc1 := xt_lt hc; have hc2 := xt_lt hc1; have hc3 := xt_lt hc2
  have hd1 := xt_lt hd; have hd2 := xt_lt hd1; have hd3 := xt_lt hd2
  simp (config := {maxDischargeDepth := 30}) only [xt_lin, xor_lt, ha, hb, hc, hd, ha1, ha2, ha3, hb1, hb2, hb3, hc1, hc2, hc3, hd1, hd2, hd3]
  clear ha1 ha2 ha3 hb1 hb2 hb3 hc1 hc2 hc3 hd1 hd2 hd3
  generalize xt (xt (xt (xt a))) = a4
  generalize xt (xt (xt a)) = a3
  generalize xt (xt a) = a2
  generalize xt a = a1
  generalize xt (xt (xt (xt b))) = b4
  generalize xt (xt (xt b)) = b3
  generalize xt (xt b) = b2
  generalize xt b = b1
  generalize xt (xt (xt (xt c))) = c4
  generalize xt (xt (xt c)) = c3
  generalize xt (xt c) = c2
  generalize xt c = c1
  generalize xt (xt (xt (xt d))) = d4
  generalize xt (xt (xt d)) = d3
  generalize xt (xt d) = d2
  generalize xt d = d1
  simp only [Nat.xor_assoc, Nat.xor_comm, xor_lc, Nat.xor_self, Nat.xor_zero, Nat.zero_xor, xor_xc]
/-- The place j further in a column. -/
def nx (i j : Nat) : Nat := 4 * (i / 4) + (i % 4 + j) % 4
theorem nx_zero (i : Nat) : nx i 0 = i := by unfold nx; omega
theorem nx_nx (i j k : Nat) : nx (nx i j) k = nx i (j + k) := by unfold nx; omega
theorem nx_lt {i : Nat} (hi : i < 16) (j : Nat) : nx i j < 16 := by unfold nx; omega
/-- A state, mixed; back. -/
def MX (g : Nat → Nat) (i : Nat) : Nat := m0 (g i) (g (nx i 1)) (g (nx i 2)) (g (nx i 3))
def UX (g : Nat → Nat) (i : Nat) : Nat := u0 (g i) (g (nx i 1)) (g (nx i 2)) (g (nx i 3))
theorem MX_lt {g : Nat → Nat} (hg : ∀ i, g i < 256) (i : Nat) : MX g i < 256 := m0_lt (hg _) (hg _) (hg _) (hg _)
theorem UX_lt (g : Nat → Nat) (i : Nat) : UX g i < 256 := u0_lt
theorem nx14 (i : Nat) : nx i 4 = i := by unfold nx; omega
theorem nx15 (i : Nat) : nx i 5 = nx i 1 := by unfold nx; omega
theorem nx16 (i : Nat) : nx i 6 = nx i 2 := by unfold nx; omega
theorem MX_UX {g : Nat → Nat} (hg : ∀ i, g i < 256) (i : Nat) : MX (UX g) i = g i := by
  unfold MX UX
  simp only [nx_nx]
  rw [nx14, nx15, nx16]
  exact m0_u0 (hg _) (hg _) (hg _) (hg _)
theorem UX_MX {g : Nat → Nat} (hg : ∀ i, g i < 256) (i : Nat) : UX (MX g) i = g i := by
  unfold MX UX
  simp only [nx_nx]
  rw [nx14, nx15, nx16]
  exact u0_m0 (hg _) (hg _) (hg _) (hg _)
theorem MX_congr {g h : Nat → Nat} (H : ∀ i, i < 16 → g i = h i) {i : Nat} (hi : i < 16) : MX g i = MX h i := by
  unfold MX; rw [H _ hi, H _ (nx_lt hi _), H _ (nx_lt hi _), H _ (nx_lt hi _)]
theorem UX_congr {g h : Nat → Nat} (H : ∀ i, i < 16 → g i = h i) {i : Nat} (hi : i < 16) : UX g i = UX h i := by
  unfold UX; rw [H _ hi, H _ (nx_lt hi _), H _ (nx_lt hi _), H _ (nx_lt hi _)]
/-- Rows moved, and back. -/
def SH (g : Nat → Nat) (i : Nat) : Nat := g (4 * ((i / 4 + i % 4) % 4) + i % 4)
def UH (g : Nat → Nat) (i : Nat) : Nat := g (4 * ((i / 4 + 4 - i % 4) % 4) + i % 4)
theorem SH_UH {g : Nat → Nat} {i : Nat} (hi : i < 16) : SH (UH g) i = g i := by simp only [SH, UH]; congr 1; omega
theorem UH_SH {g : Nat → Nat} {i : Nat} (hi : i < 16) : UH (SH g) i = g i := by simp only [SH, UH]; congr 1; omega
theorem SH_congr {g h : Nat → Nat} (H : ∀ i, i < 16 → g i = h i) (i : Nat) : SH g i = SH h i := H _ (by omega)
theorem UH_congr {g h : Nat → Nat} (H : ∀ i, i < 16 → g i = h i) (i : Nat) : UH g i = UH h i := H _ (by omega)
end Go.Proofs.Ytokkhnjedmlbhaa.M
end
section
namespace Go.Proofs.Ytokkhnjedmlbhaa.Pr
open Go.RowKit Go.Proofs.YtokkhnjedmlbhaaW.PrintWords Go.Proofs.YtokkhnjedmlbhaaW.PrintLast Go.Proofs.YtokkhnjedmlbhaaW.PrintMore
/-- Twice, as a number. -/
def tw (a : Int) : Int := if Go.bits .and .u8 a 128 = 0 then (a * 2) % 256 else Go.bits .xor .u8 ((a * 2) % 256) 27
theorem tw_some (a : Int) : field_Twice.f a = some (tw a) := by
  unfold field_Twice.f tw
  split <;> rfl
theorem twice_still (a : Int) (w : World) : Calls Try.prog 41 #[.int .u8 a] w fun e w' => e = .returned (.int .u8 (tw a)) ∧ w' = w := by
  by_cases h : Go.bits .and .u8 a 128 = 0
  · have e : tw a = (a * 2) % 256 := if_pos h
    have hb : (Go.bits .and .u8 a 128 == 0) = true := beq_iff_eq.mpr h
    have hb2 : (Go.bits .and .u8 a 128 != 0) = false := bne_eq_false_iff_eq.mpr h
    rw [e]
    clear e h
    go_enter Try.func41, Try.ntmps41
    go_wp2
    go_ret
    exact ⟨rfl, rfl⟩
  · have e : tw a = Go.bits .xor .u8 ((a * 2) % 256) 27 := if_neg h
    have hb : (Go.bits .and .u8 a 128 == 0) = false := beq_eq_false_iff_ne.mpr h
    have hb2 : (Go.bits .and .u8 a 128 != 0) = true := bne_iff_ne.mpr h
    rw [e]
    clear e h
    go_enter Try.func41, Try.ntmps41
    go_wp2
    go_ret
    exact ⟨rfl, rfl⟩
theorem still_tail {P : Program} {id : Nat} {Q : Exit → Act → World → Prop} {a : Act} {w : World} {l : List Oper} (n : Nat) (hm : P.follows .mixedOrders = true) (hB : Region.lexTailB .any l.toArray n = true)
    (h : wpStill P l.toArray w.drew (fun a' => wpList P l.toArray Q (l.drop n) a' w.drew) (l.take n) a) : (Code.region id l.toArray true).wp P Q a w := wp_region_still_tail n hm hB h
end Go.Proofs.Ytokkhnjedmlbhaa.Pr
end
section
namespace Go.Proofs.Ytokkhnjedmlbhaa.Pr
open Go.RowKit Go.Proofs.YtokkhnjedmlbhaaW.PrintWords Go.Proofs.YtokkhnjedmlbhaaW.PrintLast Go.Proofs.YtokkhnjedmlbhaaW.PrintMore Go.Proofs.YtokkhnjedmlbhaaHw Go.Proofs.YtokkhnjedmlbhaaGf
/-- A block of bytes. -/
def BY (w : World) (g : Nat) (t : TypeId) (xs : List Int) : Prop := w.heap[g]? = some (.cells ((xs.map (Value.int .u8)).toArray) t (0, 0))
theorem BY.cell {w : World} {g : Nat} {t : TypeId} {xs : List Int} (h : BY w g t xs) (i : Nat) (hi : i < xs.length) : w.cell? ⟨g, i, none⟩ = some (.int .u8 (xs.getD i 0)) := by
  rw [blk_cell h]
  simp [hi]
theorem BY.frozen {w : World} {g : Nat} {t : TypeId} {xs : List Int} (h : BY w g t xs) (i : Nat) : w.frozen? ⟨g, i, none⟩ = false := blk_frozen h i
theorem BY.set {w : World} {g : Nat} {t : TypeId} {xs : List Int} (h : BY w g t xs) (i : Nat) (v : Int) : BY (w.setCell ⟨g, i, none⟩ (.int .u8 v)) g t (xs.set i v) := by
  have := blk_set h i (.int .u8 v)
  unfold BY
  rw [this]
  congr 2
  apply Array.ext'
  simp only [Array.toList_setIfInBounds]
  exact (List.map_set).symm
theorem BY.lt {w : World} {g : Nat} {t : TypeId} {xs : List Int} (h : BY w g t xs) : g < w.heap.size := blk_lt h
theorem BY.same {w w1 : World} {g : Nat} {t : TypeId} {xs : List Int} (h : BY w g t xs) (he : w1.heap[g]? = w.heap[g]?) : BY w1 g t xs := he.trans h
theorem BY.below {w w1 : World} {g : Nat} {t : TypeId} {xs : List Int} (h : BY w g t xs) (hb : Below w.heap.size w w1) : BY w1 g t xs := h.same (hb.block g h.lt)
theorem BY.drewN {w : World} {g : Nat} {t : TypeId} {xs : List Int} (h : BY w g t xs) (n : Nat) : BY (w.drewN n) g t xs := h
theorem BY.drew {w : World} {g : Nat} {t : TypeId} {xs : List Int} (h : BY w g t xs) : BY w.drew g t xs := h
/-- What stands in the tables for a byte. -/
def tabF (p b : Nat) : Nat := if p = 0 then M.sN b else if p = 2 then xt b else if p = 3 then gm 9 b else if p = 4 then gm 11 b else if p = 5 then gm 13 b else gm 14 b
/-- The tables behind i rounds. -/
def tabV (i q : Nat) : Nat := if q / 256 = 1 then (if M.bN (q % 256) < i then M.bN (q % 256) else 0) else if q % 256 < i then tabF (q / 256) (q % 256) else 0
def tabR (i : Nat) : List Int := (List.range 1792).map fun q => ((tabV i q : Nat) : Int)
theorem tabR_length (i : Nat) : (tabR i).length = 1792 := by rw [tabR, List.length_map, List.length_range]
theorem tabV_zero (q : Nat) : tabV 0 q = 0 := by unfold tabV; split <;> simp
theorem tabR_zero : tabR 0 = List.replicate 1792 (0 : Int) := by
  apply List.ext_getElem
  · rw [tabR_length, List.length_replicate]
  · intro q h1 h2
    simp only [tabR, List.getElem_map, tabV_zero, List.getElem_replicate]
    rfl
theorem tab_step (i : Nat) (hi : i < 256) : (((((((tabR i).set i ((M.sN i : Nat) : Int)).set (256 + M.sN i) ((i : Nat) : Int)).set (512 + i) ((xt i : Nat) : Int)).set (768 + i) ((gm 9 i : Nat) : Int)).set (1024 + i) ((gm 11 i : Nat) : Int)).set (1280 + i) ((gm 13 i : Nat) : Int)).set (1536 + i) ((gm 14 i : Nat) : Int) = tabR (i + 1) := by
  have hs := M.sN_lt i
  apply List.ext_getElem
  · simp only [List.length_set, tabR_length]
  · intro q h1 h2
    have hq : q < 1792 := by rw [tabR_length] at h2; exact h2
    obtain ⟨p, b, hb, rfl⟩ : ∃ p b, b < 256 ∧ q = 256 * p + b := ⟨q / 256, q % 256, by omega, by omega⟩
    have hp : p < 7 := by omega
    have e1 : (256 * p + b) / 256 = p := by omega
    have e2 : (256 * p + b) % 256 = b := by omega
    simp only [List.getElem_set, tabR, List.getElem_map, List.getElem_range, tabV, e1, e2]
    clear h1 h2 e1 e2
    have hbs : b = M.sN i ↔ M.bN b = i := ⟨fun e => by rw [e]; exact (M.bs_id hi).1, fun e => by rw [← e]; exact (M.bs_id hb).2.1.symm⟩
    obtain rfl | rfl | rfl | rfl | rfl | rfl | rfl : p = 0 ∨ p = 1 ∨ p = 2 ∨ p = 3 ∨ p = 4 ∨ p = 5 ∨ p = 6 := by omega
    · rw [if_neg (by omega), if_neg (by omega), if_neg (by omega), if_neg (by omega), if_neg (by omega), if_neg (by omega)]
      by_cases e : b = i
      · rw [if_pos (by omega), if_neg (by decide), if_pos (by omega), e]
        rfl
      · rw [if_neg (by omega), if_neg (by decide)]
        by_cases e2 : b < i
        · rw [if_pos e2, if_neg (by decide), if_pos (by omega)]
        · rw [if_neg e2, if_neg (by decide), if_neg (by omega)]
    · rw [if_neg (by omega), if_neg (by omega), if_neg (by omega), if_neg (by omega), if_neg (by omega)]
      by_cases e : b = M.sN i
      · have e' := hbs.1 e
        rw [if_pos (by omega), if_pos rfl, e', if_pos (by omega)]
      · have e' : M.bN b ≠ i := fun h => e (hbs.2 h)
        rw [if_neg (by omega), if_neg (by omega), if_pos rfl]
        by_cases e2 : M.bN b < i
        · rw [if_pos e2, if_pos rfl, if_pos (by omega)]
        · rw [if_neg e2, if_pos rfl, if_neg (by omega)]
    · rw [if_neg (by omega), if_neg (by omega), if_neg (by omega), if_neg (by omega)]
      by_cases e : b = i
      · rw [if_pos (by omega), if_neg (by decide), if_pos (by omega), e]
        rfl
      · rw [if_neg (by omega), if_neg (by omega), if_neg (by omega), if_neg (by decide)]
        by_cases e2 : b < i
        · rw [if_pos e2, if_neg (by decide), if_pos (by omega)]
        · rw [if_neg e2, if_neg (by decide), if_neg (by omega)]
    · rw [if_neg (by omega), if_neg (by omega), if_neg (by omega)]
      by_cases e : b = i
      · rw [if_pos (by omega), if_neg (by decide), if_pos (by omega), e]
        rfl
      · rw [if_neg (by omega), if_neg (by omega), if_neg (by omega), if_neg (by omega), if_neg (by decide)]
        by_cases e2 : b < i
        · rw [if_pos e2, if_neg (by decide), if_pos (by omega)]
        · rw [if_neg e2, if_neg (by decide), if_neg (by omega)]
    · rw [if_neg (by omega), if_neg (by omega)]
      by_cases e : b = i
      · rw [if_pos (by omega), if_neg (by decide), if_pos (by omega), e]
        rfl
      · rw [if_neg (by omega), if_neg (by omega), if_neg (by omega), if_neg (by omega), if_neg (by omega), if_neg (by decide)]
        by_cases e2 : b < i
        · rw [if_pos e2, if_neg (by decide), if_pos (by omega)]
        · rw [if_neg e2, if_neg (by decide), if_neg (by omega)]
    · rw [if_neg (by omega)]
      by_cases e : b = i
      · rw [if_pos (by omega), if_neg (by decide), if_pos (by omega), e]
        rfl
      · rw [if_neg (by omega), if_neg (by omega), if_neg (by omega), if_neg (by omega), if_neg (by omega), if_neg (by omega), if_neg (by decide)]
        by_cases e2 : b < i
        · rw [if_pos e2, if_neg (by decide), if_pos (by omega)]
        · rw [if_neg e2, if_neg (by decide), if_neg (by omega)]
    · by_cases e : b = i
      · rw [if_pos (by omega), if_neg (by decide), if_pos (by omega), e]
        rfl
      · rw [if_neg (by omega), if_neg (by omega), if_neg (by omega), if_neg (by omega), if_neg (by omega), if_neg (by omega), if_neg (by omega), if_neg (by decide)]
        by_cases e2 : b < i
        · rw [if_pos e2, if_neg (by decide), if_pos (by omega)]
        · rw [if_neg e2, if_neg (by decide), if_neg (by omega)]
theorem tw_nat {a : Nat} (ha : a < 256) : tw (a : Int) = ((xt a : Nat) : Int) := Option.some.inj ((tw_some _).symm.trans (M.twice_c ha))
theorem twice_nat {a : Nat} (ha : a < 256) (w : World) : Calls Try.prog 41 #[.int .u8 (a : Int)] w fun e w' => e = .returned (.int .u8 ((xt a : Nat) : Int)) ∧ w' = w := by
  rw [← tw_nat ha]
  exact twice_still _ w
end Go.Proofs.Ytokkhnjedmlbhaa.Pr
end
