-- several texts in one (by the session's program shake.py)
import Derived.Test.YtokkhnjedmlbhaaZFieldP
import Derived.Shelf.Strings.OnBuilder
import Derived.Shelf.Strings.BuilderK
import Derived.Shelf.Strings.Repeat
import Derived.Test.YtokkhnjedmlbhaaProg
section
namespace Go.Proofs.Ytokkhnjedmlbhaa.M
open Go.RowKit Go.Proofs.Ytokkhnjedmlbhaa.Pr Go.Proofs.YtokkhnjedmlbhaaW.PrintWords Go.Proofs.YtokkhnjedmlbhaaW.PrintLast Go.Proofs.YtokkhnjedmlbhaaW.PrintMore Go.Proofs.YtokkhnjedmlbhaaGf
theorem ix {p q : Nat} (hp : p < 4611686018427387904) (hq : q < 4611686018427387904) : Go.bits .xor .i64 (p : Int) (q : Int) = ((p ^^^ q : Nat) : Int) := by
  have h := Nat.xor_lt_two_pow (n := 62) hp hq
  have h1 : p % 2 ^ 64 = p := Nat.mod_eq_of_lt (by omega)
  have h2 : q % 2 ^ 64 = q := Nat.mod_eq_of_lt (by omega)
  show IntKind.i64.wrap (((BitVec.ofInt 64 (p : Int)) ^^^ (BitVec.ofInt 64 (q : Int))).toNat : Int) = _
  simp only [BitVec.ofInt_natCast, BitVec.toNat_xor, BitVec.toNat_ofNat, h1, h2]
  rw [IntKind.wrap_i64]
  omega
theorem shr_c {b k : Nat} (hk : k ≤ 64) : shr .i64 (b : Int) (k : Int) = ((b / 2 ^ k : Nat) : Int) := by
  unfold shr
  rw [show min ((k : Int).toNat) IntKind.i64.bits = k from by simp [IntKind.bits]; omega]
  simp
theorem shl_c {a k : Nat} (hk : k ≤ 64) (h : a * 2 ^ k < 9223372036854775808) : shl .i64 (a : Int) (k : Int) = ((a * 2 ^ k : Nat) : Int) := by
  unfold shl
  rw [show min ((k : Int).toNat) IntKind.i64.bits = k from by simp [IntKind.bits]; omega]
  have : (a : Int) * 2 ^ k = ((a * 2 ^ k : Nat) : Int) := by simp
  rw [this, IntKind.wrap_i64]
  omega
theorem tmod2 (x : Nat) : Int.tmod (x : Int) 2 = ((x % 2 : Nat) : Int) := by rw [Int.tmod_eq_emod_of_nonneg (by omega)]; omega
/-- The product without a remainder, by the first k bits of b. -/
def clT (a b : Nat) : Nat → Nat
  | 0 => 0
  | k + 1 => clT a b k ^^^ (if b / 2 ^ k % 2 = 1 then a * 2 ^ k else 0)
/-- The remainder, j steps of it. -/
def rdT (p : Nat) : Nat → Nat
  | 0 => p
  | j + 1 => rdT p j ^^^ (if rdT p j / 2 ^ (14 - j) % 2 = 1 then 283 * 2 ^ (6 - j) else 0)
theorem pow_le8 {k : Nat} (hk : k < 8) : 2 ^ k ≤ 128 := by
  have : 2 ^ k ≤ 2 ^ 7 := Nat.pow_le_pow_right (by omega) (by omega)
  omega
theorem clT_lt {a b : Nat} (ha : a < 256) (k : Nat) (hk : k ≤ 8) : clT a b k < 32768 := by
  induction k with
  | zero => show 0 < 32768; omega
  | succ k ih =>
    refine Nat.xor_lt_two_pow (n := 15) (ih (by omega)) ?_
    have h1 := pow_le8 (show k < 8 by omega)
    have h2 : a * 2 ^ k ≤ 255 * 128 := Nat.mul_le_mul (by omega) h1
    split
    · show _ < 32768; omega
    · show 0 < 32768; omega
theorem rdT_lt {p : Nat} (hp : p < 32768) (j : Nat) (hj : j ≤ 7) : rdT p j < 32768 := by
  induction j with
  | zero => exact hp
  | succ j ih =>
    refine Nat.xor_lt_two_pow (n := 15) (ih (by omega)) ?_
    have h1 : 2 ^ (6 - j) ≤ 2 ^ 6 := Nat.pow_le_pow_right (by omega) (by omega)
    have h2 : 283 * 2 ^ (6 - j) ≤ 283 * 64 := Nat.mul_le_mul_left _ h1
    split
    · show _ < 32768; omega
    · show 0 < 32768; omega
theorem bit_xor (p q i : Nat) : (p ^^^ q) / 2 ^ i % 2 = 1 ↔ ¬ (p / 2 ^ i % 2 = 1 ↔ q / 2 ^ i % 2 = 1) := by
  have h := Nat.testBit_xor p q i
  simp only [Nat.testBit_eq_decide_div_mod_eq] at h
  by_cases h1 : p / 2 ^ i % 2 = 1 <;> by_cases h2 : q / 2 ^ i % 2 = 1 <;> simp [h1, h2] at h ⊢ <;> simpa using h
theorem rdT_xor (p q j : Nat) : rdT (p ^^^ q) j = rdT p j ^^^ rdT q j := by
  induction j with
  | zero => rfl
  | succ j ih =>
    simp only [rdT]
    rw [ih, xor4]
    congr 1
    have h := bit_xor (rdT p j) (rdT q j) (14 - j)
    by_cases h1 : rdT p j / 2 ^ (14 - j) % 2 = 1 <;> by_cases h2 : rdT q j / 2 ^ (14 - j) % 2 = 1 <;> simp [h, h1, h2]
theorem rdT_zero (j : Nat) : rdT 0 j = 0 := by
  induction j with
  | zero => rfl
  | succ j ih => simp [rdT, ih]
/-- xt, k times. -/
def xtN : Nat → Nat → Nat
  | 0, a => a
  | k + 1, a => xtN k (xt a)
theorem rd_all : allB 256 (fun a => allB 8 fun k => Nat.beq (rdT (a * 2 ^ k) 7) (xtN k a)) = true := by decide +kernel
theorem rd_pow {a k : Nat} (ha : a < 256) (hk : k < 8) : rdT (a * 2 ^ k) 7 = xtN k a := Nat.eq_of_beq_eq_true (allB_of (allB_of rd_all a ha) k hk)
theorem rd_ite {a k : Nat} {c : Prop} [Decidable c] (ha : a < 256) (hk : k < 8) : rdT (if c then a * 2 ^ k else 0) 7 = if c then xtN k a else 0 := by
  split
  · exact rd_pow ha hk
  · exact rdT_zero 7
theorem rd_cl {a : Nat} (b : Nat) (ha : a < 256) : rdT (clT a b 8) 7 = gm a b := by
  simp only [clT, rdT_xor, rdT_zero, rd_ite ha (show 0 < 8 by omega), rd_ite ha (show 1 < 8 by omega), rd_ite ha (show 2 < 8 by omega), rd_ite ha (show 3 < 8 by omega), rd_ite ha (show 4 < 8 by omega), rd_ite ha (show 5 < 8 by omega), rd_ite ha (show 6 < 8 by omega), rd_ite ha (show 7 < 8 by omega)]
  simp only [gm, mulF, xtN, Nat.div_div_eq_div_mul, Nat.zero_xor, Nat.xor_zero, Nat.xor_assoc, Nat.pow_zero, Nat.div_one]
theorem refMulR (d : Nat) : ∀ (j p : Nat), j ≤ 7 → 7 - j = d → p < 32768 → Ev (fun k => clavigerref05_Mul.l1 k ((rdT p j : Nat) : Int) ((14 - j : Nat) : Int)) (((rdT p 7 % 256 : Nat)) : Int) := by
  induction d with
  | zero =>
    intro j p hj hd hp
    obtain rfl : j = 7 := by omega
    refine Ev.step (f := fun _ => some (((rdT p 7 : Nat) : Int) % 256)) (fun k => by simp only [clavigerref05_Mul.l1]; rw [if_neg (by omega)]) ?_
    exact Ev.now _
  | succ d ih =>
    intro j p hj hd hp
    have hi := ih (j + 1) p (by omega) (by omega) hp
    have hl := rdT_lt hp j hj
    refine Ev.step (fun k => ?_) hi
    simp only [clavigerref05_Mul.l1]
    rw [if_pos (by omega), if_pos (by omega), shr_c (by omega), tmod2]
    have e1 : wrap64 (((14 - j : Nat) : Int) - 1) = ((14 - (j + 1) : Nat) : Int) := by unfold wrap64; omega
    have e2 : wrap64 (((14 - j : Nat) : Int) - 8) = ((6 - j : Nat) : Int) := by unfold wrap64; omega
    have h1 : 2 ^ (6 - j) ≤ 2 ^ 6 := Nat.pow_le_pow_right (by omega) (by omega)
    have h2 : 283 * 2 ^ (6 - j) ≤ 283 * 64 := Nat.mul_le_mul_left _ h1
    rw [e1, e2]
    by_cases hb : rdT p j / 2 ^ (14 - j) % 2 = 1
    · rw [if_pos (by omega), if_pos (by omega), show (283 : Int) = ((283 : Nat) : Int) from rfl, shl_c (by omega) (by omega), ix (by omega) (by omega)]
      simp only [rdT]
      rw [if_pos hb]
    · rw [if_neg (by omega)]
      simp only [rdT]
      rw [if_neg hb, Nat.xor_zero]
theorem refMulL (d : Nat) : ∀ (j a b : Nat), j ≤ 8 → 8 - j = d → a < 256 → b < 256 → Ev (fun k => clavigerref05_Mul.l0 k (a : Int) (b : Int) ((clT a b j : Nat) : Int) (j : Int)) ((gm a b : Nat) : Int) := by
  induction d with
  | zero =>
    intro j a b hj hd ha hb
    obtain rfl : j = 8 := by omega
    have hr := refMulR 7 0 (clT a b 8) (by omega) (by omega) (clT_lt ha 8 (by omega))
    rw [rd_cl b ha, Nat.mod_eq_of_lt (gm_lt ha)] at hr
    refine Ev.step (fun k => ?_) hr
    simp only [clavigerref05_Mul.l0]
    rw [if_neg (by omega)]
    rfl
  | succ d ih =>
    intro j a b hj hd ha hb
    have hi := ih (j + 1) a b (by omega) (by omega) ha hb
    have hl := clT_lt (b := b) ha j hj
    refine Ev.step (fun k => ?_) hi
    simp only [clavigerref05_Mul.l0]
    have h1 := pow_le8 (show j < 8 by omega)
    have h2 : a * 2 ^ j ≤ 255 * 128 := Nat.mul_le_mul (by omega) h1
    rw [if_pos (by omega), if_pos (by omega), wrap_id (x := (b : Int)) (by omega) (by omega), wrap_id (x := (a : Int)) (by omega) (by omega), wrap_id (x := (j : Int) + 1) (by omega) (by omega), shr_c (by omega), tmod2]
    by_cases hb' : b / 2 ^ j % 2 = 1
    · rw [if_pos (by omega), shl_c (by omega) (by omega), ix (by omega) (by omega)]
      simp only [clT]
      rw [if_pos hb']
      rfl
    · rw [if_neg (by omega)]
      simp only [clT]
      rw [if_neg hb', Nat.xor_zero]
      rfl
theorem rmul_c {a b : Nat} (ha : a < 256) (hb : b < 256) : Ev (fun k => clavigerref05_Mul.f k (a : Int) (b : Int)) ((gm a b : Nat) : Int) := refMulL 8 0 a b (by omega) (by omega) ha hb
theorem rpowL (d : Nat) : ∀ (i a : Nat) (n : Int), 0 ≤ n → i ≤ (n.toNat % 255) → n.toNat % 255 - i = d → a < 256 → Ev (fun k => clavigerref05_Pow.l0 k (a : Int) n ((pw a i : Nat) : Int) (i : Int)) ((pw a (n.toNat % 255) : Nat) : Int) := by
  induction d with
  | zero =>
    intro i a n h0 hi hd ha
    obtain rfl : i = n.toNat % 255 := by omega
    refine Ev.step (f := fun _ => some ((pw a (n.toNat % 255) : Nat) : Int)) (fun k => by simp only [clavigerref05_Pow.l0]; rw [if_neg (by rw [Int.tmod_eq_emod_of_nonneg h0]; omega)]) (Ev.now _)
  | succ d ih =>
    intro i a n h0 hi hd ha
    have hh := ih (i + 1) a n h0 (by omega) (by omega) ha
    refine Ev.step (f := fun k => (clavigerref05_Mul.f k ((pw a i : Nat) : Int) (a : Int)).bind fun t109 => (clavigerref05_Pow.l0 k (a : Int) n t109 (wrap64 ((i : Int) + 1)))) (fun k => by simp only [clavigerref05_Pow.l0]; rw [if_pos (by rw [Int.tmod_eq_emod_of_nonneg h0]; omega)]) ?_
    refine Ev.bind (rmul_c (pw_lt i) ha) ?_
    rw [wrap_id (by omega) (by omega)]
    exact hh
theorem rpow_c {a : Nat} (ha : a < 256) (n : Int) : Ev (fun k => clavigerref05_Pow.f k (a : Int) n) ((powI a n : Nat) : Int) := by
  unfold powI
  by_cases h : n < 1
  · refine Ev.congr (f := fun _ => some (1 : Int)) (fun k => by simp only [clavigerref05_Pow.f]; rw [if_pos h]) ?_
    rw [show n.toNat = 0 by omega]
    exact Ev.now _
  · by_cases h0 : a = 0
    · subst h0
      refine Ev.congr (f := fun _ => some (0 : Int)) (fun k => by simp only [clavigerref05_Pow.f]; rw [if_neg h, if_pos (by rfl)]) ?_
      rw [pw_zero (by omega)]
      exact Ev.now _
    · have := rpowL (n.toNat % 255) 0 a n (by omega) (by omega) (by omega) ha
      rw [pw_mod ha h0] at this
      refine Ev.congr (fun k => by simp only [clavigerref05_Pow.f]; rw [if_neg h, if_neg (by omega)]; rfl) this
end Go.Proofs.Ytokkhnjedmlbhaa.M
end
section
namespace Go.Proofs.Ytokkhnjedmlbhaa.M
open Go.RowKit Go.Proofs.Ytokkhnjedmlbhaa.Pr Go.Proofs.YtokkhnjedmlbhaaW.PrintWords Go.Proofs.YtokkhnjedmlbhaaW.PrintLast Go.Proofs.YtokkhnjedmlbhaaW.PrintMore Go.Proofs.YtokkhnjedmlbhaaGf
/-- A call whose answer is known, ahead of what goes on with it. -/
theorem evb {α β : Type} {g : Nat → Option α} {f : Nat → α → Option β} {a : α} {r : β} (h : Ev g a) (k : Ev (fun n => f n a) r) : Ev (fun n => (g n).bind (f n)) r := Ev.bind h k
theorem evs {α β : Type} {g : Option α} {f : Nat → α → Option β} {a : α} {r : β} (h : g = some a) (k : Ev (fun n => f n a) r) : Ev (fun n => g.bind (f n)) r := by subst h; exact k
theorem evp {α : Type} {c : Prop} [Decidable c] {f g : Nat → Option α} {r : α} (h : c) (k : Ev f r) : Ev (fun n => if c then f n else g n) r := by simp only [if_pos h]; exact k
theorem evn {α : Type} {c : Prop} [Decidable c] {f g : Nat → Option α} {r : α} (h : ¬ c) (k : Ev g r) : Ev (fun n => if c then f n else g n) r := by simp only [if_neg h]; exact k
/-- The byte at a place, as a number. -/
def bb (s : ByteArray) (i : Nat) : Nat := (bt s (i : Int)).toNat
theorem bb_lt (s : ByteArray) (i : Nat) : bb s i < 256 := by have := bt_range s (i : Int); unfold bb; omega
theorem bt_bb (s : ByteArray) (i : Nat) : bt s (i : Int) = ((bb s i : Nat) : Int) := by have := bt_range s (i : Int); unfold bb; omega
end Go.Proofs.Ytokkhnjedmlbhaa.M
end
section
namespace Go.Proofs.Ytokkhnjedmlbhaa.M
open Go.RowKit Go.Proofs.Ytokkhnjedmlbhaa.Pr Go.Proofs.YtokkhnjedmlbhaaW.PrintWords Go.Proofs.YtokkhnjedmlbhaaW.PrintLast Go.Proofs.YtokkhnjedmlbhaaW.PrintMore Go.Proofs.YtokkhnjedmlbhaaGf
/-- The text of a list of bytes. -/
def mkB (l : List Nat) : ByteArray := ⟨(l.map UInt8.ofNat).toArray⟩
/-- A text's bytes. -/
def nb (s : ByteArray) : List Nat := s.data.toList.map UInt8.toNat
def isB (l : List Nat) : Prop := ∀ x ∈ l, x < 256
theorem mkB_size (l : List Nat) : (mkB l).size = l.length := by
  show (l.map UInt8.ofNat).toArray.size = _
  simp
theorem nb_length (s : ByteArray) : (nb s).length = s.size := by rw [nb, List.length_map, data_length]
theorem isB_nb (s : ByteArray) : isB (nb s) := by
  intro x hx
  obtain ⟨u, _, rfl⟩ := List.mem_map.1 hx
  exact UInt8.toNat_lt u
theorem mkB_nb (s : ByteArray) : mkB (nb s) = s := by
  cases s with | mk d =>
  simp only [mkB, nb, List.map_map]
  congr 1
  apply Array.ext'
  simp only []
  conv => rhs; rw [← List.map_id d.toList]
  apply List.map_congr_left
  intro u _
  simp
theorem nb_mkB {l : List Nat} (h : isB l) : nb (mkB l) = l := by
  simp only [nb, mkB, List.map_map]
  conv => rhs; rw [← List.map_id l]
  apply List.map_congr_left
  intro n hn
  have := h n hn
  simp
  omega
theorem mkB_append (l m : List Nat) : mkB l ++ mkB m = mkB (l ++ m) := by
  apply ByteArray.ext
  simp [mkB]
theorem bb_nb (s : ByteArray) (i : Nat) : bb s i = (nb s).getD i 0 := by
  unfold bb bt
  by_cases h : i < s.size
  · rw [dif_pos (by simpa using h)]
    have h' : i < (nb s).length := by rw [nb_length]; exact h
    rw [List.getD_eq_getElem?_getD, List.getElem?_eq_getElem h']
    simp only [Option.getD_some, nb, List.getElem_map, Int.toNat_natCast]
    rfl
  · rw [dif_neg (by simpa using h)]
    rw [List.getD_eq_getElem?_getD, List.getElem?_eq_none (by rw [nb_length]; omega)]
    rfl
theorem strOfNums_cast (l : List Nat) : strOfNums (l.map Int.ofNat) = mkB l := by
  simp only [strOfNums, mkB, List.map_map]
  rfl
theorem bytesOf_nb (s : ByteArray) : bytesOf s = (nb s).map Int.ofNat := by
  simp only [bytesOf, nb, List.map_map]
  rfl
theorem extract_nb (s : ByteArray) (i j : Nat) : s.extract i j = mkB (((nb s).take j).drop i) := by
  apply ByteArray.ext
  simp only [ByteArray.data_extract, mkB]
  apply Array.ext'
  rw [Array.toList_extract]
  simp only [List.extract_eq_take_drop, nb]
  rw [← List.map_take, ← List.map_drop, List.map_map]
  rw [show (UInt8.ofNat ∘ UInt8.toNat) = id from by funext u; simp, List.map_id, List.drop_take]
theorem isB_append {l m : List Nat} : isB (l ++ m) ↔ isB l ∧ isB m := by
  simp [isB, or_imp, forall_and]
theorem isB_get {l : List Nat} (h : isB l) (i : Nat) : l.getD i 0 < 256 := by
  rw [List.getD_eq_getElem?_getD]
  by_cases hi : i < l.length
  · rw [List.getElem?_eq_getElem hi]; exact h _ (List.getElem_mem hi)
  · rw [List.getElem?_eq_none (by omega)]; decide
end Go.Proofs.Ytokkhnjedmlbhaa.M
end
section
namespace Go.Proofs
open Go.Shelf
def Try.lays156_ren : Go.Shelf.Ren := ⟨fun | 156 => 187 | 165 => 219 | 166 => 220 | 169 => 215 | 240 => 226 | 241 => 227 | 276 => 231 | 277 => 232 | n => n, fun | 31 => 49 | 9 => 9 | 3 => 3 | 4 => 4 | 0 => 0 | 20 => 20 | 72 => 135 | 76 => 141 | 70 => 133 | 37 => 66 | 75 => 137 | 127 => 149 | 164 => 154 | 5 => 5 | 80 => 41 | n => n, fun | n => n⟩
theorem Try.lays156 : Go.Proofs.Lays.n156 Try.prog Try.lays156_ren := {
  mixed := by kernel_rfl
  f156 := Try.func187.trans (congrArg some (by kernel_rfl))
  f165 := Try.func219.trans (congrArg some (by kernel_rfl))
  f166 := Try.func220.trans (congrArg some (by kernel_rfl))
  f169 := Try.func215.trans (congrArg some (by kernel_rfl))
  f240 := Try.func226.trans (congrArg some (by kernel_rfl))
  f241 := Try.func227.trans (congrArg some (by kernel_rfl))
  f276 := Try.func231.trans (congrArg some (by kernel_rfl))
  f277 := Try.func232.trans (congrArg some (by kernel_rfl))
  t0 := Try.underlying0
  a0 := Try.isAgg0
  z0 := Try.sizeOf0
  v0 := Try.zeroValue0
  t3 := Try.underlying3
  a3 := Try.isAgg3
  z3 := Try.sizeOf3
  v3 := Try.zeroValue3
  t4 := Try.underlying4
  a4 := Try.isAgg4
  z4 := Try.sizeOf4
  v4 := Try.zeroValue4
  t9 := Try.underlying9
  a9 := Try.isAgg9
  z9 := Try.sizeOf9
  v9 := Try.zeroValue9
  t20 := Try.underlying20
  a20 := Try.isAgg20
  z20 := Try.sizeOf20
  v20 := Try.zeroValue20
  t31 := Try.underlying49
  a31 := Try.isAgg49
  z31 := Try.sizeOf49
  v31 := Try.zeroValue49
  t37 := Try.underlying66
  a37 := Try.isAgg66
  z37 := Try.sizeOf66
  v37 := Try.zeroValue66
  t70 := Try.underlying133
  a70 := Try.isAgg133
  z70 := Try.sizeOf133
  v70 := Try.zeroValue133
  t72 := Try.underlying135
  a72 := Try.isAgg135
  z72 := Try.sizeOf135
  v72 := Try.zeroValue135
  t75 := Try.underlying137
  a75 := Try.isAgg137
  z75 := Try.sizeOf137
  v75 := Try.zeroValue137
  t76 := Try.underlying141
  a76 := Try.isAgg141
  z76 := Try.sizeOf141
  v76 := Try.zeroValue141
  t127 := Try.underlying149
  a127 := Try.isAgg149
  z127 := Try.sizeOf149
  v127 := Try.zeroValue149
  t164 := Try.underlying154
  a164 := Try.isAgg154
  z164 := Try.sizeOf154
  v164 := Try.zeroValue154 }
theorem Try.Builder_Extra_156 : Builder.Extra Try.prog Try.lays156_ren := {
  sizeBuilder := by kernel_rfl
  liesBuilder := by kernel_rfl
  t5 := Try.underlying5
  a5 := Try.isAgg5
  z5 := Try.sizeOf5
  v5 := Try.zeroValue5
  infoByte := by kernel_rfl
  cellsByte := by kernel_rfl
  sizeByte := by kernel_rfl
  neB5 := by decide }
open Go.RowKit in
/-- No element: the empty string; the world is as it was. (Whatever the slice's address and capacity: a nil slice too.) (LAID: no walk: one application.) -/
theorem Try.strings_Join_none (a : Option Addr) (c : Nat) (sep : ByteArray) (w : World) :
    Calls Try.prog 187 #[.slice a 0 c, .string sep] w fun e w' => e = .returned (.string ⟨#[]⟩) ∧ w' = w := Any.strings_Join_none Try.lays156 Try.Builder_Extra_156 a c sep w
open Go.RowKit in
/-- strings.Join: "Join concatenates the elements of its first argument to create a single string. The separator string sep is placed between elements in the resulting string.": HOWEVER MANY ELEMENTS. Below the heap's end the world is as it was. (LAID: no walk: one application.) -/
theorem Try.strings_Join (bk o c : Nat) (xs : List ByteArray) (sep : ByteArray) (w : World) (hcells : ∀ (j : Nat) x, xs[j]? = some x → w.cell? ⟨bk, o + j, none⟩ = some (.string x)) (hbk : bk < w.heap.size) (hN : xs.length ≤ 140737488355328) (hcap : xs.length ≤ c) (hlen : (Lib.join (xs.map (·.data.toList)) sep.data.toList).length ≤ 140737488355328) :
    Calls Try.prog 187 #[.slice (some ⟨bk, o, none⟩) xs.length c, .string sep] w fun e w' => e = .returned (.string ⟨(Lib.join (xs.map (·.data.toList)) sep.data.toList).toArray⟩) ∧ Below w.heap.size w w' := Any.strings_Join Try.lays156 Try.Builder_Extra_156 bk o c xs sep w hcells hbk hN hcap hlen
end Go.Proofs
end
