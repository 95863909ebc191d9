-- several texts in one (by the session's program shake.py)
import Derived.Test.YtmcpfkgahmdkgaaZScopes
import Derived.ScopeJumps
import Derived.Lib.BufferWrite
section
namespace Go.Proofs.Ytmcpfkgahmdkgaa.M
open Go
/-- A tag's digits, from one on. -/
def dg : Nat → Nat → Nat → List Nat → Option (Nat × Nat)
  | 0, _, _, _ => none
  | _ + 1, _, _, [] => none
  | f + 1, j, t, b :: r => if j = 0 ∧ b = 128 then none else if b < 128 then (if 128 * t + b < 31 then none else some (128 * t + b, j + 1)) else dg f (j + 1) (128 * t + (b - 128)) r
theorem dg_cons (f j t b : Nat) (r : List Nat) : dg (f + 1) j t (b :: r) = if j = 0 ∧ b = 128 then none else if b < 128 then (if 128 * t + b < 31 then none else some (128 * t + b, j + 1)) else dg f (j + 1) (128 * t + (b - 128)) r := rfl
theorem dg3 (a b t : Nat) (ha : 128 < a) (ht : t = 128 * (a - 128) + (b - 128)) (r : List Nat) : dg 1 2 t r = tag3 a b r := by
  cases r with
  | nil => rfl
  | cons d r =>
    refine (dg_cons 0 2 t d r).trans ?_
    show _ = if d < 128 then some (16384 * (a - 128) + 128 * (b - 128) + d, 3) else none
    rw [if_neg (fun h => by omega)]
    by_cases h : d < 128
    · rw [if_pos h, if_pos h, if_neg (by omega), show 128 * t + d = 16384 * (a - 128) + 128 * (b - 128) + d by omega]
    · rw [if_neg h, if_neg h]; rfl
theorem dg2 (a t : Nat) (ha : 128 < a) (ht : t = a - 128) (r : List Nat) : dg 2 1 t r = tag2 a r := by
  cases r with
  | nil => rfl
  | cons b r =>
    refine (dg_cons 1 1 t b r).trans ?_
    show _ = if b < 128 then some (128 * (a - 128) + b, 2) else tag3 a b r
    rw [if_neg (fun h => by omega)]
    by_cases h : b < 128
    · rw [if_pos h, if_pos h, if_neg (by omega), ht]
    · rw [if_neg h, if_neg h]
      exact dg3 a b _ ha (by rw [ht]) r
theorem dg1 (r : List Nat) : dg 3 0 0 r = tagD r := by
  cases r with
  | nil => rfl
  | cons a r =>
    refine (dg_cons 2 0 0 a r).trans ?_
    show _ = if a = 128 then none else if a < 128 then (if a < 31 then none else some (a, 1)) else tag2 a r
    by_cases h : a = 128
    · rw [if_pos ⟨rfl, h⟩, if_pos h]
    · rw [if_neg (fun e => h e.2), if_neg h]
      by_cases h2 : a < 128
      · rw [if_pos h2, if_pos h2, show 128 * 0 + a = a by omega]
      · rw [if_neg h2, if_neg h2]
        exact dg2 a _ (by omega) (by omega) r
/-- What Decode answers, as numbers. -/
def outD : (Nat × Nat × Bool × Nat × Nat) ⊕ Int → Int × Int × Bool × Int × Int × Int
  | .inl (c, t, k, l, m) => (c, t, k, l, m, 0)
  | .inr e => (0, 0, false, 0, 0, e)
theorem or_i64_nat (a b : Nat) (ha : a < 4611686018427387904) (hb : b < 4611686018427387904) : Go.bits .or .i64 (a : Int) (b : Int) = ((a ||| b : Nat) : Int) := by
  have hx : a ||| b < 2 ^ 62 := Nat.or_lt_two_pow (by omega) (by omega)
  have h1 : (BitVec.ofInt 64 (a : Int)).toNat = a := by
    rw [BitVec.ofInt_natCast, BitVec.toNat_ofNat]; exact Nat.mod_eq_of_lt (by omega)
  have h2 : (BitVec.ofInt 64 (b : Int)).toNat = b := by
    rw [BitVec.ofInt_natCast, BitVec.toNat_ofNat]; exact Nat.mod_eq_of_lt (by omega)
  show IntKind.i64.wrap ((BitVec.ofInt 64 (a : Int) ||| BitVec.ofInt 64 (b : Int)).toNat : Int) = _
  rw [BitVec.toNat_or, h1, h2, IntKind.wrap_i64]
  omega
theorem or_sum8 (a b : Nat) (ha : a < 1000000000) (hb : b < 256) : Go.bits .or .i64 ((a : Int) * 256) (b : Int) = ((256 * a + b : Nat) : Int) := by
  rw [show (a : Int) * 256 = ((256 * a : Nat) : Int) by omega, or_i64_nat _ _ (by omega) (by omega), ← Nat.two_pow_add_eq_or_of_lt (i := 8) hb a]
theorem or_sum7 (a b : Nat) (ha : a < 1000000000) (hb : b < 128) : Go.bits .or .i64 ((a : Int) * 128) (b : Int) = ((128 * a + b : Nat) : Int) := by
  rw [show (a : Int) * 128 = ((128 * a : Nat) : Int) by omega, or_i64_nat _ _ (by omega) (by omega), ← Nat.two_pow_add_eq_or_of_lt (i := 7) hb a]
theorem tl_loop (s : ByteArray) : ∀ (d i : Nat) (r : List UInt8), s.size - i = d → ByteArray.toList.loop s i r = r.reverse ++ s.data.toList.drop i := by
  intro d
  induction d with
  | zero =>
    intro i r h
    rw [ByteArray.toList.loop, if_neg (by omega), List.drop_of_length_le (by rw [Array.length_toList]; show s.size ≤ i; omega), List.append_nil]
  | succ d ih =>
    intro i r h
    have hi : i < s.size := by omega
    rw [ByteArray.toList.loop, if_pos hi, ih (i + 1) _ (by omega), List.reverse_cons, List.append_assoc]
    have hi' : i < s.data.toList.length := by rw [Array.length_toList]; exact hi
    rw [List.drop_eq_getElem_cons hi']
    congr 1
    simp [ByteArray.get!, hi]
theorem tl_eq (s : ByteArray) : s.toList = s.data.toList := by
  unfold ByteArray.toList
  rw [tl_loop s _ 0 [] rfl]
  rfl
/-- So many bytes as one number. -/
def accL (L : List Nat) : Nat → Nat
  | 0 => 0
  | i + 1 => 256 * accL L i + L.getD i 0
end Go.Proofs.Ytmcpfkgahmdkgaa.M
namespace Go.Proofs.Ytmcpfkgahmdkgaa.Pr
open Go.RowKit Go.Proofs.YtmcpfkgahmdkgaaW.PrintWords Go.Proofs.YtmcpfkgahmdkgaaW.PrintLast Go.Proofs.YtmcpfkgahmdkgaaW.PrintMore
/-- The block of a head. -/
def HB (w : World) (g : Nat) (c t : Int) (k : Bool) (l : Int) : Prop := w.heap[g]? = some (.cells #[.int .i64 c, .int .i64 t, .bool k, .int .i64 l] 55 (0, 0))
theorem HB.put {w : World} {g : Nat} {c t l : Int} {k : Bool} (h : HB w g c t k l) (c' t' l' : Int) (k' : Bool) : HB ((((w.setCell ⟨g, 0, none⟩ (.int .i64 c')).setCell ⟨g, 1, none⟩ (.int .i64 t')).setCell ⟨g, 2, none⟩ (.bool k')).setCell ⟨g, 3, none⟩ (.int .i64 l')) g c' t' k' l' :=
  blk_put (blk_put (blk_put (blk_put h 0 _ rfl) 1 _ rfl) 2 _ rfl) 3 _ rfl
theorem HB.put1 {w : World} {g : Nat} {c t l : Int} {k : Bool} (h : HB w g c t k l) (t' : Int) : HB (w.setCell ⟨g, 1, none⟩ (.int .i64 t')) g c t' k l := blk_put h 1 _ rfl
theorem HB.put3 {w : World} {g : Nat} {c t l : Int} {k : Bool} (h : HB w g c t k l) (l' : Int) : HB (w.setCell ⟨g, 3, none⟩ (.int .i64 l')) g c t k l' := blk_put h 3 _ rfl
theorem HB.far {w : World} {g : Nat} {c t l : Int} {k : Bool} (h : HB w g c t k l) {p : Addr} (hp : g ≠ p.block) (u : Value) : HB (w.setCell p u) g c t k l := blk_far h hp u
theorem below_put {w W : World} {g : Nat} (h : Below w.heap.size w W) (hg : w.heap.size ≤ g) (a b c d : Value) : Below w.heap.size w ((((W.setCell ⟨g, 0, none⟩ a).setCell ⟨g, 1, none⟩ b).setCell ⟨g, 2, none⟩ c).setCell ⟨g, 3, none⟩ d) :=
  below_set (below_set (below_set (below_set h hg) hg) hg) hg
/-- The frame: what is known of it at a label. -/
def HeadS (s : ByteArray) (w : World) (v6 v7 v8 : Value) (u : Nat → Value) : Act := { tmps := #[.string s, u 1, .pointer (some ⟨w.heap.size, 0, none⟩), .int .i64 0, .int .i64 0, .pointer (some ⟨w.heap.size + 1, 0, none⟩), v6, v7, v8, u 9, u 10, u 11, u 12, u 13, u 14, u 15, u 16, u 17, u 18, u 19, u 20, u 21, u 22, u 23, u 24, u 25, u 26, u 27, u 28, u 29, u 30, u 31, u 32, u 33, u 34, u 35, u 36, u 37, u 38, u 39, u 40, u 41, u 42, u 43, u 44, u 45, u 46, u 47, u 48, u 49, u 50, u 51, u 52, u 53, u 54, u 55, u 56, u 57, u 58, u 59, u 60, u 61, u 62, u 63, u 64, u 65, u 66, u 67, u 68, u 69, u 70, u 71, u 72, u 73, u 74, u 75, u 76, u 77, u 78, u 79, u 80, u 81, u 82, u 83, u 84, u 85, u 86, u 87, u 88, u 89, u 90, u 91, u 92, u 93, u 94, u 95, u 96, u 97, u 98, u 99, u 100, u 101, u 102, u 103, u 104, u 105, u 106, u 107, u 108, u 109, u 110, u 111, u 112, u 113, u 114, u 115, u 116, u 117, u 118, u 119, u 120, u 121, u 122, u 123, u 124, u 125, u 126, u 127, u 128, u 129, u 130, u 131, u 132, u 133, u 134, u 135, u 136, u 137], defers := [] }
/-- What holds at the labels: a fault's code is known; the tag is read; so many of its digits are read. -/
def HeadJ (s : ByteArray) (w : World) : Nat → Act → World → Prop
  | 0, a, w' => ∃ v6 v7 u e, M.outD (M.decD (M.nb s)) = (0, 0, false, 0, 0, e) ∧ a = HeadS s w v6 v7 (.int .i64 e) u ∧ Aside0 (HB w' w.heap.size 0 0 false 0) ∧ Aside0 (Below w.heap.size w w')
  | 1, a, w' => ∃ (x t m : Nat) (v7 : Value) (u : Nat → Value), m ≤ s.size ∧ Aside0 (M.decD (M.nb s) = M.finD x t m ((M.nb s).drop m)) ∧ a = HeadS s w (.int .i64 m) v7 (.int .i64 5) u ∧ Aside0 (HB w' w.heap.size 0 0 false 0) ∧ Aside0 (HB w' (w.heap.size + 1) (x / 64 : Nat) t (decide (x / 32 % 2 = 1)) 0) ∧ Aside0 (Below w.heap.size w w')
  | 2, a, w' => ∃ (x j t : Nat) (r : List Nat) (u : Nat → Value), M.nb s = x :: r ∧ ¬ x % 32 < 31 ∧ j ≤ 3 ∧ j ≤ r.length ∧ t < 2097152 ∧ Aside0 ((j < 3 → t < 16384) ∧ (j < 2 → t < 128) ∧ (j < 1 → t = 0)) ∧ Aside0 (M.dg (3 - j) j t (r.drop j) = M.tagD r) ∧ a = HeadS s w (.int .i64 ((j : Int) + 1)) (.int .i64 j) (.int .i64 5) u ∧ Aside0 (HB w' w.heap.size 0 0 false 0) ∧ Aside0 (HB w' (w.heap.size + 1) (x / 64 : Nat) t (decide (x / 32 % 2 = 1)) 0) ∧ Aside0 (Below w.heap.size w w')
  | _, _, _ => False
theorem HeadJ.mk0 {s : ByteArray} {w : World} {a' : Act} {w' : World} (e : Int) (hE : M.outD (M.decD (M.nb s)) = (0, 0, false, 0, 0, e)) (hb : Aside0 (HB w' w.heap.size 0 0 false 0)) (hw : Aside0 (Below w.heap.size w w'))
    (h : a' = HeadS s w (a'.tmps.getD 6 undef) (a'.tmps.getD 7 undef) (.int .i64 e) (fun q => a'.tmps.getD q undef)) : HeadJ s w 0 a' w' := ⟨_, _, _, e, hE, h, hb, hw⟩
theorem HeadJ.mk1 {s : ByteArray} {w : World} {a' : Act} {w' : World} (x t m : Nat) (z6 : Int) (hm : m ≤ s.size) (hE : Aside0 (M.decD (M.nb s) = M.finD x t m ((M.nb s).drop m))) (hb0 : Aside0 (HB w' w.heap.size 0 0 false 0)) (hb1 : Aside0 (HB w' (w.heap.size + 1) (x / 64 : Nat) t (decide (x / 32 % 2 = 1)) 0)) (hw : Aside0 (Below w.heap.size w w'))
    (hz : z6 = (m : Int)) (h : a' = HeadS s w (.int .i64 z6) (a'.tmps.getD 7 undef) (.int .i64 5) (fun q => a'.tmps.getD q undef)) : HeadJ s w 1 a' w' := ⟨x, t, m, _, _, hm, hE, by rw [← hz]; exact h, hb0, hb1, hw⟩
theorem HeadJ.mk2 {s : ByteArray} {w : World} {a' : Act} {w' : World} (x j t : Nat) (r : List Nat) (z6 z7 : Int) (hx : M.nb s = x :: r) (hx2 : ¬ x % 32 < 31) (hj : j ≤ 3) (hr : j ≤ r.length) (ht : t < 2097152)
    (hB : Aside0 ((j < 3 → t < 16384) ∧ (j < 2 → t < 128) ∧ (j < 1 → t = 0))) (hE : Aside0 (M.dg (3 - j) j t (r.drop j) = M.tagD r)) (hb0 : Aside0 (HB w' w.heap.size 0 0 false 0)) (hb1 : Aside0 (HB w' (w.heap.size + 1) (x / 64 : Nat) t (decide (x / 32 % 2 = 1)) 0)) (hw : Aside0 (Below w.heap.size w w'))
    (hz6 : z6 = (j : Int) + 1) (hz7 : z7 = (j : Int)) (h : a' = HeadS s w (.int .i64 z6) (.int .i64 z7) (.int .i64 5) (fun q => a'.tmps.getD q undef)) : HeadJ s w 2 a' w' := ⟨x, j, t, r, _, hx, hx2, hj, hr, ht, hB, hE, by rw [← hz6, ← hz7]; exact h, hb0, hb1, hw⟩
theorem drop_byte {s : ByteArray} {m y : Nat} {r : List Nat} (h : (M.nb s).drop m = y :: r) : m < s.size ∧ (∀ hm, ((s[m]'hm).toNat : Int) = (y : Int)) ∧ (M.nb s).drop (m + 1) = r ∧ s.size = m + 1 + r.length ∧ y < 256 := by
  have hl := congrArg List.length h
  rw [List.length_drop, M.nb_length, List.length_cons] at hl
  have hm : m < s.size := by omega
  have h0 : (M.nb s)[m]? = some y := by
    have := congrArg (fun l => l[0]?) h
    simpa [List.getElem?_drop] using this
  have h1 : (s[m]'hm).toNat = y := by
    have e : (M.nb s)[m]? = some (s[m]'hm).toNat := by
      unfold M.nb
      rw [List.getElem?_map, Array.getElem?_toList, Array.getElem?_eq_getElem (by exact hm)]
      rfl
    rw [e] at h0
    exact Option.some.inj h0
  refine ⟨hm, fun _ => by rw [h1], ?_, by omega, by rw [← h1]; exact (s[m]'hm).toNat_lt⟩
  rw [← List.drop_drop, h]
  rfl
def HeadM (l : Nat) (a : Act) (_ : World) : Nat := if l = 0 then 0 else if l = 1 then 1 else 10 - (intOf (a.tmps.getD 7 undef)).toNat
theorem HB.cell {w : World} {g : Nat} {c t l : Int} {k : Bool} (h : HB w g c t k l) (i : Nat) : w.cell? ⟨g, i, none⟩ = (#[.int .i64 c, .int .i64 t, .bool k, .int .i64 l] : Array Value)[i]? := blk_cell h i
theorem HB.live {w : World} {g : Nat} {c t l : Int} {k : Bool} (h : HB w g c t k l) (i : Nat) : w.frozen? ⟨g, i, none⟩ = false := blk_frozen h i
theorem jumpM_ret {J : Nat → Act → World → Prop} {Q : Exit → Act → World → Prop} {a : Act} {w : World} (h : Q .ret a w) : jumpM J Q .ret a w := h
theorem and127 : ∀ y : Nat, y < 256 → Go.bits .and .u8 (y : Int) 127 = ((y % 128 : Nat) : Int) := by
  have h : ∀ y : Fin 256, Go.bits .and .u8 (y.1 : Int) 127 = ((y.1 % 128 : Nat) : Int) := by decide +kernel
  exact fun y hy => h ⟨y, hy⟩
theorem and32 : ∀ y : Nat, y < 256 → (Go.bits .and .u8 (y : Int) 32 != 0) = decide (y / 32 % 2 = 1) := by
  have h : ∀ y : Fin 256, (Go.bits .and .u8 (y.1 : Int) 32 != 0) = decide (y.1 / 32 % 2 = 1) := by decide +kernel
  exact fun y hy => h ⟨y, hy⟩
theorem emp_yes {s : ByteArray} (h : s.size = 0) : s.toList.isEmpty = true := by
  rw [M.tl_eq, show s.data.toList = [] from List.eq_nil_of_length_eq_zero (by rw [Array.length_toList]; exact h)]; rfl
theorem emp_no {s : ByteArray} (h : s.size ≠ 0) : s.toList.isEmpty = false := by
  rw [M.tl_eq]
  cases e : s.data.toList with
  | nil => exact absurd (by have := congrArg List.length e; rw [Array.length_toList] at this; exact this) h
  | cons _ _ => rfl
theorem HeadM_02 {a a' : Act} {w w' : World} {j : Nat} (h : a'.tmps.getD 7 undef = .int .i64 (j : Int)) (hj : j ≤ 3) : HeadM 0 a w < HeadM 2 a' w' := by
  show 0 < 10 - (intOf (a'.tmps.getD 7 undef)).toNat
  rw [h]
  show 0 < 10 - ((j : Int)).toNat
  omega
theorem HeadM_12 {a a' : Act} {w w' : World} {j : Nat} (h : a'.tmps.getD 7 undef = .int .i64 (j : Int)) (hj : j ≤ 3) : HeadM 1 a w < HeadM 2 a' w' := by
  show 1 < 10 - (intOf (a'.tmps.getD 7 undef)).toNat
  rw [h]
  show 1 < 10 - ((j : Int)).toNat
  omega
theorem HeadM_22 {a a' : Act} {w w' : World} {j : Nat} (h : a'.tmps.getD 7 undef = .int .i64 (j : Int)) (hj : j < 3) (h2 : a.tmps.getD 7 undef = .int .i64 (((j + 1 : Nat)) : Int)) : HeadM 2 a w < HeadM 2 a' w' := by
  show 10 - (intOf (a.tmps.getD 7 undef)).toNat < 10 - (intOf (a'.tmps.getD 7 undef)).toNat
  rw [h, h2]
  show 10 - (((j + 1 : Nat)) : Int).toNat < 10 - ((j : Int)).toNat
  omega
theorem HeadM_01 (a a' : Act) (w w' : World) : HeadM 0 a w < HeadM 1 a' w' := Nat.zero_lt_one
set_option maxHeartbeats 4000000 in
set_option maxRecDepth 100000 in
theorem headW (s : ByteArray) (w : World) (hs : s.size ≤ 140737488351232) :
    Calls Try.prog 42 #[.string s] w fun e w' => (∃ c t k l m e', M.outD (M.decD (M.nb s)) = (c, t, k, l, m, e') ∧ e = .returned (.tuple #[.agg #[.int .i64 c, .int .i64 t, .bool k, .int .i64 l], .int .i64 m, .int .i64 e'])) ∧ Below w.heap.size w w' := by
  go_enter Try.func42, Try.ntmps42
  go_wp2
  refine scope_fall (HeadJ s w) HeadM ?_ ?_
  · intro l r a0 w0 hr hJ IH
    match l, hr, hJ, IH with
    | 0, hr, hJ, IH =>
      clear IH
      obtain rfl := Option.some.inj (hr.symm.trans (show behind _ 0 = some _ from rfl))
      obtain ⟨v6, v7, u, e, hE, rfl, hb0, hbw⟩ := hJ
      clear hr
      have q0 := hb0.out.live 0
      have q1 := hb0.out.live 1
      have q2 := hb0.out.live 2
      have q3 := hb0.out.live 3
      have p0 := hb0.out.cell 0
      have p1 := hb0.out.cell 1
      have p2 := hb0.out.cell 2
      have p3 := hb0.out.cell 3
      unfold HeadS
      go_wp2
      refine jumpM_ret ?_
      refine bodyPost_ret (results_ctt rfl _ _ w.heap.size 55 #[.int .i64 0, .int .i64 0, .bool false, .int .i64 0] (0, 0) _ rfl (hb0.out.put 0 0 0 false) Try.underlying55 rfl (by kernel_rfl)) rfl ⟨⟨0, 0, false, 0, 0, e, hE, rfl⟩, below_put hbw.out (Nat.le_refl _) _ _ _ _⟩
    | 1, hr, hJ, IH =>
      clear IH
      obtain rfl := Option.some.inj (hr.symm.trans (show behind _ 1 = some _ from rfl))
      obtain ⟨x, t, m, v7, u, hm, hE, rfl, hb0, hb1, hbw⟩ := hJ
      clear hr
      unfold HeadS
      have hml : (M.nb s).drop m = [] → s.size = m := fun h => by
        have := congrArg List.length h
        rw [List.length_drop, M.nb_length] at this
        simp at this
        omega
      generalize hL : (M.nb s).drop m = L at *
      cases L with
      | nil =>
        have e0 := hml rfl
        have e1 : decide ((s.size : Int) ≤ (m : Int)) = true := decide_eq_true (by omega)
        have hF : M.outD (M.decD (M.nb s)) = (0, 0, false, 0, 0, 5) := by rw [hE.out]; rfl
        clear e0 hE hm
        go_wp2
        refine wp_goto ?_
        exact And.intro (by kernel_rfl) (And.intro (HeadJ.mk0 5 hF hb0 hbw (by kernel_rfl)) (HeadM_01 _ _ _ _))
      | cons y L =>
        obtain ⟨h1, h2, h3, h4, h5⟩ := drop_byte hL
        have e1 : decide ((s.size : Int) ≤ (m : Int)) = false := decide_eq_false (by omega)
        by_cases c1 : y = 128
        · subst c1
          have hF : M.outD (M.decD (M.nb s)) = (0, 0, false, 0, 0, 5) := by rw [hE.out]; rfl
          clear hE hm hml hL h3 h4 h5
          go_wp2
          refine wp_goto ?_
          exact And.intro (by kernel_rfl) (And.intro (HeadJ.mk0 5 hF hb0 hbw (by kernel_rfl)) (HeadM_01 _ _ _ _))
        · have d1 : (((y : Nat) : Int) == 128) = false := beq_eq_false_iff_ne.2 (by omega)
          by_cases c2 : 130 < y
          · have d2 : decide ((130 : Int) < (y : Int)) = true := decide_eq_true (by omega)
            have hF : M.outD (M.decD (M.nb s)) = (0, 0, false, 0, 0, 4) := by rw [hE.out, M.finD, M.lenD, if_neg c1, if_pos c2]; rfl
            clear hE hm hml hL h3 h4 h5
            go_wp2
            refine wp_goto ?_
            exact And.intro (by kernel_rfl) (And.intro (HeadJ.mk0 4 hF hb0 hbw (by kernel_rfl)) (HeadM_01 _ _ _ _))
          · have d2 : decide ((130 : Int) < (y : Int)) = false := decide_eq_false (by omega)
            have q0 := hb0.out.live 0
            have q1 := hb0.out.live 1
            have q2 := hb0.out.live 2
            have q3 := hb0.out.live 3
            have r0 := hb0.out.cell 0
            have r1 := hb0.out.cell 1
            have r2 := hb0.out.cell 2
            have r3 := hb0.out.cell 3
            have p0 := hb1.out.cell 0
            have p1 := hb1.out.cell 1
            have p2 := hb1.out.cell 2
            have p3 := hb1.out.cell 3
            have l3 := hb1.out.live 3
            by_cases c3 : y < 128
            · have d3 : decide ((y : Int) < 128) = true := decide_eq_true (by omega)
              have hF : M.outD (M.decD (M.nb s)) = (((x / 64 : Nat) : Int), (t : Int), decide (x / 32 % 2 = 1), (y : Int), (m : Int) + 1, (0 : Int)) := by rw [hE.out, M.finD, M.lenD, if_neg c1, if_neg c2, if_pos c3]; rfl
              have wm : wrap64 ((m : Int) + 1) = (m : Int) + 1 := M.wrap_id (by omega) (by omega)
              clear hE hml hL h3
              go_wp2
              refine jumpM_ret ?_
              refine bodyPost_ret (results_ctt rfl _ _ w.heap.size 55 #[.int .i64 ((x / 64 : Nat) : Int), .int .i64 (t : Int), .bool (decide (x / 32 % 2 = 1)), .int .i64 (y : Int)] (0, 0) _ rfl ((hb0.out.far (by simp) _).put _ _ _ _) Try.underlying55 rfl (by kernel_rfl)) rfl ⟨⟨_, _, _, _, _, _, hF, ?_⟩, below_put (below_set hbw.out (Nat.le_succ _)) (Nat.le_refl _) _ _ _ _⟩
              rfl
            · have d3 : decide ((y : Int) < 128) = false := decide_eq_false (by omega)
              obtain ⟨nn, hn1, hn2, hn3, w7⟩ : ∃ nn : Nat, 1 ≤ nn ∧ nn ≤ 2 ∧ y = 128 + nn ∧ wrap64 (Go.bits .and .u8 (y : Int) 127) = (nn : Int) := by
                rcases (show y = 129 ∨ y = 130 by omega) with rfl | rfl
                · exact ⟨1, by omega, by omega, rfl, by decide +kernel⟩
                · exact ⟨2, by omega, by omega, rfl, by decide +kernel⟩
              by_cases c5 : L.length < nn
              · have hF : M.outD (M.decD (M.nb s)) = (0, 0, false, 0, 0, 5) := by
                  rw [hE.out, M.finD, M.lenD, if_neg c1, if_neg c2, if_neg c3]
                  by_cases c6 : y = 129
                  · rw [if_pos c6]
                    match L, c5 with
                    | [], _ => rfl
                    | _ :: _, c5 => exact absurd c5 (by rw [List.length_cons]; omega)
                  · rw [if_neg c6]
                    match L, c5 with
                    | [], _ => rfl
                    | [_], _ => rfl
                    | _ :: _ :: _, c5 => exact absurd c5 (by rw [List.length_cons, List.length_cons]; omega)
                have d5 : decide ((s.size : Int) < wrap64 ((m : Int) + 1 + wrap64 (Go.bits .and .u8 (y : Int) 127))) = true := decide_eq_true (by rw [w7, M.wrap_id (by omega) (by omega)]; omega)
                clear hE hml hL h3 c1 c2 c3 c5 h4 w7 hn1 hn2 hn3
                go_wp2
                refine wp_goto ?_
                exact And.intro (by kernel_rfl) (And.intro (HeadJ.mk0 5 hF hb0 hbw (by kernel_rfl)) (HeadM_01 _ _ _ _))
              · have d5 : decide ((s.size : Int) < wrap64 ((m : Int) + 1 + wrap64 (Go.bits .and .u8 (y : Int) 127))) = false := decide_eq_false (by rw [w7, M.wrap_id (by omega) (by omega)]; omega)
                have W7 := Aside0.mk w7
                have H4 := Aside0.mk h4
                have HN3 := Aside0.mk hn3
                have H3 := Aside0.mk h3
                have HL := Aside0.mk hL
                clear w7 h4 hn3 h3 hL hml c1 c2 c3
                go_wp2
                simp only [W7.out]
                go_loopw [6, 108] (fun v i wr => ∃ j : Nat, j ≤ nn ∧ i = .int .i64 (j : Int) ∧ v = .int .i64 ((m + 1 + j : Nat) : Int) ∧ Aside0 (HB wr w.heap.size 0 0 false 0) ∧ Aside0 (HB wr (w.heap.size + 1) (x / 64 : Nat) t (decide (x / 32 % 2 = 1)) (M.accL L j : Nat)) ∧ Aside0 (Below w.heap.size w wr)) (fun _ i _ => nn - (intOf i).toNat)
                case atStart => exact ⟨0, Nat.zero_le _, rfl, rfl, hb0, hb1, hbw⟩
                case round =>
                  clear q0 q1 q2 q3 p0 p1 p2 p3 r0 r1 r2 r3 l3
                  obtain ⟨j, hj, rfl, rfl, hc0, hc1, hcw⟩ := hrel
                  by_cases hlt : j < nn
                  · have hB : M.isB L := fun q hq => M.isB_nb s q (List.mem_of_mem_drop (i := m) (by rw [HL.out]; exact List.mem_cons_of_mem _ hq))
                    have hjl : j < L.length := by omega
                    have hz : L.getD j 0 < 256 := M.isB_get hB j
                    have hacc : M.accL L j < 256 := by
                      rcases (show j = 0 ∨ j = 1 by omega) with rfl | rfl
                      · exact (by decide : 0 < 256)
                      · show 256 * 0 + L.getD 0 0 < 256
                        have := M.isB_get hB 0
                        omega
                    obtain ⟨P, hP⟩ : ∃ P, P = m + 1 + j := ⟨_, rfl⟩
                    have hdr : (M.nb s).drop P = L.getD j 0 :: L.drop (j + 1) := by
                      rw [hP, ← List.drop_drop, H3.out, List.drop_eq_getElem_cons hjl, List.getD_eq_getElem?_getD, List.getElem?_eq_getElem hjl]
                      rfl
                    obtain ⟨g1, g2, -, -, -⟩ := drop_byte hdr
                    have hs8 := M.or_sum8 (M.accL L j) (L.getD j 0) (by omega) hz
                    have HA := Aside0.mk (show M.accL L (j + 1) = 256 * M.accL L j + L.getD j 0 from rfl)
                    have hwd := hcw.out.size
                    have n1 : w.heap.size ≠ w.heap.size + 1 := by omega
                    have z0 := (hc1.out.cell 3)
                    have z1 := (hc1.out.live 3)
                    generalize L.getD j 0 = z at *
                    generalize M.accL L j = ac at *
                    clear hdr hB hjl
                    rw [← hP]
                    have HP := Aside0.mk hP
                    clear hP
                    go_wp2
                    have HS8 := Aside0.mk hs8
                    clear hs8
                    go_region
                    have hc1' : Aside0 (HB ((wr.setCell ⟨w.heap.size + 1, 3, none⟩ (.int .i64 (Go.bits .or .i64 ((ac : Int) * 256) (z : Int)))).drew) (w.heap.size + 1) (x / 64 : Nat) t (decide (x / 32 % 2 = 1)) (M.accL L (j + 1) : Nat)) := ⟨by rw [HA.out, HS8.out]; exact hc1.out.put3 _⟩
                    have hc0' : Aside0 (HB ((wr.setCell ⟨w.heap.size + 1, 3, none⟩ (.int .i64 (Go.bits .or .i64 ((ac : Int) * 256) (z : Int)))).drew) w.heap.size 0 0 false 0) := ⟨hc0.out.far (by simp) _⟩
                    have hcw' : Aside0 (Below w.heap.size w ((wr.setCell ⟨w.heap.size + 1, 3, none⟩ (.int .i64 (Go.bits .or .i64 ((ac : Int) * 256) (z : Int)))).drew)) := ⟨below_drew1 (below_set hcw.out (Nat.le_succ _))⟩
                    clear hc0 hc1 hcw z0 z1 hb0 hb1 hbw
                    go_wp2
                    exact ⟨⟨j + 1, hlt, by go_num, by have := HP.out; first | (congr 1; omega) | (rw [M.wrap_id (by omega) (by omega)]; congr 1; omega), hc0', hc1', hcw'⟩, by simp [intOf]; omega⟩
                  · obtain rfl : j = nn := by omega
                    have hfin : ∃ T b : Nat, M.accL L j = T ∧ T < 65536 ∧ (b = 1 ∧ j = 1 ∨ b = 256 ∧ j = 2) ∧ M.outD (M.decD (M.nb s)) = if b ≤ T ∧ 128 ≤ T then (((x / 64 : Nat) : Int), (t : Int), decide (x / 32 % 2 = 1), (T : Int), ((m + 1 + j : Nat) : Int), (0 : Int)) else (0, 0, false, 0, 0, 5) := by
                      have hB : M.isB L := fun q hq => M.isB_nb s q (List.mem_of_mem_drop (i := m) (by rw [HL.out]; exact List.mem_cons_of_mem _ hq))
                      have hy := HN3.out
                      rw [hE.out, M.finD, M.lenD, if_neg (by omega), if_neg (by omega), if_neg (by omega)]
                      rcases (show j = 1 ∨ j = 2 by omega) with rfl | rfl
                      · rw [if_pos HN3.out]
                        match L, c5, hB with
                        | [], c5, _ => exact absurd (by decide : 0 < 1) c5
                        | z :: L, _, hB =>
                          have hz := hB z (by simp)
                          refine ⟨z, 1, by show 256 * 0 + z = z; omega, by omega, .inl ⟨rfl, rfl⟩, ?_⟩
                          rw [M.len1]
                          by_cases h : 128 ≤ z
                          · rw [if_pos h, if_pos ⟨by omega, h⟩]; rfl
                          · rw [if_neg h, if_neg (fun e => h e.2)]; rfl
                      · rw [if_neg (by omega)]
                        match L, c5, hB with
                        | [], c5, _ => exact absurd (by decide : 0 < 2) c5
                        | [_], c5, _ => exact absurd (by decide : 1 < 2) c5
                        | z :: v :: L, _, hB =>
                          have hz := hB z (by simp)
                          have hv := hB v (by simp)
                          refine ⟨256 * z + v, 256, by show 256 * (256 * 0 + z) + v = _; omega, by omega, .inr ⟨rfl, rfl⟩, ?_⟩
                          rw [M.len2]
                          by_cases h : 256 ≤ 256 * z + v
                          · rw [if_pos h, if_pos ⟨h, by omega⟩]; rfl
                          · rw [if_neg h, if_neg (fun e => h e.1)]; rfl
                    obtain ⟨T, b, hT, hT2, hb, hfin⟩ := hfin
                    rw [hT] at hc1
                    have HFIN := Aside0.mk hfin
                    have z0 := (hc1.out.cell 3)
                    have z1 := (hc1.out.live 3)
                    clear hfin hT W7 H4 HN3 H3 HL hb0 hb1 hbw hE d5 hlt c5 hj
                    have w8 : IntKind.i64.wrap (IntKind.i64.wrap 8 - 8) = 0 := by decide +kernel
                    have w16 : IntKind.i64.wrap (IntKind.i64.wrap 16 - 8) = 8 := by decide +kernel
                    have D0 : Aside0 (HB wr.drew w.heap.size 0 0 false 0) := ⟨hc0.out⟩
                    have D1 : Aside0 (HB wr.drew (w.heap.size + 1) (x / 64 : Nat) t (decide (x / 32 % 2 = 1)) (T : Nat)) := ⟨hc1.out⟩
                    have D3 : Aside0 (Below w.heap.size w wr.drew) := ⟨below_drew1 hcw.out⟩
                    rcases hb with ⟨rfl, rfl⟩ | ⟨rfl, rfl⟩
                    · by_cases c8 : 1 ≤ T
                      · have e8 : decide ((1 : Int) ≤ (T : Int)) = true := decide_eq_true (by omega)
                        by_cases c9 : 128 ≤ T
                        · have e9 : decide ((128 : Int) ≤ (T : Int)) = true := decide_eq_true (by omega)
                          go_wp2
                          go_region
                          clear hc0 hc1 hcw z0 z1
                          generalize wr.drew = W2 at D0 D1 D3 ⊢
                          have hF := HFIN.out
                          rw [if_pos ⟨c8, c9⟩] at hF
                          have q0 := D0.out.live 0
                          have q1 := D0.out.live 1
                          have q2 := D0.out.live 2
                          have q3 := D0.out.live 3
                          have r0 := D0.out.cell 0
                          have r1 := D0.out.cell 1
                          have r2 := D0.out.cell 2
                          have r3 := D0.out.cell 3
                          have p0 := D1.out.cell 0
                          have p1 := D1.out.cell 1
                          have p2 := D1.out.cell 2
                          have p3 := D1.out.cell 3
                          clear HFIN
                          go_wp2
                          refine jumpM_ret ?_
                          refine bodyPost_ret (results_ctt rfl _ _ w.heap.size 55 #[.int .i64 ((x / 64 : Nat) : Int), .int .i64 (t : Int), .bool (decide (x / 32 % 2 = 1)), .int .i64 (T : Int)] (0, 0) _ rfl (D0.out.put _ _ _ _) Try.underlying55 rfl (by kernel_rfl)) rfl ⟨⟨_, _, _, _, _, _, hF, ?_⟩, below_put D3.out (Nat.le_refl _) _ _ _ _⟩
                          rfl
                        · have e9 : decide ((128 : Int) ≤ (T : Int)) = false := decide_eq_false (by omega)
                          go_wp2
                          go_region
                          clear hc0 hc1 hcw z0 z1
                          generalize wr.drew = W2 at D0 D1 D3 ⊢
                          have hF := HFIN.out
                          rw [if_neg (fun h => c9 h.2)] at hF
                          clear HFIN
                          go_wp2
                          refine wp_label ?_
                          have q0 := D0.out.live 0
                          have q1 := D0.out.live 1
                          have q2 := D0.out.live 2
                          have q3 := D0.out.live 3
                          have r0 := D0.out.cell 0
                          have r1 := D0.out.cell 1
                          have r2 := D0.out.cell 2
                          have r3 := D0.out.cell 3
                          go_wp2
                          refine jumpM_ret ?_
                          refine bodyPost_ret (results_ctt rfl _ _ w.heap.size 55 #[.int .i64 0, .int .i64 0, .bool false, .int .i64 0] (0, 0) _ rfl (D0.out.put 0 0 0 false) Try.underlying55 rfl (by kernel_rfl)) rfl ⟨⟨_, _, _, _, _, _, hF, rfl⟩, below_put D3.out (Nat.le_refl _) _ _ _ _⟩
                      · have e8 : decide ((1 : Int) ≤ (T : Int)) = false := decide_eq_false (by omega)
                        go_wp2
                        go_region
                        clear hc0 hc1 hcw z0 z1
                        generalize wr.drew = W2 at D0 D1 D3 ⊢
                        have hF := HFIN.out
                        rw [if_neg (fun h => c8 h.1)] at hF
                        clear HFIN
                        go_wp2
                        refine wp_label ?_
                        have q0 := D0.out.live 0
                        have q1 := D0.out.live 1
                        have q2 := D0.out.live 2
                        have q3 := D0.out.live 3
                        have r0 := D0.out.cell 0
                        have r1 := D0.out.cell 1
                        have r2 := D0.out.cell 2
                        have r3 := D0.out.cell 3
                        go_wp2
                        refine jumpM_ret ?_
                        refine bodyPost_ret (results_ctt rfl _ _ w.heap.size 55 #[.int .i64 0, .int .i64 0, .bool false, .int .i64 0] (0, 0) _ rfl (D0.out.put 0 0 0 false) Try.underlying55 rfl (by kernel_rfl)) rfl ⟨⟨_, _, _, _, _, _, hF, rfl⟩, below_put D3.out (Nat.le_refl _) _ _ _ _⟩
                    · by_cases c8 : 256 ≤ T
                      · have e8 : decide ((256 : Int) ≤ (T : Int)) = true := decide_eq_true (by omega)
                        by_cases c9 : 128 ≤ T
                        · have e9 : decide ((128 : Int) ≤ (T : Int)) = true := decide_eq_true (by omega)
                          go_wp2
                          go_region
                          clear hc0 hc1 hcw z0 z1
                          generalize wr.drew = W2 at D0 D1 D3 ⊢
                          have hF := HFIN.out
                          rw [if_pos ⟨c8, c9⟩] at hF
                          have q0 := D0.out.live 0
                          have q1 := D0.out.live 1
                          have q2 := D0.out.live 2
                          have q3 := D0.out.live 3
                          have r0 := D0.out.cell 0
                          have r1 := D0.out.cell 1
                          have r2 := D0.out.cell 2
                          have r3 := D0.out.cell 3
                          have p0 := D1.out.cell 0
                          have p1 := D1.out.cell 1
                          have p2 := D1.out.cell 2
                          have p3 := D1.out.cell 3
                          clear HFIN
                          go_wp2
                          refine jumpM_ret ?_
                          refine bodyPost_ret (results_ctt rfl _ _ w.heap.size 55 #[.int .i64 ((x / 64 : Nat) : Int), .int .i64 (t : Int), .bool (decide (x / 32 % 2 = 1)), .int .i64 (T : Int)] (0, 0) _ rfl (D0.out.put _ _ _ _) Try.underlying55 rfl (by kernel_rfl)) rfl ⟨⟨_, _, _, _, _, _, hF, ?_⟩, below_put D3.out (Nat.le_refl _) _ _ _ _⟩
                          rfl
                        · exact absurd (show 128 ≤ T by omega) c9
                      · have e8 : decide ((256 : Int) ≤ (T : Int)) = false := decide_eq_false (by omega)
                        go_wp2
                        go_region
                        clear hc0 hc1 hcw z0 z1
                        generalize wr.drew = W2 at D0 D1 D3 ⊢
                        have hF := HFIN.out
                        rw [if_neg (fun h => c8 h.1)] at hF
                        clear HFIN
                        go_wp2
                        refine wp_label ?_
                        have q0 := D0.out.live 0
                        have q1 := D0.out.live 1
                        have q2 := D0.out.live 2
                        have q3 := D0.out.live 3
                        have r0 := D0.out.cell 0
                        have r1 := D0.out.cell 1
                        have r2 := D0.out.cell 2
                        have r3 := D0.out.cell 3
                        go_wp2
                        refine jumpM_ret ?_
                        refine bodyPost_ret (results_ctt rfl _ _ w.heap.size 55 #[.int .i64 0, .int .i64 0, .bool false, .int .i64 0] (0, 0) _ rfl (D0.out.put 0 0 0 false) Try.underlying55 rfl (by kernel_rfl)) rfl ⟨⟨_, _, _, _, _, _, hF, rfl⟩, below_put D3.out (Nat.le_refl _) _ _ _ _⟩
    | 2, hr, hJ, IH =>
      obtain rfl := Option.some.inj (hr.symm.trans (show behind _ 2 = some _ from rfl))
      obtain ⟨x, j, t, r, u, hx, hx31, hj3, hjr, ht, HTB, hdg, rfl, hb0, hb1, hbw⟩ := hJ
      clear hr
      unfold HeadS at *
      have hnil : M.tagD r = none → M.outD (M.decD (M.nb s)) = (0, 0, false, 0, 0, 5) := fun h => by
        rw [hx, M.decD, if_neg hx31, h]; rfl
      have hdrop : (M.nb s).drop (j + 1) = r.drop j := by rw [hx]; rfl
      have hsz : s.size = r.length + 1 := by rw [← M.nb_length, hx, List.length_cons]
      cases hL : r.drop j with
      | nil =>
        have e0 : s.size = j + 1 := by
          have := congrArg List.length hL
          rw [List.length_drop] at this
          simp at this
          omega
        have e1 : decide ((s.size : Int) ≤ (j : Int) + 1) = true := decide_eq_true (by omega)
        have hF : M.outD (M.decD (M.nb s)) = (0, 0, false, 0, 0, 5) := hnil (by
          rw [← hdg.out, hL]
          cases 3 - j <;> rfl)
        clear e0 hdg hL hsz hdrop hnil hx IH hjr
        go_wp2
        refine wp_goto ?_
        exact And.intro (by kernel_rfl) (And.intro (HeadJ.mk0 5 hF hb0 hbw (by kernel_rfl)) (HeadM_02 (by kernel_rfl) hj3))
      | cons y L =>
        obtain ⟨h1, h2, h3, h4, h5⟩ := drop_byte (hdrop.trans hL)
        have e1 : decide ((s.size : Int) ≤ (j : Int) + 1) = false := decide_eq_false (by omega)
        by_cases c3 : j = 3
        · subst c3
          have hF : M.outD (M.decD (M.nb s)) = (0, 0, false, 0, 0, 5) := hnil (by rw [← hdg.out]; rfl)
          clear hdg hL hsz hdrop hnil hx IH hjr h2 h3 h4
          go_wp2
          refine wp_goto ?_
          exact And.intro (by kernel_rfl) (And.intro (HeadJ.mk0 5 hF hb0 hbw (by kernel_rfl)) (HeadM_02 (by kernel_rfl) hj3))
        · have d3 : (((j : Nat) : Int) == 3) = false := beq_eq_false_iff_ne.2 (by omega)
          by_cases c8 : j = 0 ∧ y = 128
          · obtain ⟨rfl, rfl⟩ := c8
            have hF : M.outD (M.decD (M.nb s)) = (0, 0, false, 0, 0, 5) := hnil (by rw [← hdg.out, hL]; rfl)
            clear hdg hL hsz hdrop hnil hx IH hjr h3 h4
            go_wp2
            refine wp_goto ?_
            exact And.intro (by kernel_rfl) (And.intro (HeadJ.mk0 5 hF hb0 hbw (by kernel_rfl)) (HeadM_02 (by kernel_rfl) hj3))
          · have hy : y % 128 < 128 := Nat.mod_lt _ (by omega)
            have w7 : wrap64 (Go.bits .and .u8 (y : Int) 127) = ((y % 128 : Nat) : Int) := by
              rw [and127 y h5]; exact M.wrap_id (by omega) (by omega)
            have hs7 := M.or_sum7 t (y % 128) (by omega) hy
            have HYI := Aside0.mk (show y < 128 ∧ y % 128 = y ∨ 128 ≤ y ∧ y % 128 = y - 128 by omega)
            have C8 := Aside0.mk c8
            have HDG : Aside0 (M.dg (3 - j) j t (y :: L) = M.tagD r) := ⟨by rw [← hL]; exact hdg.out⟩
            have H3 := Aside0.mk h3
            have HX := Aside0.mk hx
            have HD := Aside0.mk hdrop
            have HL := Aside0.mk hL
            have HN : Aside0 (M.tagD r = none → M.outD (M.decD (M.nb s)) = (0, 0, false, 0, 0, 5)) := ⟨hnil⟩
            have HSZ := Aside0.mk hsz
            have hPs : ((j + 1 : Nat) : Int) = (j : Int) + 1 := by omega
            clear c8 hdg h3 hx hdrop hL hnil hsz h4
            generalize y % 128 = z at *
            obtain ⟨P, hP⟩ : ∃ P, P = j + 1 := ⟨_, rfl⟩
            have z0 := (hb1.out.cell 1)
            have z1 := (hb1.out.live 1)
            rw [← hP] at h1 h2
            have hPI : (j : Int) + 1 = (P : Int) := by omega
            rw [hPI] at e1 ⊢
            have HP := Aside0.mk hP
            clear hP hPs hPI
            by_cases cj : j = 0
            · have d0 : (((j : Nat) : Int) == 0) = true := beq_iff_eq.2 (by omega)
              have d4 : (((y : Nat) : Int) == 128) = false := beq_eq_false_iff_ne.2 (fun h => C8.out ⟨cj, by omega⟩)
              have CJ := Aside0.mk cj
              clear cj
              go_wp2
              have HS7 := Aside0.mk hs7
              clear hs7
              go_region
              have D1 : Aside0 (HB ((w0.setCell ⟨w.heap.size + 1, 1, none⟩ (.int .i64 (Go.bits .or .i64 ((t : Int) * 128) (z : Int)))).drew) (w.heap.size + 1) (x / 64 : Nat) (128 * t + z : Nat) (decide (x / 32 % 2 = 1)) 0) := ⟨by rw [HS7.out]; exact hb1.out.put1 _⟩
              have D0 : Aside0 (HB ((w0.setCell ⟨w.heap.size + 1, 1, none⟩ (.int .i64 (Go.bits .or .i64 ((t : Int) * 128) (z : Int)))).drew) w.heap.size 0 0 false 0) := ⟨hb0.out.far (by simp) _⟩
              have D3 : Aside0 (Below w.heap.size w ((w0.setCell ⟨w.heap.size + 1, 1, none⟩ (.int .i64 (Go.bits .or .i64 ((t : Int) * 128) (z : Int)))).drew)) := ⟨below_drew1 (below_set hbw.out (Nat.le_succ _))⟩
              clear hb0 hb1 hbw z0 z1 d0
              generalize ((w0.setCell ⟨w.heap.size + 1, 1, none⟩ (.int .i64 (Go.bits .or .i64 ((t : Int) * 128) (z : Int)))).drew) = W2 at D0 D1 D3 ⊢
              obtain ⟨T, hT⟩ : ∃ T, T = 128 * t + z := ⟨_, rfl⟩
              rw [← hT] at D1
              have HT := Aside0.mk hT
              clear hT HS7
              have hj3' : j < 3 := by omega
              have HJ3 := Aside0.mk (show 3 - j = (2 - j) + 1 by omega)
              have HJR : Aside0 (j + 1 ≤ r.length) := ⟨by have := HSZ.out; have := HP.out; omega⟩
              have HNX : Aside0 ((M.nb s).drop (j + 2) = r.drop (j + 1)) := ⟨by rw [HX.out]; rfl⟩
              have HL1 : Aside0 (r.drop (j + 1) = L) := ⟨by rw [← List.drop_drop, HL.out]; rfl⟩
              by_cases cy : y < 128
              · have e9 : decide ((128 : Int) ≤ (y : Int)) = false := decide_eq_false (by omega)
                have q1 := D1.out.cell 1
                have hTy : 128 * t + y = T := by have := HYI.out; have := HT.out; omega
                by_cases cT : T < 31
                · have e8 : decide ((T : Int) < 31) = true := decide_eq_true (by omega)
                  have hF : M.outD (M.decD (M.nb s)) = (0, 0, false, 0, 0, 5) := HN.out (by
                    rw [← HDG.out, HJ3.out, M.dg_cons, if_neg C8.out, if_pos cy, hTy, if_pos cT])
                  clear hTy
                  go_wp2
                  refine wp_goto ?_
                  exact And.intro (by kernel_rfl) (And.intro (HeadJ.mk0 5 hF D0 D3 (by kernel_rfl)) (HeadM_02 (by kernel_rfl) hj3))
                · have e8 : decide ((T : Int) < 31) = false := decide_eq_false (by omega)
                  have hE : M.tagD r = some (T, j + 1) := by
                    rw [← HDG.out, HJ3.out, M.dg_cons, if_neg C8.out, if_pos cy, hTy, if_neg cT]
                  have HE : Aside0 (M.decD (M.nb s) = M.finD x T (j + 2) ((M.nb s).drop (j + 2))) := ⟨by
                    rw [HNX.out, HX.out, M.decD, if_neg hx31, hE]⟩
                  have HI := Aside0.mk IH
                  clear hTy hE IH
                  go_wp2
                  refine wp_label ?_
                  rename_i K hK
                  refine hK _ _ ?_
                  refine HI.out 1 _ _ _ ?_ ?_ ?_
                  · kernel_rfl
                  · exact HeadJ.mk1 x T (j + 2) ((P : Int) + 1) (by have := HJR.out; have := HSZ.out; omega) HE D0 D1 D3 (by have := HP.out; omega) (by kernel_rfl)
                  · exact HeadM_12 (by kernel_rfl) hj3
              · have e9 : decide ((128 : Int) ≤ (y : Int)) = true := decide_eq_true (by omega)
                have HG : Aside0 (M.dg (3 - (j + 1)) (j + 1) T (r.drop (j + 1)) = M.tagD r) := ⟨by
                  rw [← HDG.out, HJ3.out, M.dg_cons, if_neg C8.out, if_neg cy, HL1.out, show 3 - (j + 1) = 2 - j by omega, HT.out]
                  rcases HYI.out with h | h
                  · exact absurd h.1 cy
                  · rw [h.2]⟩
                go_wp2
                refine wp_goto ?_
                have hT := HT.out
                have hB := HTB.out
                exact And.intro (by kernel_rfl) (And.intro (HeadJ.mk2 x (j + 1) T r ((P : Int) + 1) ((j : Int) + 1) HX.out hx31 (by omega) HJR.out (by omega) ⟨⟨by omega, by omega, by omega⟩⟩ HG D0 D1 D3 (by have := HP.out; omega) (by omega) (by kernel_rfl)) (HeadM_22 (by kernel_rfl) hj3' (by kernel_rfl)))
            · have d0 : (((j : Nat) : Int) == 0) = false := beq_eq_false_iff_ne.2 (by omega)
              have CJ := Aside0.mk cj
              clear cj
              go_wp2
              have HS7 := Aside0.mk hs7
              clear hs7
              go_region
              have D1 : Aside0 (HB ((w0.setCell ⟨w.heap.size + 1, 1, none⟩ (.int .i64 (Go.bits .or .i64 ((t : Int) * 128) (z : Int)))).drew) (w.heap.size + 1) (x / 64 : Nat) (128 * t + z : Nat) (decide (x / 32 % 2 = 1)) 0) := ⟨by rw [HS7.out]; exact hb1.out.put1 _⟩
              have D0 : Aside0 (HB ((w0.setCell ⟨w.heap.size + 1, 1, none⟩ (.int .i64 (Go.bits .or .i64 ((t : Int) * 128) (z : Int)))).drew) w.heap.size 0 0 false 0) := ⟨hb0.out.far (by simp) _⟩
              have D3 : Aside0 (Below w.heap.size w ((w0.setCell ⟨w.heap.size + 1, 1, none⟩ (.int .i64 (Go.bits .or .i64 ((t : Int) * 128) (z : Int)))).drew)) := ⟨below_drew1 (below_set hbw.out (Nat.le_succ _))⟩
              clear hb0 hb1 hbw z0 z1 d0
              generalize ((w0.setCell ⟨w.heap.size + 1, 1, none⟩ (.int .i64 (Go.bits .or .i64 ((t : Int) * 128) (z : Int)))).drew) = W2 at D0 D1 D3 ⊢
              obtain ⟨T, hT⟩ : ∃ T, T = 128 * t + z := ⟨_, rfl⟩
              rw [← hT] at D1
              have HT := Aside0.mk hT
              clear hT HS7
              have hj3' : j < 3 := by omega
              have HJ3 := Aside0.mk (show 3 - j = (2 - j) + 1 by omega)
              have HJR : Aside0 (j + 1 ≤ r.length) := ⟨by have := HSZ.out; have := HP.out; omega⟩
              have HNX : Aside0 ((M.nb s).drop (j + 2) = r.drop (j + 1)) := ⟨by rw [HX.out]; rfl⟩
              have HL1 : Aside0 (r.drop (j + 1) = L) := ⟨by rw [← List.drop_drop, HL.out]; rfl⟩
              by_cases cy : y < 128
              · have e9 : decide ((128 : Int) ≤ (y : Int)) = false := decide_eq_false (by omega)
                have q1 := D1.out.cell 1
                have hTy : 128 * t + y = T := by have := HYI.out; have := HT.out; omega
                by_cases cT : T < 31
                · have e8 : decide ((T : Int) < 31) = true := decide_eq_true (by omega)
                  have hF : M.outD (M.decD (M.nb s)) = (0, 0, false, 0, 0, 5) := HN.out (by
                    rw [← HDG.out, HJ3.out, M.dg_cons, if_neg C8.out, if_pos cy, hTy, if_pos cT])
                  clear hTy
                  go_wp2
                  refine wp_goto ?_
                  exact And.intro (by kernel_rfl) (And.intro (HeadJ.mk0 5 hF D0 D3 (by kernel_rfl)) (HeadM_02 (by kernel_rfl) hj3))
                · have e8 : decide ((T : Int) < 31) = false := decide_eq_false (by omega)
                  have hE : M.tagD r = some (T, j + 1) := by
                    rw [← HDG.out, HJ3.out, M.dg_cons, if_neg C8.out, if_pos cy, hTy, if_neg cT]
                  have HE : Aside0 (M.decD (M.nb s) = M.finD x T (j + 2) ((M.nb s).drop (j + 2))) := ⟨by
                    rw [HNX.out, HX.out, M.decD, if_neg hx31, hE]⟩
                  have HI := Aside0.mk IH
                  clear hTy hE IH
                  go_wp2
                  refine wp_label ?_
                  rename_i K hK
                  refine hK _ _ ?_
                  refine HI.out 1 _ _ _ ?_ ?_ ?_
                  · kernel_rfl
                  · exact HeadJ.mk1 x T (j + 2) ((P : Int) + 1) (by have := HJR.out; have := HSZ.out; omega) HE D0 D1 D3 (by have := HP.out; omega) (by kernel_rfl)
                  · exact HeadM_12 (by kernel_rfl) hj3
              · have e9 : decide ((128 : Int) ≤ (y : Int)) = true := decide_eq_true (by omega)
                have HG : Aside0 (M.dg (3 - (j + 1)) (j + 1) T (r.drop (j + 1)) = M.tagD r) := ⟨by
                  rw [← HDG.out, HJ3.out, M.dg_cons, if_neg C8.out, if_neg cy, HL1.out, show 3 - (j + 1) = 2 - j by omega, HT.out]
                  rcases HYI.out with h | h
                  · exact absurd h.1 cy
                  · rw [h.2]⟩
                go_wp2
                refine wp_goto ?_
                have hT := HT.out
                have hB := HTB.out
                exact And.intro (by kernel_rfl) (And.intro (HeadJ.mk2 x (j + 1) T r ((P : Int) + 1) ((j : Int) + 1) HX.out hx31 (by omega) HJR.out (by omega) ⟨⟨by omega, by omega, by omega⟩⟩ HG D0 D1 D3 (by have := HP.out; omega) (by omega) (by kernel_rfl)) (HeadM_22 (by kernel_rfl) hj3' (by kernel_rfl)))
  · intro IH
    have HI := Aside0.mk IH
    clear IH
    have A0 : Aside0 (HB ((w.alloc (Obj.cells #[.int .i64 0, .int .i64 0, .bool false, .int .i64 0] 55)).alloc (Obj.cells #[.int .i64 0, .int .i64 0, .bool false, .int .i64 0] 55)) w.heap.size 0 0 false 0) := ⟨by
      unfold HB World.alloc
      simp [Array.getElem?_push]⟩
    have A1 : Aside0 (HB ((w.alloc (Obj.cells #[.int .i64 0, .int .i64 0, .bool false, .int .i64 0] 55)).alloc (Obj.cells #[.int .i64 0, .int .i64 0, .bool false, .int .i64 0] 55)) (w.heap.size + 1) 0 0 false 0) := ⟨by
      have h := Array.getElem?_push_size (xs := w.heap.push (Obj.cells #[.int .i64 0, .int .i64 0, .bool false, .int .i64 0] 55)) (x := Obj.cells #[.int .i64 0, .int .i64 0, .bool false, .int .i64 0] 55)
      rw [Array.size_push] at h
      exact h⟩
    have A3 : Aside0 (Below w.heap.size w ((w.alloc (Obj.cells #[.int .i64 0, .int .i64 0, .bool false, .int .i64 0] 55)).alloc (Obj.cells #[.int .i64 0, .int .i64 0, .bool false, .int .i64 0] 55))) := ⟨below_alloc (below_alloc (Below.refl _ _) _) _⟩
    cases hL : M.nb s with
    | nil =>
      clear HI
      have e1 : s.toList.isEmpty = true := by
        have := congrArg List.length hL
        rw [M.nb_length] at this
        exact emp_yes this
      have hF : M.outD (M.decD (M.nb s)) = (0, 0, false, 0, 0, 5) := by rw [hL]; rfl
      clear hL
      go_wp2
      refine wp_goto ?_
      exact And.intro (by kernel_rfl) (HeadJ.mk0 5 hF A0 A3 (by kernel_rfl))
    | cons x r =>
      have e1 : s.toList.isEmpty = false := by
        have := congrArg List.length hL
        rw [M.nb_length, List.length_cons] at this
        exact emp_no (by omega)
      obtain ⟨h1, h2, h3, h4, h5⟩ := drop_byte (m := 0) (s := s) hL
      go_wp2
      generalize ((w.alloc (Obj.cells #[.int .i64 0, .int .i64 0, .bool false, .int .i64 0] 55)).alloc (Obj.cells #[.int .i64 0, .int .i64 0, .bool false, .int .i64 0] 55)) = w1 at A0 A1 A3 ⊢
      have q0 := A1.out.live 0
      have q1 := A1.out.live 1
      have q2 := A1.out.live 2
      have q3 := A1.out.live 3
      have p0 := A1.out.cell 0
      have p1 := A1.out.cell 1
      have p2 := A1.out.cell 2
      have p3 := A1.out.cell 3
      go_region
      have D1 : Aside0 (HB (((((w1.setCell ⟨w.heap.size + 1, 0, none⟩ (.int .i64 ((x : Int) / 64))).setCell ⟨w.heap.size + 1, 1, none⟩ (.int .i64 ((x : Int) % 32))).setCell ⟨w.heap.size + 1, 2, none⟩ (.bool (Go.bits .and .u8 (x : Int) 32 != 0))).setCell ⟨w.heap.size + 1, 3, none⟩ (.int .i64 0)).drew) (w.heap.size + 1) (x / 64 : Nat) (x % 32 : Nat) (decide (x / 32 % 2 = 1)) 0) := ⟨by rw [and32 x h5]; exact A1.out.put _ _ _ _⟩
      have D0 : Aside0 (HB (((((w1.setCell ⟨w.heap.size + 1, 0, none⟩ (.int .i64 ((x : Int) / 64))).setCell ⟨w.heap.size + 1, 1, none⟩ (.int .i64 ((x : Int) % 32))).setCell ⟨w.heap.size + 1, 2, none⟩ (.bool (Go.bits .and .u8 (x : Int) 32 != 0))).setCell ⟨w.heap.size + 1, 3, none⟩ (.int .i64 0)).drew) w.heap.size 0 0 false 0) := ⟨(((A0.out.far (by simp) _).far (by simp) _).far (by simp) _).far (by simp) _⟩
      have D3 : Aside0 (Below w.heap.size w (((((w1.setCell ⟨w.heap.size + 1, 0, none⟩ (.int .i64 ((x : Int) / 64))).setCell ⟨w.heap.size + 1, 1, none⟩ (.int .i64 ((x : Int) % 32))).setCell ⟨w.heap.size + 1, 2, none⟩ (.bool (Go.bits .and .u8 (x : Int) 32 != 0))).setCell ⟨w.heap.size + 1, 3, none⟩ (.int .i64 0)).drew)) := ⟨below_drew1 (below_put A3.out (Nat.le_succ _) _ _ _ _)⟩
      clear A0 A1 A3 q0 q1 q2 q3 p0 p1 p2 p3
      generalize (((((w1.setCell ⟨w.heap.size + 1, 0, none⟩ (.int .i64 ((x : Int) / 64))).setCell ⟨w.heap.size + 1, 1, none⟩ (.int .i64 ((x : Int) % 32))).setCell ⟨w.heap.size + 1, 2, none⟩ (.bool (Go.bits .and .u8 (x : Int) 32 != 0))).setCell ⟨w.heap.size + 1, 3, none⟩ (.int .i64 0)).drew) = W2 at D0 D1 D3 ⊢
      have q1 := D1.out.live 1
      have p1 := D1.out.cell 1
      by_cases c : x % 32 < 31
      · have e2 : decide ((x : Int) % 32 < 31) = true := decide_eq_true (by omega)
        have HE : Aside0 (M.decD (M.nb s) = M.finD x (x % 32) 1 ((M.nb s).drop 1)) := ⟨by rw [hL, M.decD, if_pos c]; rfl⟩
        have hs1 : 1 ≤ s.size := by omega
        clear hL h2 h3 HI
        go_wp2
        refine wp_goto ?_
        exact And.intro (by kernel_rfl) (HeadJ.mk1 x (x % 32) 1 1 hs1 HE D0 D1 D3 rfl (by kernel_rfl))
      · have e2 : decide ((x : Int) % 32 < 31) = false := decide_eq_false (by omega)
        clear h2 h3
        go_wp2
        refine wp_label ?_
        rename_i K hK
        refine hK _ _ ?_
        refine HI.out 2 _ _ _ ?_ ?_
        · kernel_rfl
        · exact HeadJ.mk2 x 0 0 r 1 0 hL c (Nat.zero_le _) (Nat.zero_le _) (by decide) ⟨⟨fun _ => by decide, fun _ => by decide, fun _ => rfl⟩⟩ ⟨M.dg1 r⟩ ⟨D0.out.far (by simp) _⟩ ⟨D1.out.put1 0⟩ ⟨below_set D3.out (Nat.le_succ _)⟩ rfl rfl (by kernel_rfl)
def head_Decode.f (a0 : ByteArray) : Option (Int × Int × Bool × Int × Int × Int) := if a0.size ≤ 140737488351232 then some (M.outD (M.decD (M.nb a0))) else none
theorem head_Decode.calls (a0 : ByteArray) (r1 : Int) (r2 : Int) (r3 : Bool) (r4 : Int) (r5 : Int) (r6 : Int) (w : World) (h : head_Decode.f a0 = some (r1, r2, r3, r4, r5, r6)) :
    Calls Try.prog 42 #[.string a0] w fun e w' => e = .returned (.tuple #[.agg #[.int .i64 r1, .int .i64 r2, .bool r3, .int .i64 r4], .int .i64 r5, .int .i64 r6]) ∧ Below w.heap.size w w' := by
  unfold head_Decode.f at h
  split at h
  case isFalse => cases h
  case isTrue ha =>
  have he := Option.some.inj h
  clear h
  refine (headW a0 w ha).mono ?_
  rintro e w' ⟨⟨c, t, k, l, m, e', hE, rfl⟩, hw⟩
  rw [hE] at he
  simp only [Prod.mk.injEq] at he
  obtain ⟨rfl, rfl, rfl, rfl, rfl, rfl⟩ := he
  exact ⟨rfl, hw⟩
end Go.Proofs.Ytmcpfkgahmdkgaa.Pr
end
section
namespace Go.Proofs.Ytmcpfkgahmdkgaa.Pr
open Go.RowKit Go.Proofs.YtmcpfkgahmdkgaaW.PrintWords Go.Proofs.YtmcpfkgahmdkgaaW.PrintLast Go.Proofs.YtmcpfkgahmdkgaaW.PrintMore Go.Proofs.YtmcpfkgahmdkgaaHw
/-- The eight bytes of a number, the greatest first. -/
def bytes8 (n : Int) : List Int := [n / 72057594037927936 % 256, n / 281474976710656 % 256, n / 1099511627776 % 256, n / 4294967296 % 256, n / 16777216 % 256, n / 65536 % 256, n / 256 % 256, n % 256]
def octets_Put.f (n wd : Int) : Option ByteArray := if wd < 1 then some ⟨#[]⟩ else if wd > 8 then some ⟨#[]⟩ else some (strOfNums ((bytes8 n).drop (8 - wd).toNat))
end Go.Proofs.Ytmcpfkgahmdkgaa.Pr
end
