-- several texts in one (by the session's program shake.py)
import Derived.Test.YtokkhnjedmlbhaaZEqAt
import Derived.Test.YtokkhnjedmlbhaaZPrg01x
import Derived.Test.YtokkhnjedmlbhaaZCmac
import Derived.Test.YtokkhnjedmlbhaaZDbl
import Derived.Defers
import Derived.Deep.QuietTactic
import Derived.BigQuiet
import Derived.Test.YtokkhnjedmlbhaaZPrg11
import Derived.Test.YtokkhnjedmlbhaaZPrg10
section
namespace Go.Proofs.Ytokkhnjedmlbhaa.Pr
open Go.RowKit Go.Proofs.YtokkhnjedmlbhaaW.PrintWords Go.Proofs.YtokkhnjedmlbhaaW.PrintLast Go.Proofs.YtokkhnjedmlbhaaW.PrintMore
attribute [local go_sem] max2_int min2_int max_two min_two max_three min_three max_four min_four
def scanTo (a b : ByteArray) : Nat → Int
  | 0 => 0
  | k + 1 => Go.bits .or .u8 (scanTo a b k) (Go.bits .or .u8 (Go.bits .xor .u8 (at0 a k) (at0 b k)) (Go.bits .xor .u8 (at1 a k) (at1 b k)))
def equal_Scan.f (a b : ByteArray) : Option (Bool × Int) := if a.size ≤ 9223372036854775807 then if b.size ≤ 9223372036854775807 then some (scanTo a b (max a.size b.size) == 0, mx (a.size : Int) (b.size : Int)) else none else none
set_option maxHeartbeats 1000000 in
theorem equal_Scan.calls (a b : ByteArray) (r1 : Bool) (r2 : Int) (w : World) (h : equal_Scan.f a b = some (r1, r2)) :
    Calls Try.prog 200 #[.string a, .string b] w fun e w' => e = .returned (.tuple #[.bool r1, .int .i64 r2]) ∧ Below w.heap.size w w' := by
  unfold equal_Scan.f at h
  split at h
  case isFalse => cases h
  case isTrue ha =>
  split at h
  case isFalse => cases h
  case isTrue hb =>
  obtain ⟨rfl, rfl⟩ := Prod.mk.inj (Option.some.inj h)
  clear h
  by_cases hc : a.size < b.size
  · have hmx : mx (a.size : Int) (b.size : Int) = (b.size : Int) := by unfold mx; omega
    have hmn : max a.size b.size = b.size := by omega
    rw [hmx, hmn]
    clear hmx hmn
    go_enter Try.func200, Try.ntmps200
    go_wp2
    go_loopw [6, 17] (fun s i wr => ∃ k : Nat, k ≤ b.size ∧ i = .int .i64 k ∧ s = .int .u8 (scanTo a b k) ∧ Aside0 (Below w.heap.size w wr)) (fun _ i _ => b.size - (intOf i).toNat)
    case atStart => exact ⟨0, Nat.zero_le _, rfl, rfl, ⟨Below.refl _ _⟩⟩
    case round =>
      obtain ⟨k, hk, rfl, rfl, HB⟩ := hrel
      by_cases hlt : k < b.size
      · go_wp2_with (go_at_call 222; refine (equal_at.calls _ _ _ (by omega)).mono ?_; rintro e w1 ⟨rfl, hb1⟩)
        rename_i w0 hb0
        have hz0 := HB.out.size
        have hz1 := hb0.size
        have hz2 := hb1.size
        exact ⟨⟨k + 1, hlt, by go_num, rfl, ⟨(((HB.out.trans (hb0.mono hz0)).trans (hb1.mono (by omega))).alloc (by omega) _).alloc (by simp; omega) _⟩⟩, by simp [intOf]; omega⟩
      · obtain rfl : k = b.size := by omega
        go_wp2
        go_ret2
        exact ⟨rfl, HB.out⟩
  · have hmx : mx (a.size : Int) (b.size : Int) = (a.size : Int) := by unfold mx; omega
    have hmn : max a.size b.size = a.size := by omega
    rw [hmx, hmn]
    clear hmx hmn
    go_enter Try.func200, Try.ntmps200
    go_wp2
    go_loopw [6, 17] (fun s i wr => ∃ k : Nat, k ≤ a.size ∧ i = .int .i64 k ∧ s = .int .u8 (scanTo a b k) ∧ Aside0 (Below w.heap.size w wr)) (fun _ i _ => a.size - (intOf i).toNat)
    case atStart => exact ⟨0, Nat.zero_le _, rfl, rfl, ⟨Below.refl _ _⟩⟩
    case round =>
      obtain ⟨k, hk, rfl, rfl, HB⟩ := hrel
      by_cases hlt : k < a.size
      · go_wp2_with (go_at_call 222; refine (equal_at.calls _ _ _ (by omega)).mono ?_; rintro e w1 ⟨rfl, hb1⟩)
        rename_i w0 hb0
        have hz0 := HB.out.size
        have hz1 := hb0.size
        have hz2 := hb1.size
        exact ⟨⟨k + 1, hlt, by go_num, rfl, ⟨(((HB.out.trans (hb0.mono hz0)).trans (hb1.mono (by omega))).alloc (by omega) _).alloc (by simp; omega) _⟩⟩, by simp [intOf]; omega⟩
      · obtain rfl : k = a.size := by omega
        go_wp2
        go_ret2
        exact ⟨rfl, HB.out⟩
end Go.Proofs.Ytokkhnjedmlbhaa.Pr
end
section
namespace Go.Proofs.Ytokkhnjedmlbhaa.Pr
open Go.RowKit Go.Proofs.YtokkhnjedmlbhaaW.PrintWords Go.Proofs.YtokkhnjedmlbhaaW.PrintLast Go.Proofs.YtokkhnjedmlbhaaW.PrintMore
attribute [local go_sem] max2_int min2_int max_two min_two max_three min_three max_four min_four   -- for this text's walks alone
set_option linter.unusedVariables false
set_option linter.unusedSimpArgs false

def cmac_Check.f (a0 : ByteArray) (a1 : ByteArray) (a2 : ByteArray) : Option (Bool × Int) := (cmac_Tag.f a0 a1).bind fun bt1 => (if bt1.2 = 0 then ((equal_Scan.f bt1.1 a2).bind fun bt2 => (some (bt2.1, 0))) else (some (false, bt1.2)))
set_option maxHeartbeats 8000000 in
set_option maxRecDepth 100000 in
theorem cmac_Check.calls (a0 : ByteArray) (a1 : ByteArray) (a2 : ByteArray) (r1 : Bool) (r2 : Int) (w : World) (h : cmac_Check.f a0 a1 a2 = some (r1, r2)) :
  Calls Try.prog 122 #[.string a0, .string a1, .string a2] w fun e w' => e = .returned (.tuple #[.bool r1, .int .i64 r2]) ∧ Below w.heap.size w w' := by
 have HB := Aside0.mk (Below.refl w.heap.size w)
 have H : ((cmac_Tag.f a0 a1).bind fun bt1 => (if bt1.2 = 0 then ((equal_Scan.f bt1.1 a2).bind fun bt2 => (some (bt2.1, 0))) else (some (false, bt1.2)))) = some (r1, r2) := h
 clear h
 replace H := Option.bind_eq_some_iff.mp H
 obtain ⟨⟨t1, t3⟩, A40, H⟩ := H
 try dsimp only at H
 have A4 := Aside0.mk A40
 clear A40
 by_cases c5 : t3 = 0
 ·rw [if_pos c5] at H
  have c5b0 : (t3 == 0) = true := beq_iff_eq.mpr c5
  have c5b1 : (t3 != 0) = false := bne_eq_false_iff_eq.mpr c5
  clear c5
  replace H := Option.bind_eq_some_iff.mp H
  obtain ⟨⟨t2, t4⟩, A60, H⟩ := H
  replace H : (some (t2, 0)) = some (r1, r2) := H
  have A6 := Aside0.mk A60
  clear A60
  simp only [Option.some.injEq, Prod.mk.injEq] at H
  obtain ⟨rfl, rfl⟩ := H
  go_enter Try.func122, Try.ntmps122
  go_wp2_with (first | ((with_reducible refine gate_callee (f := 110) rfl ?_); refine goesL_ (some 15) rfl rfl Try.func110 (by kernel_rfl) rfl #[.string a0, .string a1] rfl (by (try simp only [lT, lC, lN]); first | done | rfl) ?_; (with_reducible refine (cmac_Tag.calls a0 a1 t1 t3 _ A4.out).mono ?_); rintro e w7 ⟨rfl, hb⟩; refine ⟨_, rfl, ?_⟩; have n0_ := Aside0.mk (below_step (by repeat first | with_reducible (first | exact HB.out | apply bA | apply bN | apply bD) | exact HB.out) hb); clear HB; have HB := n0_; clear n0_; (try clear hb); (try clear hb2); (try clear hk); (try clear hi)) | ((with_reducible refine gate_callee (f := 200) rfl ?_); refine goesL_ (some 24) rfl rfl Try.func200 (by kernel_rfl) rfl #[.string t1, .string a2] rfl (by (try simp only [lT, lC, lN]); first | done | rfl) ?_; (with_reducible refine (equal_Scan.calls t1 a2 t2 t4 _ A6.out).mono ?_); rintro e w8 ⟨rfl, hb⟩; refine ⟨_, rfl, ?_⟩; have n0_ := Aside0.mk (below_step (by repeat first | with_reducible (first | exact HB.out | apply bA | apply bN | apply bD) | exact HB.out) hb); clear HB; have HB := n0_; clear n0_; (try clear hb); (try clear hb2); (try clear hk); (try clear hi)))
  go_ret2
  exact ⟨by first | rfl | (simp [*, errW_none, errW_some] <;> rfl), by repeat first | with_reducible (first | exact HB.out | apply bA | apply bN | apply bD) | exact HB.out⟩
 ·rw [if_neg c5] at H
  have c5b0 : (t3 == 0) = false := beq_eq_false_iff_ne.mpr c5
  have c5b1 : (t3 != 0) = true := bne_iff_ne.mpr c5
  simp only [Option.some.injEq, Prod.mk.injEq] at H
  obtain ⟨rfl, rfl⟩ := H
  go_enter Try.func122, Try.ntmps122
  go_wp2_with (first | ((with_reducible refine gate_callee (f := 110) rfl ?_); refine goesL_ (some 15) rfl rfl Try.func110 (by kernel_rfl) rfl #[.string a0, .string a1] rfl (by (try simp only [lT, lC, lN]); first | done | rfl) ?_; (with_reducible refine (cmac_Tag.calls a0 a1 t1 t3 _ A4.out).mono ?_); rintro e w9 ⟨rfl, hb⟩; refine ⟨_, rfl, ?_⟩; have n0_ := Aside0.mk (below_step (by repeat first | with_reducible (first | exact HB.out | apply bA | apply bN | apply bD) | exact HB.out) hb); clear HB; have HB := n0_; clear n0_; (try clear hb); (try clear hb2); (try clear hk); (try clear hi)))
  go_ret2
  exact ⟨by first | rfl | (simp [*, errW_none, errW_some] <;> rfl), by repeat first | with_reducible (first | exact HB.out | apply bA | apply bN | apply bD) | exact HB.out⟩

def cmac_Blocks.f (a0 : Int) : Option (Int) := if a0 < 0 then (some 0) else (some (mx 1 (wrap64 ((wrap64 (Int.tdiv a0 16)) + (mn 1 (Int.tmod a0 16))))))
def clavigerref11_Blocks.f (a0 : Int) : Option (Int) := if a0 < 0 then (some 0) else (if a0 = 0 then (some 1) else (some (wrap64 ((wrap64 (Int.tdiv (wrap64 (a0 - 1)) 16)) + 1))))
end Go.Proofs.Ytokkhnjedmlbhaa.Pr
end
section
namespace Go.Proofs.Ytokkhnjedmlbhaa.Pr
open Go.RowKit Go.Proofs.YtokkhnjedmlbhaaW.PrintWords Go.Proofs.YtokkhnjedmlbhaaW.PrintLast Go.Proofs.YtokkhnjedmlbhaaW.PrintMore Go.Proofs.YtokkhnjedmlbhaaHw Go.Proofs.YtokkhnjedmlbhaaGf
/-- What is done behind the return: with an error nothing is told. -/
theorem open_door0 (p q : Addr) (u : FrameMode) (w : World) (h : w.cell? p = some (.int .i64 0)) :
    CallsD Try.prog 173 #[.pointer (some p), .pointer (some q)] u w fun e u' w' => u' = u ∧ (e = .returned (.tuple #[]) ∧ w' = w) := by
  go_enter_d Try.func173, Try.ntmps173
  go_wp2
  go_end0
  exact ⟨rfl, rfl⟩
theorem open_door1 (p q : Addr) (e0 : Int) (x : ByteArray) (u : FrameMode) (w : World) (h : w.cell? p = some (.int .i64 e0)) (he : e0 ≠ 0) (hq : w.cell? q = some (.string x)) (hf : w.frozen? q = false) :
    CallsD Try.prog 173 #[.pointer (some p), .pointer (some q)] u w fun e u' w' => u' = u ∧ (e = .returned (.tuple #[]) ∧ w' = w.setCell q (.string ⟨#[]⟩)) := by
  have hb : (e0 != 0) = true := bne_iff_ne.mpr he
  go_enter_d Try.func173, Try.ntmps173
  go_wp2
  go_end0
  exact ⟨rfl, rfl⟩
/-- An open payload, or why not. -/
def open_Open.f (k : Nat) (a0 a1 a2 a3 : ByteArray) : Option (ByteArray × Int) := (derive_Keys.f k a0).bind fun p =>
  if p.2.2 = 0 then (if a3.size = 16 ∧ a2.size ≠ 0 ∧ a2.size % 16 = 0 then (cbc_Decrypt.f p.1 a3 a2).bind fun q => if a1.size + q.1.size ≤ 9223372036854775807 then (cmac_Check.f p.2.1 (a1 ++ q.1) a3).bind fun r =>
    some (if r.1 = true then (if q.2 = 0 then q.1 else ⟨#[]⟩) else ⟨#[]⟩, if r.1 = true then q.2 else 7) else none else some (⟨#[]⟩, 4)) else some (⟨#[]⟩, p.2.2)
theorem open_Open.mono : ∀ a0 a1 a2 a3 k, LeO (open_Open.f k a0 a1 a2 a3) (open_Open.f (k + 1) a0 a1 a2 a3) := fun a0 _ _ _ k =>
  LeO.bind (derive_Keys.mono a0 k) (fun _ => LeO.refl _)
/-- The cells of the results, and what they hold. -/
structure TwoC (w W : World) (x : ByteArray) (d : Int) : Prop where
  h8 : W.heap[w.heap.size]? = some (.cells #[.string x] 9 (0, 0))
  h9 : W.heap[w.heap.size + 1]? = some (.cells #[.int .i64 d] 35 (0, 0))
  hb : Below w.heap.size w W
theorem TwoC.new (w : World) : TwoC w ((w.alloc (.cells #[.string (⟨#[]⟩ : ByteArray)] 9)).alloc (.cells #[.int .i64 0] 35)) ⟨#[]⟩ 0 := by
  have h1 := heap_alloc_new w (.cells #[.string (⟨#[]⟩ : ByteArray)] 9)
  have hs : (w.alloc (.cells #[.string (⟨#[]⟩ : ByteArray)] 9)).heap.size = w.heap.size + 1 := World.size_alloc ..
  have b1 := below_alloc (Below.refl w.heap.size w) (.cells #[.string (⟨#[]⟩ : ByteArray)] 9)
  have h2 := heap_alloc_new (w.alloc (.cells #[.string (⟨#[]⟩ : ByteArray)] 9)) (.cells #[.int .i64 0] 35)
  have b2 := below_alloc (Below.refl _ (w.alloc (.cells #[.string (⟨#[]⟩ : ByteArray)] 9))) (.cells #[.int .i64 0] 35)
  rw [hs] at h2 b2
  exact ⟨(b2.block w.heap.size (by omega)).trans h1, h2, below_alloc b1 _⟩
theorem TwoC.put8 {w W : World} {x : ByteArray} {d : Int} (h : TwoC w W x d) (y : ByteArray) : TwoC w (W.setCell ⟨w.heap.size, 0, none⟩ (.string y)) y d :=
  ⟨blk_set h.h8 0 (.string y), (heap_setCell_other _ _ _ _ (by show w.heap.size + 1 ≠ w.heap.size; omega)).trans h.h9, below_set h.hb (Nat.le_refl _)⟩
theorem TwoC.put9 {w W : World} {x : ByteArray} {d : Int} (h : TwoC w W x d) (e : Int) : TwoC w (W.setCell ⟨w.heap.size + 1, 0, none⟩ (.int .i64 e)) x e :=
  ⟨(heap_setCell_other _ _ _ _ (by show w.heap.size ≠ w.heap.size + 1; omega)).trans h.h8, blk_set h.h9 0 (.int .i64 e), below_set h.hb (Nat.le_succ _)⟩
theorem TwoC.drew {w W : World} {x : ByteArray} {d : Int} (h : TwoC w W x d) : TwoC w W.drew x d := ⟨h.h8, h.h9, pw_below_drewN h.hb 1⟩
theorem TwoC.step {w W W2 : World} {x : ByteArray} {d : Int} (h : TwoC w W x d) (hb : Below W.heap.size W W2) : TwoC w W2 x d :=
  ⟨(hb.block _ (blk_lt h.h8)).trans h.h8, (hb.block _ (blk_lt h.h9)).trans h.h9, below_then h.hb h.hb.size hb⟩
theorem TwoC.f8 {w W : World} {x : ByteArray} {d : Int} (h : TwoC w W x d) : W.frozen? ⟨w.heap.size, 0, none⟩ = false := blk_frozen h.h8 0
theorem TwoC.f9 {w W : World} {x : ByteArray} {d : Int} (h : TwoC w W x d) : W.frozen? ⟨w.heap.size + 1, 0, none⟩ = false := blk_frozen h.h9 0
theorem TwoC.c8 {w W : World} {x : ByteArray} {d : Int} (h : TwoC w W x d) : W.cell? ⟨w.heap.size, 0, none⟩ = some (.string x) := (blk_cell h.h8 0).trans rfl
theorem TwoC.c9 {w W : World} {x : ByteArray} {d : Int} (h : TwoC w W x d) : W.cell? ⟨w.heap.size + 1, 0, none⟩ = some (.int .i64 d) := (blk_cell h.h9 0).trans rfl
theorem open_end {w W : World} {x : ByteArray} {d : Int} (h : TwoC w W x d) (tm : Array Value) (h8 : tm[8]? = some (.pointer (some ⟨w.heap.size, 0, none⟩))) (h9 : tm[9]? = some (.pointer (some ⟨w.heap.size + 1, 0, none⟩))) :
    Leaves Try.prog Try.f61 tm (fun e w' => e = .returned (.tuple #[.string x, .int .i64 d]) ∧ Below w.heap.size w w') [] .returning W := by
  have c8 := h.c8
  have c9 := h.c9
  have HB := h.hb
  clear h
  simp [Leaves, results, Try.results61, go_sem, c8, c9, h8, h9, HB]
theorem and15 (n : Int) : bits .and .i64 n 15 = n % 16 := by
  have h15 : (BitVec.ofInt 64 15).toNat = 2 ^ 4 - 1 := by decide
  have key : (BitVec.ofInt 64 n &&& BitVec.ofInt 64 15).toNat = (n % ((2 ^ 64 : Nat) : Int)).toNat % 2 ^ 4 := by
    rw [BitVec.toNat_and, BitVec.toNat_ofInt, h15, Nat.and_two_pow_sub_one_eq_mod]
  show IntKind.i64.wrap ((BitVec.ofInt 64 n &&& BitVec.ofInt 64 15).toNat : Nat) = n % 16
  rw [key, IntKind.wrap_i64]
  omega
theorem emp_yes {s : ByteArray} (h : s.size = 0) : s.toList.isEmpty = true := by
  rw [M.tl_eq, show s.data.toList = [] from List.eq_nil_of_length_eq_zero (by rw [Array.length_toList]; exact h)]; rfl
theorem emp_no {s : ByteArray} (h : s.size ≠ 0) : s.toList.isEmpty = false := by
  rw [M.tl_eq]
  cases e : s.data.toList with
  | nil => exact absurd (by have := congrArg List.length e; rw [Array.length_toList] at this; exact this) h
  | cons _ _ => rfl
set_option maxHeartbeats 1000000 in
theorem open_bad0 (k : Nat) (a0 a1 a2 a3 a b : ByteArray) (e0 : Int) (w : World) (h0 : derive_Keys.f k a0 = some (a, b, e0)) (he : e0 ≠ 0) :
    Calls Try.prog 61 #[.string a0, .string a1, .string a2, .string a3] w fun e w' => e = .returned (.tuple #[.string ⟨#[]⟩, .int .i64 e0]) ∧ Below w.heap.size w w' := by
  have hmf : ∀ (fn : Fn) (first cap : Array Value) (w : World), (Instr.makeFunc fn first cap).run Try.prog w = .ok (.func fn first cap) w := fun _ _ _ _ => rfl
  have H0 := Aside0.mk h0
  have hb2 : (e0 != 0) = true := bne_iff_ne.mpr he
  have HE := Aside0.mk he
  have HC := Aside0.mk (TwoC.new w)
  clear h0 he
  go_enter_defers Try.func61, Try.ntmps61
  go_wp2_with (go_at_call 131; (with_reducible refine (derive_Keys.calls k a0 a b e0 _ H0.out).mono ?_); rintro e w2 ⟨rfl, hb2⟩; have HT := Aside0.mk (HC.out.step hb2); have f8 := HT.out.f8; have c8 := HT.out.c8; have f9 := HT.out.f9; have c9 := HT.out.c9; clear hb2 HC)
  go_region
  go_wp2
  have hx := ((((HT.out.put9 e0).put8 ⟨#[]⟩).put9 e0).drew)
  refine leaves_cons (f := 173) (args := #[.pointer (some ⟨w.heap.size + 1, 0, none⟩), .pointer (some ⟨w.heap.size, 0, none⟩)]) (by simp) (by simp [go_sem]) ?_
  refine (open_door1 ⟨w.heap.size + 1, 0, none⟩ ⟨w.heap.size, 0, none⟩ e0 ⟨#[]⟩ .returning _ hx.c9 HE.out hx.c8 hx.f8).mono ?_
  rintro e u' w'' ⟨rfl, rfl, rfl⟩
  exact open_end (hx.put8 ⟨#[]⟩) _ rfl rfl
set_option maxHeartbeats 1000000 in
theorem open_s1 (k : Nat) (a0 a1 a2 a3 a b : ByteArray) (w : World) (h0 : derive_Keys.f k a0 = some (a, b, 0)) (hs : a3.size ≠ 16) :
    Calls Try.prog 61 #[.string a0, .string a1, .string a2, .string a3] w fun e w' => e = .returned (.tuple #[.string ⟨#[]⟩, .int .i64 4]) ∧ Below w.heap.size w w' := by
  have hmf : ∀ (fn : Fn) (first cap : Array Value) (w : World), (Instr.makeFunc fn first cap).run Try.prog w = .ok (.func fn first cap) w := fun _ _ _ _ => rfl
  have H0 := Aside0.mk h0
  have hs1 : ((a3.size : Int) != 16) = true := bne_iff_ne.mpr (by omega)
  have HC := Aside0.mk (TwoC.new w)
  clear h0
  go_enter_defers Try.func61, Try.ntmps61
  go_wp2_with (go_at_call 131; (with_reducible refine (derive_Keys.calls k a0 a b 0 _ H0.out).mono ?_); rintro e w2 ⟨rfl, hb2⟩; have HT := Aside0.mk (HC.out.step hb2); have f8 := HT.out.f8; have c8 := HT.out.c8; have f9 := HT.out.f9; have c9 := HT.out.c9; clear hb2 HC)
  have hx := ((HT.out.put9 0).put8 ⟨#[]⟩).put9 4
  refine leaves_cons (f := 173) (args := #[.pointer (some ⟨w.heap.size + 1, 0, none⟩), .pointer (some ⟨w.heap.size, 0, none⟩)]) (by simp) (by simp [go_sem]) ?_
  refine (open_door1 ⟨w.heap.size + 1, 0, none⟩ ⟨w.heap.size, 0, none⟩ 4 ⟨#[]⟩ .returning _ hx.c9 (by decide) hx.c8 hx.f8).mono ?_
  rintro e u' w'' ⟨rfl, rfl, rfl⟩
  exact open_end (hx.put8 ⟨#[]⟩) _ rfl rfl
set_option maxHeartbeats 1000000 in
theorem open_s2 (k : Nat) (a0 a1 a2 a3 a b : ByteArray) (w : World) (h0 : derive_Keys.f k a0 = some (a, b, 0)) (hs : a3.size = 16) (hq : a2.size = 0) :
    Calls Try.prog 61 #[.string a0, .string a1, .string a2, .string a3] w fun e w' => e = .returned (.tuple #[.string ⟨#[]⟩, .int .i64 4]) ∧ Below w.heap.size w w' := by
  have hmf : ∀ (fn : Fn) (first cap : Array Value) (w : World), (Instr.makeFunc fn first cap).run Try.prog w = .ok (.func fn first cap) w := fun _ _ _ _ => rfl
  have H0 := Aside0.mk h0
  have hs1 : ((a3.size : Int) != 16) = false := by simp; omega
  have hq1 := emp_yes hq
  have HC := Aside0.mk (TwoC.new w)
  clear h0
  go_enter_defers Try.func61, Try.ntmps61
  go_wp2_with (go_at_call 131; (with_reducible refine (derive_Keys.calls k a0 a b 0 _ H0.out).mono ?_); rintro e w2 ⟨rfl, hb2⟩; have HT := Aside0.mk (HC.out.step hb2); have f8 := HT.out.f8; have c8 := HT.out.c8; have f9 := HT.out.f9; have c9 := HT.out.c9; clear hb2 HC)
  have hx := ((HT.out.put9 0).put8 ⟨#[]⟩).put9 4
  refine leaves_cons (f := 173) (args := #[.pointer (some ⟨w.heap.size + 1, 0, none⟩), .pointer (some ⟨w.heap.size, 0, none⟩)]) (by simp) (by simp [go_sem]) ?_
  refine (open_door1 ⟨w.heap.size + 1, 0, none⟩ ⟨w.heap.size, 0, none⟩ 4 ⟨#[]⟩ .returning _ hx.c9 (by decide) hx.c8 hx.f8).mono ?_
  rintro e u' w'' ⟨rfl, rfl, rfl⟩
  exact open_end (hx.put8 ⟨#[]⟩) _ rfl rfl
set_option maxHeartbeats 1000000 in
theorem open_s3 (k : Nat) (a0 a1 a2 a3 a b : ByteArray) (w : World) (h0 : derive_Keys.f k a0 = some (a, b, 0)) (hs : a3.size = 16) (hq : a2.size ≠ 0) (hr : a2.size % 16 ≠ 0) :
    Calls Try.prog 61 #[.string a0, .string a1, .string a2, .string a3] w fun e w' => e = .returned (.tuple #[.string ⟨#[]⟩, .int .i64 4]) ∧ Below w.heap.size w w' := by
  have hmf : ∀ (fn : Fn) (first cap : Array Value) (w : World), (Instr.makeFunc fn first cap).run Try.prog w = .ok (.func fn first cap) w := fun _ _ _ _ => rfl
  have H0 := Aside0.mk h0
  have hs1 : ((a3.size : Int) != 16) = false := by simp; omega
  have hq1 := emp_no hq
  have hr1 : (bits .and .i64 (a2.size : Int) 15 != 0) = true := by rw [and15]; simp; omega
  have HC := Aside0.mk (TwoC.new w)
  clear h0
  go_enter_defers Try.func61, Try.ntmps61
  go_wp2_with (go_at_call 131; (with_reducible refine (derive_Keys.calls k a0 a b 0 _ H0.out).mono ?_); rintro e w2 ⟨rfl, hb2⟩; have HT := Aside0.mk (HC.out.step hb2); have f8 := HT.out.f8; have c8 := HT.out.c8; have f9 := HT.out.f9; have c9 := HT.out.c9; clear hb2 HC)
  have hx := ((HT.out.put9 0).put8 ⟨#[]⟩).put9 4
  refine leaves_cons (f := 173) (args := #[.pointer (some ⟨w.heap.size + 1, 0, none⟩), .pointer (some ⟨w.heap.size, 0, none⟩)]) (by simp) (by simp [go_sem]) ?_
  refine (open_door1 ⟨w.heap.size + 1, 0, none⟩ ⟨w.heap.size, 0, none⟩ 4 ⟨#[]⟩ .returning _ hx.c9 (by decide) hx.c8 hx.f8).mono ?_
  rintro e u' w'' ⟨rfl, rfl, rfl⟩
  exact open_end (hx.put8 ⟨#[]⟩) _ rfl rfl
set_option maxHeartbeats 1000000 in
theorem open_ok (k : Nat) (a0 a1 a2 a3 a b pl : ByteArray) (e1 e2 : Int) (rt : Bool) (w : World) (h0 : derive_Keys.f k a0 = some (a, b, 0)) (hs : a3.size = 16) (hq : a2.size ≠ 0) (hr : a2.size % 16 = 0)
    (h1 : cbc_Decrypt.f a a3 a2 = some (pl, e1)) (hz : a1.size + pl.size ≤ 9223372036854775807) (h2 : cmac_Check.f b (a1 ++ pl) a3 = some (rt, e2)) :
    Calls Try.prog 61 #[.string a0, .string a1, .string a2, .string a3] w fun e w' => e = .returned (.tuple #[.string (if rt = true then (if e1 = 0 then pl else ⟨#[]⟩) else ⟨#[]⟩), .int .i64 (if rt = true then e1 else 7)]) ∧ Below w.heap.size w w' := by
  have hmf : ∀ (fn : Fn) (first cap : Array Value) (w : World), (Instr.makeFunc fn first cap).run Try.prog w = .ok (.func fn first cap) w := fun _ _ _ _ => rfl
  have H0 := Aside0.mk h0
  have H1 := Aside0.mk h1
  have H2 := Aside0.mk h2
  have hs1 : ((a3.size : Int) != 16) = false := by simp; omega
  have hq1 := emp_no hq
  have hr1 : (bits .and .i64 (a2.size : Int) 15 != 0) = false := by rw [and15]; simp; omega
  have HC := Aside0.mk (TwoC.new w)
  clear h0 h1 h2
  go_enter_defers Try.func61, Try.ntmps61
  cases rt
  case' false =>
    go_wp2_with (first
      | (go_at_call 131; (with_reducible refine (derive_Keys.calls k a0 a b 0 _ H0.out).mono ?_); rintro e w2 ⟨rfl, hb2⟩; have HT := Aside0.mk (HC.out.step hb2); have f8 := HT.out.f8; have c8 := HT.out.c8; have f9 := HT.out.f9; have c9 := HT.out.c9; clear hb2 HC)
      | (go_at_call 119; (with_reducible refine (cbc_Decrypt.calls a a3 a2 pl e1 _ H1.out).mono ?_); rintro e w3 ⟨rfl, hb3⟩; have HU := Aside0.mk ((HT.out.put9 0).step hb3); clear f8 c8 f9 c9; have f8 := HU.out.f8; have c8 := HU.out.c8; have f9 := HU.out.f9; have c9 := HU.out.c9; clear hb3 HT)
      | (go_at_call 122; (with_reducible refine (cmac_Check.calls b (a1 ++ pl) a3 false e2 _ H2.out).mono ?_); rintro e w4 ⟨rfl, hb4⟩; have HV := Aside0.mk (((HU.out.put8 pl).put9 e1).step hb4); clear f8 c8 f9 c9; have f8 := HV.out.f8; have c8 := HV.out.c8; have f9 := HV.out.f9; have c9 := HV.out.c9; clear hb4 HU))
    go_region
    go_wp2
    have hx := (((HV.out.put9 7).put8 pl).put9 7).drew
    refine leaves_cons (f := 173) (args := #[.pointer (some ⟨w.heap.size + 1, 0, none⟩), .pointer (some ⟨w.heap.size, 0, none⟩)]) (by simp) (by simp [go_sem]) ?_
    refine (open_door1 ⟨w.heap.size + 1, 0, none⟩ ⟨w.heap.size, 0, none⟩ 7 pl .returning _ hx.c9 (by decide) hx.c8 hx.f8).mono ?_
    rintro e u' w'' ⟨rfl, rfl, rfl⟩
    exact open_end (hx.put8 ⟨#[]⟩) _ rfl rfl
  case' true =>
    rw [if_pos rfl, if_pos rfl]
    generalize hrr : (if e1 = 0 then pl else (⟨#[]⟩ : ByteArray)) = rr
    have HR := Aside0.mk hrr
    clear hrr
    go_wp2_with (first
      | (go_at_call 131; (with_reducible refine (derive_Keys.calls k a0 a b 0 _ H0.out).mono ?_); rintro e w2 ⟨rfl, hb2⟩; have HT := Aside0.mk (HC.out.step hb2); have f8 := HT.out.f8; have c8 := HT.out.c8; have f9 := HT.out.f9; have c9 := HT.out.c9; clear hb2 HC)
      | (go_at_call 119; (with_reducible refine (cbc_Decrypt.calls a a3 a2 pl e1 _ H1.out).mono ?_); rintro e w3 ⟨rfl, hb3⟩; have HU := Aside0.mk ((HT.out.put9 0).step hb3); clear f8 c8 f9 c9; have f8 := HU.out.f8; have c8 := HU.out.c8; have f9 := HU.out.f9; have c9 := HU.out.c9; clear hb3 HT)
      | (go_at_call 122; (with_reducible refine (cmac_Check.calls b (a1 ++ pl) a3 true e2 _ H2.out).mono ?_); rintro e w4 ⟨rfl, hb4⟩; have HV := Aside0.mk (((HU.out.put8 pl).put9 e1).step hb4); clear f8 c8 f9 c9; have f8 := HV.out.f8; have c8 := HV.out.c8; have f9 := HV.out.f9; have c9 := HV.out.c9; clear hb4 HU))
    go_region
    go_wp2
    have hx := ((HV.out.put8 pl).put9 e1).drew
    refine leaves_cons (f := 173) (args := #[.pointer (some ⟨w.heap.size + 1, 0, none⟩), .pointer (some ⟨w.heap.size, 0, none⟩)]) (by simp) (by simp [go_sem]) ?_
    by_cases he : e1 = 0
    · subst he
      obtain rfl := (if_pos rfl).symm.trans HR.out
      refine (open_door0 ⟨w.heap.size + 1, 0, none⟩ ⟨w.heap.size, 0, none⟩ .returning _ hx.c9).mono ?_
      rintro e u' w'' ⟨rfl, rfl, rfl⟩
      exact open_end hx _ rfl rfl
    · refine (open_door1 ⟨w.heap.size + 1, 0, none⟩ ⟨w.heap.size, 0, none⟩ e1 pl .returning _ hx.c9 he hx.c8 hx.f8).mono ?_
      rintro e u' w'' ⟨rfl, rfl, rfl⟩
      obtain rfl := (if_neg he).symm.trans HR.out
      exact open_end (hx.put8 ⟨#[]⟩) _ rfl rfl
theorem open_Open.calls (k : Nat) (a0 a1 a2 a3 : ByteArray) (r0 : ByteArray) (r1 : Int) (w : World) (h : open_Open.f k a0 a1 a2 a3 = some (r0, r1)) :
    Calls Try.prog 61 #[.string a0, .string a1, .string a2, .string a3] w fun e w' => e = .returned (.tuple #[.string r0, .int .i64 r1]) ∧ Below w.heap.size w w' := by
  unfold open_Open.f at h
  replace h := Option.bind_eq_some_iff.1 h
  obtain ⟨⟨a, b, e0⟩, h0, h⟩ := h
  by_cases he : e0 = 0
  · subst he
    rw [if_pos (show (a, b, (0 : Int)).2.2 = 0 from rfl)] at h
    by_cases hc : a3.size = 16 ∧ a2.size ≠ 0 ∧ a2.size % 16 = 0
    · rw [if_pos hc] at h
      replace h := Option.bind_eq_some_iff.1 h
      obtain ⟨⟨pl, e1⟩, h1, h⟩ := h
      by_cases hz : a1.size + pl.size ≤ 9223372036854775807
      · rw [if_pos (show a1.size + (pl, e1).1.size ≤ 9223372036854775807 from hz)] at h
        replace h := Option.bind_eq_some_iff.1 h
        obtain ⟨⟨rt, e2⟩, h2, h⟩ := h
        obtain ⟨rfl, rfl⟩ := Prod.mk.inj (Option.some.inj h)
        exact open_ok k a0 a1 a2 a3 a b pl e1 e2 rt w h0 hc.1 hc.2.1 hc.2.2 h1 hz h2
      · rw [if_neg (show ¬ a1.size + (pl, e1).1.size ≤ 9223372036854775807 from hz)] at h
        cases h
    · rw [if_neg hc] at h
      obtain ⟨rfl, rfl⟩ := Prod.mk.inj (Option.some.inj h)
      by_cases hs : a3.size = 16
      · by_cases hq : a2.size = 0
        · exact open_s2 k a0 a1 a2 a3 a b w h0 hs hq
        · exact open_s3 k a0 a1 a2 a3 a b w h0 hs hq (fun e => hc ⟨hs, hq, e⟩)
      · exact open_s1 k a0 a1 a2 a3 a b w h0 hs
  · rw [if_neg (show ¬ (a, b, e0).2.2 = 0 from he)] at h
    obtain ⟨rfl, rfl⟩ := Prod.mk.inj (Option.some.inj h)
    exact open_bad0 k a0 a1 a2 a3 a b e0 w h0 he
end Go.Proofs.Ytokkhnjedmlbhaa.Pr
end
section
namespace Go.Proofs.Ytokkhnjedmlbhaa.Pr
open Go.RowKit Go.Proofs.YtokkhnjedmlbhaaW.PrintWords Go.Proofs.YtokkhnjedmlbhaaW.PrintLast Go.Proofs.YtokkhnjedmlbhaaW.PrintMore
attribute [local go_sem] max2_int min2_int max_two min_two max_three min_three max_four min_four   -- for this text's walks alone
set_option linter.unusedVariables false
set_option linter.unusedSimpArgs false

def open_Right.f (k : Nat) (a0 : ByteArray) (a1 : ByteArray) (a2 : ByteArray) (a3 : ByteArray) : Option (Bool) := (open_Open.f k a0 a1 a2 a3).bind fun bt1 => (some (bt1.2 == 0))
theorem open_Right.mono : ∀ a0 a1 a2 a3 k, LeO (open_Right.f k a0 a1 a2 a3) (open_Right.f (k + 1) a0 a1 a2 a3) := by
 intro a0 a1 a2 a3 k
 unfold open_Right.f
 repeat' first
   | (with_reducible exact open_Open.mono _ _ _ _ _)
   | (with_reducible exact LeO.refl _)
   | (with_reducible exact LeO.none _)
   | (with_reducible refine LeO.ite ?_ ?_)
   | (with_reducible refine LeO.bind ?_ (fun _ => ?_))
set_option maxHeartbeats 8000000 in
set_option maxRecDepth 100000 in
theorem open_Right.calls (k : Nat) (a0 : ByteArray) (a1 : ByteArray) (a2 : ByteArray) (a3 : ByteArray) (r : Bool) (w : World) (h : open_Right.f k a0 a1 a2 a3 = some r) :
  Calls Try.prog 167 #[.string a0, .string a1, .string a2, .string a3] w fun e w' => e = .returned (.bool r) ∧ Below w.heap.size w w' := by
 have HB := Aside0.mk (Below.refl w.heap.size w)
 have H : ((open_Open.f k a0 a1 a2 a3).bind fun bt1 => (some (bt1.2 == 0))) = some r := h
 clear h
 replace H := Option.bind_eq_some_iff.mp H
 obtain ⟨⟨t1, t2⟩, A50, H⟩ := H
 replace H : (some (t2 == 0)) = some r := H
 have A5 := Aside0.mk A50
 clear A50
 obtain rfl := Option.some.inj H
 go_enter Try.func167, Try.ntmps167
 go_wp2_with (first | ((with_reducible refine gate_callee (f := 61) rfl ?_); refine goesL_ (some 16) rfl rfl Try.func61 (by kernel_rfl) rfl #[.string a0, .string a1, .string a2, .string a3] rfl (by (try simp only [lT, lC, lN]); first | done | rfl) ?_; (with_reducible refine (open_Open.calls k a0 a1 a2 a3 t1 t2 _ A5.out).mono ?_); rintro e w6 ⟨rfl, hb⟩; refine ⟨_, rfl, ?_⟩; have n0_ := Aside0.mk (below_step (by repeat first | with_reducible (first | exact HB.out | apply bA | apply bN | apply bD) | exact HB.out) hb); clear HB; have HB := n0_; clear n0_; (try clear hb); (try clear hb2); (try clear hk); (try clear hi)))
 go_ret
 exact ⟨by first | rfl | (simp [*, errW_none, errW_some] <;> rfl), by repeat first | with_reducible (first | exact HB.out | apply bA | apply bN | apply bD) | exact HB.out⟩

def clavigerref38_Open.j0 : Nat → ByteArray → ByteArray → ByteArray → ByteArray → ByteArray → Bool → Option (ByteArray × Int)
 | 0, _, _, _, _, _, _ => none
 | k + 1, x1, x2, x3, x10, x11, x38 => if x38 = true then (some ((⟨#[]⟩ : ByteArray), 4)) else ((clavigerref10_Decrypt.f k x10 x3 x2).bind fun bt1 => (if x1.size + bt1.1.size ≤ 9223372036854775807 then ((clavigerref11_Tag.f k x11 (x1 ++ bt1.1)).bind fun bt2 => (if bt2.1.toList = x3.toList then (some (bt1.1, 0)) else (some ((⟨#[]⟩ : ByteArray), 7)))) else (none)))
def clavigerref38_Open.f (k : Nat) (a0 : ByteArray) (a1 : ByteArray) (a2 : ByteArray) (a3 : ByteArray) : Option (ByteArray × Int) := (clavigerref35_Keys.f k a0).bind fun bt3 => (if bt3.2.2 = 0 then (if a2.toList = ([] : List UInt8) then (clavigerref38_Open.j0 k a1 a2 a3 bt3.1 bt3.2.1 true) else (if ((a2.size : Int) % 16) = 0 then (clavigerref38_Open.j0 k a1 a2 a3 bt3.1 bt3.2.1 ((a3.size : Int) != 16)) else (clavigerref38_Open.j0 k a1 a2 a3 bt3.1 bt3.2.1 true))) else (some ((⟨#[]⟩ : ByteArray), bt3.2.2)))
theorem clavigerref38_Open.mono_l : ∀ k, (∀ y4 y5 y6 y7 y8 y9, LeO (clavigerref38_Open.j0 k y4 y5 y6 y7 y8 y9) (clavigerref38_Open.j0 (k + 1) y4 y5 y6 y7 y8 y9))
 | 0 => fun _ _ _ _ _ _ r h => by simp [clavigerref38_Open.j0] at h
 | k + 1 => by
  have ih0 := clavigerref38_Open.mono_l k
  ·intro y4 y5 y6 y7 y8 y9
   unfold clavigerref38_Open.j0
   repeat' first
   | (with_reducible exact ih0 _ _ _ _ _ _)
   | (with_reducible exact clavigerref10_Decrypt.mono _ _ _ _)
   | (with_reducible exact clavigerref11_Tag.mono _ _ _)
   | (with_reducible exact clavigerref35_Keys.mono _ _)
   | (with_reducible exact LeO.refl _)
   | (with_reducible exact LeO.none _)
   | (with_reducible refine LeO.ite ?_ ?_)
   | (with_reducible refine LeO.bind ?_ (fun _ => ?_))
theorem clavigerref38_Open.mono : ∀ a0 a1 a2 a3 k, LeO (clavigerref38_Open.f k a0 a1 a2 a3) (clavigerref38_Open.f (k + 1) a0 a1 a2 a3) := by
 intro a0 a1 a2 a3 k
 have ih0 := clavigerref38_Open.mono_l k
 unfold clavigerref38_Open.f
 repeat' first
   | (with_reducible exact ih0 _ _ _ _ _ _)
   | (with_reducible exact clavigerref10_Decrypt.mono _ _ _ _)
   | (with_reducible exact clavigerref11_Tag.mono _ _ _)
   | (with_reducible exact clavigerref35_Keys.mono _ _)
   | (with_reducible exact LeO.refl _)
   | (with_reducible exact LeO.none _)
   | (with_reducible refine LeO.ite ?_ ?_)
   | (with_reducible refine LeO.bind ?_ (fun _ => ?_))
set_option maxHeartbeats 8000000 in
set_option maxRecDepth 100000 in
theorem clavigerref38_Open.calls (k : Nat) (a0 : ByteArray) (a1 : ByteArray) (a2 : ByteArray) (a3 : ByteArray) (r1 : ByteArray) (r2 : Int) (w : World) (h : clavigerref38_Open.f k a0 a1 a2 a3 = some (r1, r2)) :
  Calls Try.prog 166 #[.string a0, .string a1, .string a2, .string a3] w fun e w' => e = .returned (.tuple #[.string r1, .int .i64 r2]) ∧ Below w.heap.size w w' := by
 have HB := Aside0.mk (Below.refl w.heap.size w)
 have H : ((clavigerref35_Keys.f k a0).bind fun bt3 => (if bt3.2.2 = 0 then (if a2.toList = ([] : List UInt8) then (clavigerref38_Open.j0 k a1 a2 a3 bt3.1 bt3.2.1 true) else (if ((a2.size : Int) % 16) = 0 then (clavigerref38_Open.j0 k a1 a2 a3 bt3.1 bt3.2.1 ((a3.size : Int) != 16)) else (clavigerref38_Open.j0 k a1 a2 a3 bt3.1 bt3.2.1 true))) else (some ((⟨#[]⟩ : ByteArray), bt3.2.2)))) = some (r1, r2) := h
 clear h
 replace H := Option.bind_eq_some_iff.mp H
 obtain ⟨⟨t3, t10, t11⟩, A50, H⟩ := H
 try dsimp only at H
 have A5 := Aside0.mk A50
 clear A50
 by_cases c6 : t11 = 0
 ·rw [if_pos c6] at H
  have c6b0 : (t11 == 0) = true := beq_iff_eq.mpr c6
  have c6b1 : (t11 != 0) = false := bne_eq_false_iff_eq.mpr c6
  clear c6
  have HC7 := Aside0.mk H
  clear H
  go_enter Try.func166, Try.ntmps166
  go_upto_region 4 with (first | ((with_reducible refine gate_callee (f := 72) rfl ?_); refine goesL_ (some 19) rfl rfl Try.func72 (by kernel_rfl) rfl #[.string a0] rfl (by (try simp only [lT, lC, lN]); first | done | rfl) ?_; (with_reducible refine (clavigerref35_Keys.calls k a0 t3 t10 t11 _ A5.out).mono ?_); rintro e w8 ⟨rfl, hb⟩; refine ⟨_, rfl, ?_⟩; have n0_ := Aside0.mk (below_step (by repeat first | with_reducible (first | exact HB.out | apply bA | apply bN | apply bD) | exact HB.out) hb); clear HB; have HB := n0_; clear n0_; (try clear hb); (try clear hb2); (try clear hk); (try clear hi)))
  (try simp only [Act.put, List.setIfInBounds_toArray, List.set_cons_zero, List.set_cons_succ])
  go_cut [38] (fun v38 wc => ∃ (kq : Nat) (x38_6 : Bool), v38 = .bool x38_6 ∧ Aside0 (clavigerref38_Open.j0 kq a1 a2 a3 t3 t10 x38_6 = some (r1, r2)) ∧ Aside0 (kq ≤ k) ∧ Aside0 (Below w.heap.size w wc))
  case first =>
   have H := HC7.out
   clear HC7
   by_cases c9 : a2.toList = ([] : List UInt8)
   ·rw [if_pos c9] at H
    have c9b0 : (a2.toList == ([] : List UInt8)) = true := beq_iff_eq.mpr c9
    have c9b1 : (a2.toList != ([] : List UInt8)) = false := bne_eq_false_iff_eq.mpr c9
    clear c9
    (first | rw [c9b0] | (simp only [i64_w, i32_w]; rw [c9b0]) | skip)
    have H' := Aside0.mk H
    clear H
    go_wp2
    go_meet
    case rel => exact ⟨_, (true), (by first | rfl | (simp; done) | (simp [*]; done)), H', ⟨by first | omega | exact Nat.le_refl _⟩, ⟨by repeat first | with_reducible (first | exact HB.out | apply bA | apply bN | apply bD) | exact HB.out⟩⟩
   ·rw [if_neg c9] at H
    have c9b0 : (a2.toList == ([] : List UInt8)) = false := beq_eq_false_iff_ne.mpr c9
    have c9b1 : (a2.toList != ([] : List UInt8)) = true := bne_iff_ne.mpr c9
    (first | rw [c9b0] | (simp only [i64_w, i32_w]; rw [c9b0]) | skip)
    by_cases c10 : ((a2.size : Int) % 16) = 0
    ·rw [if_pos c10] at H
     have c10b0 : (((a2.size : Int) % 16) == 0) = true := beq_iff_eq.mpr c10
     have c10b1 : (((a2.size : Int) % 16) != 0) = false := bne_eq_false_iff_eq.mpr c10
     clear c10
     have H' := Aside0.mk H
     clear H
     go_wp2
     go_meet
     case rel => exact ⟨_, (((a3.size : Int) != 16)), (by first | rfl | (simp; done) | (simp [*]; done)), H', ⟨by first | omega | exact Nat.le_refl _⟩, ⟨by repeat first | with_reducible (first | exact HB.out | apply bA | apply bN | apply bD) | exact HB.out⟩⟩
    ·rw [if_neg c10] at H
     have c10b0 : (((a2.size : Int) % 16) == 0) = false := beq_eq_false_iff_ne.mpr c10
     have c10b1 : (((a2.size : Int) % 16) != 0) = true := bne_iff_ne.mpr c10
     have H' := Aside0.mk H
     clear H
     go_wp2
     go_meet
     case rel => exact ⟨_, (true), (by first | rfl | (simp; done) | (simp [*]; done)), H', ⟨by first | omega | exact Nat.le_refl _⟩, ⟨by repeat first | with_reducible (first | exact HB.out | apply bA | apply bN | apply bD) | exact HB.out⟩⟩
  case rest =>
   clear HC7
   try clear c1
   try clear p2
   try clear c6
   try clear c6b0
   try clear c6b1
   try clear c7
   try clear c9
   try clear c9b0
   try clear c9b1
   try clear c10
   try clear c10b0
   try clear c10b1
   obtain ⟨kq, x38_6, rfl, HA, HJ6, HB⟩ := hcut
   cases kq with
   | zero => exact absurd HA.out (by simp [clavigerref38_Open.j0])
   | succ kj6 =>
    have H := HA.out
    clear HA
    simp only [clavigerref38_Open.j0] at H
    by_cases c11 : x38_6 = true
    ·subst c11
     have H1 : (some ((⟨#[]⟩ : ByteArray), 4)) = some (r1, r2) := by rw [if_pos rfl] at H; exact H
     clear H
     have H := H1
     clear H1
     simp only [Option.some.injEq, Prod.mk.injEq] at H
     obtain ⟨rfl, rfl⟩ := H
     go_wp2
     go_ret2
     exact ⟨by first | rfl | (simp [*, errW_none, errW_some] <;> rfl), by repeat first | with_reducible (first | exact HB.out | apply bA | apply bN | apply bD) | exact HB.out⟩
    ·replace c11 := Bool.eq_false_iff.mpr c11
     subst c11
     have H1 : ((clavigerref10_Decrypt.f kj6 t3 a3 a2).bind fun bt1 => (if a1.size + bt1.1.size ≤ 9223372036854775807 then ((clavigerref11_Tag.f kj6 t10 (a1 ++ bt1.1)).bind fun bt2 => (if bt2.1.toList = a3.toList then (some (bt1.1, 0)) else (some ((⟨#[]⟩ : ByteArray), 7)))) else (none))) = some (r1, r2) := by rw [if_neg (show ¬ (false = true) by decide)] at H; exact H
     clear H
     have H := H1
     clear H1
     replace H := Option.bind_eq_some_iff.mp H
     obtain ⟨⟨t1, t12⟩, A120, H⟩ := H
     try dsimp only at H
     have A12 := Aside0.mk A120
     clear A120
     by_cases c13 : a1.size + t1.size ≤ 9223372036854775807
     ·rw [if_pos c13] at H
      have c13b0 := eq_true c13
      have c13b1 : decide (a1.size + t1.size ≤ 9223372036854775807) = true := decide_eq_true c13
      try have c13b2 : (9223372036854775807 < a1.size + t1.size) = False := eq_false (Nat.not_lt.2 c13)
      replace H := Option.bind_eq_some_iff.mp H
      obtain ⟨⟨t2, t13⟩, A140, H⟩ := H
      try dsimp only at H
      have A14 := Aside0.mk A140
      clear A140
      by_cases c15 : t2.toList = a3.toList
      ·rw [if_pos c15] at H
       have c15b0 : (t2.toList == a3.toList) = true := beq_iff_eq.mpr c15
       have c15b1 : (t2.toList != a3.toList) = false := bne_eq_false_iff_eq.mpr c15
       clear c15
       simp only [Option.some.injEq, Prod.mk.injEq] at H
       obtain ⟨rfl, rfl⟩ := H
       go_wp2_with (first | ((with_reducible refine gate_callee (f := 73) rfl ?_); refine goesL_ (some 43) rfl rfl Try.func73 (by kernel_rfl) rfl #[.string t3, .string a3, .string a2] rfl (by (try simp only [lT, lC, lN]); first | done | rfl) ?_; (with_reducible refine (clavigerref10_Decrypt.calls kj6 t3 a3 a2 t1 t12 _ A12.out).mono ?_); rintro e w16 ⟨rfl, hb⟩; refine ⟨_, rfl, ?_⟩; have n0_ := Aside0.mk (below_step (by repeat first | with_reducible (first | exact HB.out | apply bA | apply bN | apply bD) | exact HB.out) hb); clear HB; have HB := n0_; clear n0_; (try clear hb); (try clear hb2); (try clear hk); (try clear hi)) | ((with_reducible refine gate_callee (f := 74) rfl ?_); refine goesL_ (some 51) rfl rfl Try.func74 (by kernel_rfl) rfl #[.string t10, .string (a1 ++ t1)] rfl (by (try simp only [lT, lC, lN]); first | done | rfl) ?_; (with_reducible refine (clavigerref11_Tag.calls kj6 t10 (a1 ++ t1) t2 t13 _ A14.out).mono ?_); rintro e w17 ⟨rfl, hb⟩; refine ⟨_, rfl, ?_⟩; have n0_ := Aside0.mk (below_step (by repeat first | with_reducible (first | exact HB.out | apply bA | apply bN | apply bD) | exact HB.out) hb); clear HB; have HB := n0_; clear n0_; (try clear hb); (try clear hb2); (try clear hk); (try clear hi)))
       go_ret2
       exact ⟨by first | rfl | (simp [*, errW_none, errW_some] <;> rfl), by repeat first | with_reducible (first | exact HB.out | apply bA | apply bN | apply bD) | exact HB.out⟩
      ·rw [if_neg c15] at H
       have c15b0 : (t2.toList == a3.toList) = false := beq_eq_false_iff_ne.mpr c15
       have c15b1 : (t2.toList != a3.toList) = true := bne_iff_ne.mpr c15
       simp only [Option.some.injEq, Prod.mk.injEq] at H
       obtain ⟨rfl, rfl⟩ := H
       go_wp2_with (first | ((with_reducible refine gate_callee (f := 73) rfl ?_); refine goesL_ (some 43) rfl rfl Try.func73 (by kernel_rfl) rfl #[.string t3, .string a3, .string a2] rfl (by (try simp only [lT, lC, lN]); first | done | rfl) ?_; (with_reducible refine (clavigerref10_Decrypt.calls kj6 t3 a3 a2 t1 t12 _ A12.out).mono ?_); rintro e w18 ⟨rfl, hb⟩; refine ⟨_, rfl, ?_⟩; have n0_ := Aside0.mk (below_step (by repeat first | with_reducible (first | exact HB.out | apply bA | apply bN | apply bD) | exact HB.out) hb); clear HB; have HB := n0_; clear n0_; (try clear hb); (try clear hb2); (try clear hk); (try clear hi)) | ((with_reducible refine gate_callee (f := 74) rfl ?_); refine goesL_ (some 51) rfl rfl Try.func74 (by kernel_rfl) rfl #[.string t10, .string (a1 ++ t1)] rfl (by (try simp only [lT, lC, lN]); first | done | rfl) ?_; (with_reducible refine (clavigerref11_Tag.calls kj6 t10 (a1 ++ t1) t2 t13 _ A14.out).mono ?_); rintro e w19 ⟨rfl, hb⟩; refine ⟨_, rfl, ?_⟩; have n0_ := Aside0.mk (below_step (by repeat first | with_reducible (first | exact HB.out | apply bA | apply bN | apply bD) | exact HB.out) hb); clear HB; have HB := n0_; clear n0_; (try clear hb); (try clear hb2); (try clear hk); (try clear hi)))
       go_ret2
       exact ⟨by first | rfl | (simp [*, errW_none, errW_some] <;> rfl), by repeat first | with_reducible (first | exact HB.out | apply bA | apply bN | apply bD) | exact HB.out⟩
     ·rw [if_neg c13] at H
      exact absurd H (by simp)
 ·rw [if_neg c6] at H
  have c6b0 : (t11 == 0) = false := beq_eq_false_iff_ne.mpr c6
  have c6b1 : (t11 != 0) = true := bne_iff_ne.mpr c6
  simp only [Option.some.injEq, Prod.mk.injEq] at H
  obtain ⟨rfl, rfl⟩ := H
  go_enter Try.func166, Try.ntmps166
  go_wp2_with (first | ((with_reducible refine gate_callee (f := 72) rfl ?_); refine goesL_ (some 19) rfl rfl Try.func72 (by kernel_rfl) rfl #[.string a0] rfl (by (try simp only [lT, lC, lN]); first | done | rfl) ?_; (with_reducible refine (clavigerref35_Keys.calls k a0 t3 t10 t11 _ A5.out).mono ?_); rintro e w20 ⟨rfl, hb⟩; refine ⟨_, rfl, ?_⟩; have n0_ := Aside0.mk (below_step (by repeat first | with_reducible (first | exact HB.out | apply bA | apply bN | apply bD) | exact HB.out) hb); clear HB; have HB := n0_; clear n0_; (try clear hb); (try clear hb2); (try clear hk); (try clear hi)))
  go_ret2
  exact ⟨by first | rfl | (simp [*, errW_none, errW_some] <;> rfl), by repeat first | with_reducible (first | exact HB.out | apply bA | apply bN | apply bD) | exact HB.out⟩

end Go.Proofs.Ytokkhnjedmlbhaa.Pr
end
