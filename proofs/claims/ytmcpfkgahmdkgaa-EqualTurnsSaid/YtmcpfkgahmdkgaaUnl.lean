/-
  equal.Unlike and equal.First: at how many places two texts are unlike, and the first one. Conditions: none beside what a row's reading gives.
-/
import Derived.Test.YtmcpfkgahmdkgaaEqAt
import Derived.Test.YtmcpfkgahmdkgaaHx
namespace Go.Proofs.Ytmcpfkgahmdkgaa.Pr
open Go.RowKit Go.Proofs.YtmcpfkgahmdkgaaW.PrintWords Go.Proofs.YtmcpfkgahmdkgaaW.PrintLast Go.Proofs.YtmcpfkgahmdkgaaW.PrintMore
attribute [local go_sem] max2_int min2_int max_two min_two max_three min_three max_four min_four
/-- One number in block c. -/
def Num1 (w : World) (c : Nat) (x : Int) : Prop := w.heap[c]? = some (.cells #[.int .i64 x] 3 (0, 0))
theorem Num1.below {w w1 : World} {c : Nat} {x : Int} (h : Num1 w c x) (hb : Below w.heap.size w w1) : Num1 w1 c x := (hb.block c (blk_lt h)).trans h
theorem Num1.cell {w : World} {c : Nat} {x : Int} (h : Num1 w c x) : w.cell? ⟨c, 0, none⟩ = some (.int .i64 x) := by rw [blk_cell h]; rfl
theorem Num1.live {w : World} {c : Nat} {x : Int} (h : Num1 w c x) : w.frozen? ⟨c, 0, none⟩ = false := blk_frozen h 0
theorem eq2_run (d : Nat) (x0 x1 y0 y1 : Int) (w : World) : (Op.equalIn (d + 2) 87 (.agg #[.int .u8 x0, .int .u8 x1]) (.agg #[.int .u8 y0, .int .u8 y1])).run Try.prog w = .ok (x0 == y0 && x1 == y1) w := by
  obtain ⟨i0, hi, _, _, _⟩ := info_parts (by kernel_rfl : (Try.prog.info? 5).map (fun i => (i.zero, i.size, i.bytes)) = some (some (.int .u8 0), 1, 1))
  have hc : Try.prog.cellsOf 5 = 1 := by kernel_rfl
  have hp : Try.prog.plainKey 5 = true := by kernel_rfl
  rw [run_equalIn_array w (d + 1) _ _ Try.underlying87 hi, hc]
  show (Op.eqItems (d + 1) _ 1 _ _ [0, 1]).run _ _ = _
  have a0 := run_part_plain w hp (xs := #[.int .u8 x0, .int .u8 x1]) (off := 0) (v := .int .u8 x0) rfl
  have a1 := run_part_plain w hp (xs := #[.int .u8 x0, .int .u8 x1]) (off := 1) (v := .int .u8 x1) rfl
  have b0 := run_part_plain w hp (xs := #[.int .u8 y0, .int .u8 y1]) (off := 0) (v := .int .u8 y0) rfl
  have b1 := run_part_plain w hp (xs := #[.int .u8 y0, .int .u8 y1]) (off := 1) (v := .int .u8 y1) rfl
  have e0 := run_equalIn_int w d 5 .u8 .u8 x0 y0 Try.underlying5
  have e1 := run_equalIn_int w d 5 .u8 .u8 x1 y1 Try.underlying5
  simp only [Op.eqItems, Sem.run_bind, Nat.zero_mul, a0, b0, e0, Result.andThen_ok]
  cases hx : x0 == y0 <;> cases hy : x1 == y1 <;> simp [Sem.run_bind, a1, b1, e1, hy, Result.andThen_ok]
attribute [local go_sem] eq2_run
/-- Whether two texts are unlike at a place. -/
abbrev unl (a b : ByteArray) (k : Int) : Bool := !(at0 a k == at0 b k) || !(at1 a k == at1 b k)
def cntU (a b : ByteArray) : Nat → Int
  | 0 => 0
  | k + 1 => if unl a b k then wrap64 (cntU a b k + 1) else cntU a b k
def fstU (a b : ByteArray) : Nat → Int
  | 0 => -1
  | k + 1 => if unl a b k then if fstU a b k < 0 then k else fstU a b k else fstU a b k

set_option maxHeartbeats 1000000 in
theorem cntU_step (a b : ByteArray) (k : Nat) (c : Nat) (w : World) (h : Num1 w c (cntU a b k)) :
    Calls Try.prog 63 #[.int .i64 k, .bool (unl a b k), .pointer (some ⟨c, 0, none⟩)] w fun e w' => e = .returned (.tuple #[]) ∧ Num1 w' c (cntU a b (k + 1)) ∧ Below c w w' := by
  have hc := h.cell
  have hl := h.live
  by_cases hu : unl a b k = true
  · rw [hu]
    go_enter Try.func63, Try.ntmps63
    go_wp2
    exact bodyPost_end (v := .tuple #[]) (results_none rfl _ _ _) rfl ⟨rfl, by rw [show cntU a b (k + 1) = wrap64 (cntU a b k + 1) from if_pos hu]; exact blk_set h 0 _, Below.setCell (p := ⟨c, 0, none⟩) (Below.refl c w) (Nat.le_refl c) _⟩
  · replace hu : unl a b k = false := by simpa using hu
    rw [hu]
    go_enter Try.func63, Try.ntmps63
    go_wp2
    exact bodyPost_end (v := .tuple #[]) (results_none rfl _ _ _) rfl ⟨rfl, by rw [show cntU a b (k + 1) = cntU a b k from if_neg (by rw [hu]; simp)]; exact h, Below.refl _ _⟩
set_option maxHeartbeats 1000000 in
set_option maxRecDepth 10000 in
theorem each_Unlike (a b : ByteArray) (c : Nat) (w : World) (ha : a.size ≤ 9223372036854775807) (hb : b.size ≤ 9223372036854775807) (h : Num1 w c (cntU a b 0)) :
    Calls Try.prog 62 #[.string a, .string b, .func (.func 63) #[] #[.pointer (some ⟨c, 0, none⟩)]] w fun e w' => e = .returned (.int .i64 (mx (a.size : Int) (b.size : Int))) ∧ Num1 w' c (cntU a b (max a.size b.size)) ∧ Below c w w' := by
  by_cases hc : a.size < b.size
  · have hmx : mx (a.size : Int) (b.size : Int) = (b.size : Int) := by unfold mx; omega
    have hmn : max a.size b.size = b.size := by omega
    rw [hmx, hmn]
    clear hmx hmn
    go_enter Try.func62, Try.ntmps62
    go_wp2
    go_loopw [15] (fun i wr => ∃ k : Nat, k ≤ b.size ∧ i = .int .i64 k ∧ Aside0 (Num1 wr c (cntU a b k)) ∧ Aside0 (Below c w wr)) (fun i _ => b.size - (intOf i).toNat)
    case atStart => exact ⟨0, Nat.zero_le _, rfl, ⟨h⟩, ⟨Below.refl _ _⟩⟩
    case round =>
      obtain ⟨k, hk, rfl, HN, HB⟩ := hrel
      by_cases hlt : k < b.size
      · go_wp2_with (first | (go_at_call 61; (with_reducible refine (equal_at.calls _ _ _ (by omega)).mono ?_); rintro e w1 ⟨rfl, hb1⟩; have hz := blk_lt HN.out; replace HN := Aside0.mk (HN.out.below hb1); replace HB := Aside0.mk (HB.out.trans (hb1.mono (by omega))); clear hz hb1) | (go_at_call 63; (with_reducible refine (cntU_step a b k c _ HN.out).mono ?_); rintro e w2 ⟨rfl, HN3, hb2⟩))
        exact ⟨⟨k + 1, hlt, by go_num, ⟨HN3⟩, ⟨HB.out.trans hb2⟩⟩, by simp [intOf]; omega⟩
      · obtain rfl : k = b.size := by omega
        go_wp2
        go_ret
        exact ⟨rfl, HN.out, HB.out⟩
  · have hmx : mx (a.size : Int) (b.size : Int) = (a.size : Int) := by unfold mx; omega
    have hmn : max a.size b.size = a.size := by omega
    rw [hmx, hmn]
    clear hmx hmn
    go_enter Try.func62, Try.ntmps62
    go_wp2
    go_loopw [15] (fun i wr => ∃ k : Nat, k ≤ a.size ∧ i = .int .i64 k ∧ Aside0 (Num1 wr c (cntU a b k)) ∧ Aside0 (Below c w wr)) (fun i _ => a.size - (intOf i).toNat)
    case atStart => exact ⟨0, Nat.zero_le _, rfl, ⟨h⟩, ⟨Below.refl _ _⟩⟩
    case round =>
      obtain ⟨k, hk, rfl, HN, HB⟩ := hrel
      by_cases hlt : k < a.size
      · go_wp2_with (first | (go_at_call 61; (with_reducible refine (equal_at.calls _ _ _ (by omega)).mono ?_); rintro e w1 ⟨rfl, hb1⟩; have hz := blk_lt HN.out; replace HN := Aside0.mk (HN.out.below hb1); replace HB := Aside0.mk (HB.out.trans (hb1.mono (by omega))); clear hz hb1) | (go_at_call 63; (with_reducible refine (cntU_step a b k c _ HN.out).mono ?_); rintro e w2 ⟨rfl, HN3, hb2⟩))
        exact ⟨⟨k + 1, hlt, by go_num, ⟨HN3⟩, ⟨HB.out.trans hb2⟩⟩, by simp [intOf]; omega⟩
      · obtain rfl : k = a.size := by omega
        go_wp2
        go_ret
        exact ⟨rfl, HN.out, HB.out⟩
set_option maxHeartbeats 1000000 in
theorem Unlike_calls0 (a b : ByteArray) (w : World) (ha : a.size ≤ 9223372036854775807) (hb : b.size ≤ 9223372036854775807) :
    Calls Try.prog 31 #[.string a, .string b] w fun e w' => e = .returned (.int .i64 (cntU a b (max a.size b.size))) ∧ Below w.heap.size w w' := by
  have hmf : ∀ (fn : Fn) (first cap : Array Value) (w : World), (Instr.makeFunc fn first cap).run Try.prog w = .ok (.func fn first cap) w := fun _ _ _ _ => rfl
  have HN0 : Num1 (w.alloc (.cells #[.int .i64 0] 3)) w.heap.size (cntU a b 0) := heap_alloc_new w _
  go_enter Try.func31, Try.ntmps31
  go_wp2_with (go_at_call 62; (with_reducible refine (each_Unlike a b w.heap.size _ ha hb HN0).mono ?_); rintro e w1 ⟨rfl, HN, hb1⟩; have hc1 := HN.cell)
  go_ret
  exact ⟨rfl, ((Below.refl _ _).alloc (Nat.le_refl _) _).trans hb1⟩
def equal_Unlike.f (a b : ByteArray) : Option Int := if a.size ≤ 9223372036854775807 then if b.size ≤ 9223372036854775807 then some (cntU a b (max a.size b.size)) else none else none
theorem equal_Unlike.calls (a b : ByteArray) (r : Int) (w : World) (h : equal_Unlike.f a b = some r) :
    Calls Try.prog 31 #[.string a, .string b] w fun e w' => e = .returned (.int .i64 r) ∧ Below w.heap.size w w' := by
  unfold equal_Unlike.f at h
  split at h
  case isFalse => cases h
  case isTrue ha =>
  split at h
  case isFalse => cases h
  case isTrue hb =>
  obtain rfl := Option.some.inj h
  exact Unlike_calls0 a b w ha hb

set_option maxHeartbeats 1000000 in
theorem fstU_step (a b : ByteArray) (k : Nat) (c : Nat) (w : World) (h : Num1 w c (fstU a b k)) :
    Calls Try.prog 64 #[.int .i64 k, .bool (unl a b k), .pointer (some ⟨c, 0, none⟩)] w fun e w' => e = .returned (.tuple #[]) ∧ Num1 w' c (fstU a b (k + 1)) ∧ Below c w w' := by
  have hc := h.cell
  have hl := h.live
  by_cases hu : unl a b k = true
  · rw [hu]
    by_cases h0 : fstU a b k < 0
    · have h0' : decide (fstU a b k < 0) = true := decide_eq_true h0
      go_enter Try.func64, Try.ntmps64
      go_wp2
      exact bodyPost_end (v := .tuple #[]) (results_none rfl _ _ _) rfl ⟨rfl, by rw [show fstU a b (k + 1) = k from (if_pos hu).trans (if_pos h0)]; exact blk_set h 0 _, Below.setCell (p := ⟨c, 0, none⟩) (Below.refl c w) (Nat.le_refl c) _⟩
    · have h0' : decide (fstU a b k < 0) = false := decide_eq_false h0
      go_enter Try.func64, Try.ntmps64
      go_wp2
      exact bodyPost_end (v := .tuple #[]) (results_none rfl _ _ _) rfl ⟨rfl, by rw [show fstU a b (k + 1) = fstU a b k from (if_pos hu).trans (if_neg (by omega))]; exact h, Below.refl _ _⟩
  · replace hu : unl a b k = false := by simpa using hu
    rw [hu]
    go_enter Try.func64, Try.ntmps64
    go_wp2
    exact bodyPost_end (v := .tuple #[]) (results_none rfl _ _ _) rfl ⟨rfl, by rw [show fstU a b (k + 1) = fstU a b k from if_neg (by rw [hu]; simp)]; exact h, Below.refl _ _⟩
set_option maxHeartbeats 1000000 in
set_option maxRecDepth 10000 in
theorem each_First (a b : ByteArray) (c : Nat) (w : World) (ha : a.size ≤ 9223372036854775807) (hb : b.size ≤ 9223372036854775807) (h : Num1 w c (fstU a b 0)) :
    Calls Try.prog 62 #[.string a, .string b, .func (.func 64) #[] #[.pointer (some ⟨c, 0, none⟩)]] w fun e w' => e = .returned (.int .i64 (mx (a.size : Int) (b.size : Int))) ∧ Num1 w' c (fstU a b (max a.size b.size)) ∧ Below c w w' := by
  by_cases hc : a.size < b.size
  · have hmx : mx (a.size : Int) (b.size : Int) = (b.size : Int) := by unfold mx; omega
    have hmn : max a.size b.size = b.size := by omega
    rw [hmx, hmn]
    clear hmx hmn
    go_enter Try.func62, Try.ntmps62
    go_wp2
    go_loopw [15] (fun i wr => ∃ k : Nat, k ≤ b.size ∧ i = .int .i64 k ∧ Aside0 (Num1 wr c (fstU a b k)) ∧ Aside0 (Below c w wr)) (fun i _ => b.size - (intOf i).toNat)
    case atStart => exact ⟨0, Nat.zero_le _, rfl, ⟨h⟩, ⟨Below.refl _ _⟩⟩
    case round =>
      obtain ⟨k, hk, rfl, HN, HB⟩ := hrel
      by_cases hlt : k < b.size
      · go_wp2_with (first | (go_at_call 61; (with_reducible refine (equal_at.calls _ _ _ (by omega)).mono ?_); rintro e w1 ⟨rfl, hb1⟩; have hz := blk_lt HN.out; replace HN := Aside0.mk (HN.out.below hb1); replace HB := Aside0.mk (HB.out.trans (hb1.mono (by omega))); clear hz hb1) | (go_at_call 64; (with_reducible refine (fstU_step a b k c _ HN.out).mono ?_); rintro e w2 ⟨rfl, HN3, hb2⟩))
        exact ⟨⟨k + 1, hlt, by go_num, ⟨HN3⟩, ⟨HB.out.trans hb2⟩⟩, by simp [intOf]; omega⟩
      · obtain rfl : k = b.size := by omega
        go_wp2
        go_ret
        exact ⟨rfl, HN.out, HB.out⟩
  · have hmx : mx (a.size : Int) (b.size : Int) = (a.size : Int) := by unfold mx; omega
    have hmn : max a.size b.size = a.size := by omega
    rw [hmx, hmn]
    clear hmx hmn
    go_enter Try.func62, Try.ntmps62
    go_wp2
    go_loopw [15] (fun i wr => ∃ k : Nat, k ≤ a.size ∧ i = .int .i64 k ∧ Aside0 (Num1 wr c (fstU a b k)) ∧ Aside0 (Below c w wr)) (fun i _ => a.size - (intOf i).toNat)
    case atStart => exact ⟨0, Nat.zero_le _, rfl, ⟨h⟩, ⟨Below.refl _ _⟩⟩
    case round =>
      obtain ⟨k, hk, rfl, HN, HB⟩ := hrel
      by_cases hlt : k < a.size
      · go_wp2_with (first | (go_at_call 61; (with_reducible refine (equal_at.calls _ _ _ (by omega)).mono ?_); rintro e w1 ⟨rfl, hb1⟩; have hz := blk_lt HN.out; replace HN := Aside0.mk (HN.out.below hb1); replace HB := Aside0.mk (HB.out.trans (hb1.mono (by omega))); clear hz hb1) | (go_at_call 64; (with_reducible refine (fstU_step a b k c _ HN.out).mono ?_); rintro e w2 ⟨rfl, HN3, hb2⟩))
        exact ⟨⟨k + 1, hlt, by go_num, ⟨HN3⟩, ⟨HB.out.trans hb2⟩⟩, by simp [intOf]; omega⟩
      · obtain rfl : k = a.size := by omega
        go_wp2
        go_ret
        exact ⟨rfl, HN.out, HB.out⟩
set_option maxHeartbeats 1000000 in
theorem First_calls0 (a b : ByteArray) (w : World) (ha : a.size ≤ 9223372036854775807) (hb : b.size ≤ 9223372036854775807) :
    Calls Try.prog 32 #[.string a, .string b] w fun e w' => e = .returned (.int .i64 (fstU a b (max a.size b.size))) ∧ Below w.heap.size w w' := by
  have hmf : ∀ (fn : Fn) (first cap : Array Value) (w : World), (Instr.makeFunc fn first cap).run Try.prog w = .ok (.func fn first cap) w := fun _ _ _ _ => rfl
  have HN0 : Num1 (w.alloc (.cells #[.int .i64 (-1)] 3)) w.heap.size (fstU a b 0) := heap_alloc_new w _
  go_enter Try.func32, Try.ntmps32
  go_wp2_with (go_at_call 62; (with_reducible refine (each_First a b w.heap.size _ ha hb HN0).mono ?_); rintro e w1 ⟨rfl, HN, hb1⟩; have hc1 := HN.cell)
  go_ret
  exact ⟨rfl, ((Below.refl _ _).alloc (Nat.le_refl _) _).trans hb1⟩
def equal_First.f (a b : ByteArray) : Option Int := if a.size ≤ 9223372036854775807 then if b.size ≤ 9223372036854775807 then some (fstU a b (max a.size b.size)) else none else none
theorem equal_First.calls (a b : ByteArray) (r : Int) (w : World) (h : equal_First.f a b = some r) :
    Calls Try.prog 32 #[.string a, .string b] w fun e w' => e = .returned (.int .i64 r) ∧ Below w.heap.size w w' := by
  unfold equal_First.f at h
  split at h
  case isFalse => cases h
  case isTrue ha =>
  split at h
  case isFalse => cases h
  case isTrue hb =>
  obtain rfl := Option.some.inj h
  exact First_calls0 a b w ha hb
end Go.Proofs.Ytmcpfkgahmdkgaa.Pr
