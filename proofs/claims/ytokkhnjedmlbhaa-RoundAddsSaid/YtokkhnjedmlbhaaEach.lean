/-
  sbox.each at Sub and at Back: a text, byte by byte another one. Conditions: the text takes at most 2^47 bytes.
-/
import Derived.Test.YtokkhnjedmlbhaaBld
import Derived.Test.YtokkhnjedmlbhaaShelf
import Derived.Test.YtokkhnjedmlbhaaPrg06
import Derived.Test.YtokkhnjedmlbhaaPrk
namespace Go.Proofs.Ytokkhnjedmlbhaa.Pr
open Go.RowKit Go.Proofs.YtokkhnjedmlbhaaW.PrintWords Go.Proofs.YtokkhnjedmlbhaaW.PrintLast Go.Proofs.YtokkhnjedmlbhaaW.PrintMore
def inBytes (ys : List Int) : Bool := ys.all fun n => decide (0 ≤ n) && decide (n ≤ 255)
theorem cells_of_nums {ys : List Int} (h : inBytes ys = true) : Lib.byteCells (ys.map fun n => UInt8.ofNat n.toNat) = ys.map (Value.int .u8) := by
  unfold Lib.byteCells
  rw [List.map_map]
  apply List.map_congr_left
  intro n hn
  have := List.all_eq_true.1 h n hn
  simp at this
  have e : ((UInt8.ofNat n.toNat).toNat : Int) = n := by simp; omega
  show Value.int .u8 ((UInt8.ofNat n.toNat).toNat : Int) = _
  rw [e]
/-- All bytes of a text, by a function that may not answer. -/
def eachF (g : Int → Option Int) (s : ByteArray) : Option ByteArray := if s.size ≤ 140737488355328 then ((bytesOf s).mapM g).bind (fun ys => if inBytes ys = true then some (strOfNums ys) else none) else none
theorem isB_drawn {T e : TypeId} {B b : Nat} {bs : List Value} {w w1 : World} (h : Lib.IsBuilder T e B b bs w) (hd : Drawn0 w w1) : Lib.IsBuilder T e B b bs w1 := by
  obtain ⟨n, rfl⟩ := hd.out
  exact h
theorem take_snoc_int (ys : List Int) (j : Nat) (h : j < ys.length) : (ys.take j).map (Value.int .u8) ++ [.int .u8 (rd ys j)] = (ys.take (j + 1)).map (Value.int .u8) := by
  rw [List.take_succ_eq_append_getElem h, List.map_append]
  have : rd ys (j : Int) = ys[j] := by simp [rd, h]
  rw [this]; rfl
theorem mapM_some {g : Int → Option Int} : ∀ {l ys : List Int}, l.mapM g = some ys → ys.length = l.length ∧ ∀ i (h : i < l.length) (h' : i < ys.length), g l[i] = some ys[i]
  | [], ys, h => by
    simp at h; subst h
    exact ⟨rfl, fun i h => absurd h (by simp)⟩
  | x :: l, ys, h => by
    simp only [List.mapM_cons] at h
    obtain ⟨y, hy, h⟩ := Option.bind_eq_some_iff.1 h
    obtain ⟨z, hz, h⟩ := Option.bind_eq_some_iff.1 h
    have e : y :: z = ys := by simpa using h
    subst e
    obtain ⟨h1, h2⟩ := mapM_some hz
    refine ⟨by simp [h1], fun i hi hi' => ?_⟩
    cases i with
    | zero => exact hy
    | succ i => exact h2 i (by simpa using hi) (by simpa using hi')
theorem mapM_mono {g g' : Int → Option Int} (h : ∀ x, LeO (g x) (g' x)) : ∀ l : List Int, LeO (l.mapM g) (l.mapM g')
  | [] => by simp only [List.mapM_nil]; exact LeO.refl _
  | x :: l => by
    simp only [List.mapM_cons]
    exact LeO.bind (h x) (fun y => LeO.bind (mapM_mono h l) (fun z => LeO.refl _))
theorem eachF_mono {g g' : Int → Option Int} (h : ∀ x, LeO (g x) (g' x)) (s : ByteArray) : LeO (eachF g s) (eachF g' s) := by
  unfold eachF
  exact LeO.ite (LeO.bind (mapM_mono h _) (fun _ => LeO.refl _)) (LeO.none _)

def sbox_Subs.f (k : Nat) (s : ByteArray) : Option ByteArray := eachF (sbox_Sub.f k) s
theorem sbox_Subs.mono : ∀ a0 k, LeO (sbox_Subs.f k a0) (sbox_Subs.f (k + 1) a0) := fun a0 k => eachF_mono (fun x => sbox_Sub.mono x k) a0
set_option maxHeartbeats 1000000 in
set_option maxRecDepth 100000 in
theorem each_Sub (k : Nat) (s : ByteArray) (ys : List Int) (w : World) (hs : s.size ≤ 140737488355328) (hl : ys.length = s.size) (hr : inBytes ys = true) (hy : ∀ i : Nat, i < s.size → sbox_Sub.f k (bt s i) = some (rd ys i)) :
    Calls Try.prog 175 #[.string s, .func (.func 57) #[] #[]] w fun e w' => e = .returned (.string (strOfNums ys)) ∧ Below w.heap.size w w' := by
  have HY := Aside0.mk hy
  have HL := Aside0.mk hl
  have HR := Aside0.mk hr
  clear hy hl hr
  go_enter Try.func175, Try.ntmps175
  go_wp2
  go_loopw [9] (fun i wr => ∃ j : Nat, j ≤ s.size ∧ i = .int .i64 j ∧ Aside0 (Lib.IsBuilder 135 5 w.heap.size w.heap.size ((ys.take j).map (Value.int .u8)) wr) ∧ Aside0 (Below w.heap.size w wr)) (fun i _ => s.size - (intOf i).toNat)
  case atStart => exact ⟨0, Nat.zero_le _, rfl, ⟨Lib.fresh_isBuilder _ _ w⟩, ⟨(Below.refl _ _).alloc (Nat.le_refl _) _⟩⟩
  case round =>
    obtain ⟨j, hj, rfl, HI, HB⟩ := hrel
    by_cases hlt : j < s.size
    · have HS : Aside0 (sbox_Sub.f k ((s[j]'hlt).toNat : Int) = some (rd ys j)) := ⟨by rw [show ((s[j]'hlt).toNat : Int) = bt s j from bt_at s (j : Int) (by simpa using hlt)]; exact HY.out j hlt⟩
      go_wp2_with (go_at_call 57; refine (sbox_Sub.calls k _ _ _ HS.out).mono ?_; rintro e w1 ⟨rfl, hd⟩)
      have hbl : Below w.heap.size w w1 := by obtain ⟨n, rfl⟩ := hd.out; exact pw_below_drewN HB.out n
      have HI1 := Aside0.mk (isB_drawn HI.out hd)
      have HB1 := Aside0.mk hbl
      clear hd hbl
      go_wp2_with (go_at_call 214; refine (bld_write w.heap.size w.heap.size _ (rd ys j) _ HI1.out (by have := HL.out; simp; omega) HB1.out.size).mono ?_; rintro e w2 ⟨rfl, hb, hb2⟩)
      exact ⟨⟨j + 1, hlt, by go_num, ⟨by rw [← take_snoc_int ys j (by rw [HL.out]; exact hlt)]; exact .inr hb⟩, ⟨HB1.out.trans hb2⟩⟩, by simp [intOf]; omega⟩
    · obtain rfl : j = s.size := by omega
      have hB0 := HI.out
      rw [List.take_of_length_le (by rw [HL.out]; exact Nat.le_refl _), ← cells_of_nums HR.out] at hB0
      have HI1 := Aside0.mk hB0
      clear hB0
      go_wp2_with (go_at_call 215; refine (Try.Builder_String_any_k w.heap.size w.heap.size (ys.map fun n => UInt8.ofNat n.toNat) _ (Lib.IsBuilderF.of HI1.out) HB.out.size).mono ?_; rintro e w2 ⟨rfl, _, hb2, _⟩)
      go_ret
      exact ⟨rfl, HB.out.trans hb2⟩
theorem sbox_Subs.calls (k : Nat) (s : ByteArray) (r : ByteArray) (w : World) (h : sbox_Subs.f k s = some r) :
    Calls Try.prog 66 #[.string s] w fun e w' => e = .returned (.string r) ∧ Below w.heap.size w w' := by
  unfold sbox_Subs.f eachF at h
  by_cases hs : s.size ≤ 140737488355328
  · rw [if_pos hs] at h
    obtain ⟨ys, h1, h2⟩ := Option.bind_eq_some_iff.1 h
    by_cases hr : inBytes ys = true
    · rw [if_pos hr] at h2
      obtain rfl := Option.some.inj h2
      obtain ⟨hl, hy⟩ := mapM_some h1
      rw [bytesOf_length] at hl
      have HY : Aside0 (∀ i : Nat, i < s.size → sbox_Sub.f k (bt s i) = some (rd ys i)) := ⟨fun i hi => by
        have hi' : i < ys.length := by omega
        have h3 := hy i (by rw [bytesOf_length]; exact hi) hi'
        have e1 : (bytesOf s)[i]'(by rw [bytesOf_length]; exact hi) = bt s i := by
          rw [← rd_bytesOf]; simp [rd, bytesOf_length, hi]
        have e2 : ys[i] = rd ys (i : Int) := by simp [rd, hi']
        rw [e1, e2] at h3
        exact h3⟩
      have HL := Aside0.mk hl
      have HR := Aside0.mk hr
      clear h h1 h2 hl hy hr
      go_enter Try.func66, Try.ntmps66
      go_wp2_with (go_at_call 175; refine (each_Sub k s ys _ hs HL.out HR.out HY.out).mono ?_; rintro e w1 ⟨rfl, hb⟩)
      go_ret
      exact ⟨rfl, hb⟩
    · rw [if_neg hr] at h2; cases h2
  · rw [if_neg hs] at h; cases h

def sbox_Backs.f (k : Nat) (s : ByteArray) : Option ByteArray := eachF (sbox_Back.f k) s
theorem sbox_Backs.mono : ∀ a0 k, LeO (sbox_Backs.f k a0) (sbox_Backs.f (k + 1) a0) := fun a0 k => eachF_mono (fun x => sbox_Back.mono x k) a0
set_option maxHeartbeats 1000000 in
set_option maxRecDepth 100000 in
theorem each_Back (k : Nat) (s : ByteArray) (ys : List Int) (w : World) (hs : s.size ≤ 140737488355328) (hl : ys.length = s.size) (hr : inBytes ys = true) (hy : ∀ i : Nat, i < s.size → sbox_Back.f k (bt s i) = some (rd ys i)) :
    Calls Try.prog 175 #[.string s, .func (.func 64) #[] #[]] w fun e w' => e = .returned (.string (strOfNums ys)) ∧ Below w.heap.size w w' := by
  have HY := Aside0.mk hy
  have HL := Aside0.mk hl
  have HR := Aside0.mk hr
  clear hy hl hr
  go_enter Try.func175, Try.ntmps175
  go_wp2
  go_loopw [9] (fun i wr => ∃ j : Nat, j ≤ s.size ∧ i = .int .i64 j ∧ Aside0 (Lib.IsBuilder 135 5 w.heap.size w.heap.size ((ys.take j).map (Value.int .u8)) wr) ∧ Aside0 (Below w.heap.size w wr)) (fun i _ => s.size - (intOf i).toNat)
  case atStart => exact ⟨0, Nat.zero_le _, rfl, ⟨Lib.fresh_isBuilder _ _ w⟩, ⟨(Below.refl _ _).alloc (Nat.le_refl _) _⟩⟩
  case round =>
    obtain ⟨j, hj, rfl, HI, HB⟩ := hrel
    by_cases hlt : j < s.size
    · have HS : Aside0 (sbox_Back.f k ((s[j]'hlt).toNat : Int) = some (rd ys j)) := ⟨by rw [show ((s[j]'hlt).toNat : Int) = bt s j from bt_at s (j : Int) (by simpa using hlt)]; exact HY.out j hlt⟩
      go_wp2_with (go_at_call 64; refine (sbox_Back.calls k _ _ _ HS.out).mono ?_; rintro e w1 ⟨rfl, hd⟩)
      have hbl : Below w.heap.size w w1 := by obtain ⟨n, rfl⟩ := hd.out; exact pw_below_drewN HB.out n
      have HI1 := Aside0.mk (isB_drawn HI.out hd)
      have HB1 := Aside0.mk hbl
      clear hd hbl
      go_wp2_with (go_at_call 214; refine (bld_write w.heap.size w.heap.size _ (rd ys j) _ HI1.out (by have := HL.out; simp; omega) HB1.out.size).mono ?_; rintro e w2 ⟨rfl, hb, hb2⟩)
      exact ⟨⟨j + 1, hlt, by go_num, ⟨by rw [← take_snoc_int ys j (by rw [HL.out]; exact hlt)]; exact .inr hb⟩, ⟨HB1.out.trans hb2⟩⟩, by simp [intOf]; omega⟩
    · obtain rfl : j = s.size := by omega
      have hB0 := HI.out
      rw [List.take_of_length_le (by rw [HL.out]; exact Nat.le_refl _), ← cells_of_nums HR.out] at hB0
      have HI1 := Aside0.mk hB0
      clear hB0
      go_wp2_with (go_at_call 215; refine (Try.Builder_String_any_k w.heap.size w.heap.size (ys.map fun n => UInt8.ofNat n.toNat) _ (Lib.IsBuilderF.of HI1.out) HB.out.size).mono ?_; rintro e w2 ⟨rfl, _, hb2, _⟩)
      go_ret
      exact ⟨rfl, HB.out.trans hb2⟩
theorem sbox_Backs.calls (k : Nat) (s : ByteArray) (r : ByteArray) (w : World) (h : sbox_Backs.f k s = some r) :
    Calls Try.prog 68 #[.string s] w fun e w' => e = .returned (.string r) ∧ Below w.heap.size w w' := by
  unfold sbox_Backs.f eachF at h
  by_cases hs : s.size ≤ 140737488355328
  · rw [if_pos hs] at h
    obtain ⟨ys, h1, h2⟩ := Option.bind_eq_some_iff.1 h
    by_cases hr : inBytes ys = true
    · rw [if_pos hr] at h2
      obtain rfl := Option.some.inj h2
      obtain ⟨hl, hy⟩ := mapM_some h1
      rw [bytesOf_length] at hl
      have HY : Aside0 (∀ i : Nat, i < s.size → sbox_Back.f k (bt s i) = some (rd ys i)) := ⟨fun i hi => by
        have hi' : i < ys.length := by omega
        have h3 := hy i (by rw [bytesOf_length]; exact hi) hi'
        have e1 : (bytesOf s)[i]'(by rw [bytesOf_length]; exact hi) = bt s i := by
          rw [← rd_bytesOf]; simp [rd, bytesOf_length, hi]
        have e2 : ys[i] = rd ys (i : Int) := by simp [rd, hi']
        rw [e1, e2] at h3
        exact h3⟩
      have HL := Aside0.mk hl
      have HR := Aside0.mk hr
      clear h h1 h2 hl hy hr
      go_enter Try.func68, Try.ntmps68
      go_wp2_with (go_at_call 175; refine (each_Back k s ys _ hs HL.out HR.out HY.out).mono ?_; rintro e w1 ⟨rfl, hb⟩)
      go_ret
      exact ⟨rfl, hb⟩
    · rw [if_neg hr] at h2; cases h2
  · rw [if_neg hs] at h; cases h
end Go.Proofs.Ytokkhnjedmlbhaa.Pr
