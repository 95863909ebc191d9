/-
  round.Shift, Unshift, Mix, Unmix: what a step makes of a text. Conditions: none.
-/
import Derived.Test.YtokkhnjedmlbhaaUnmix
import Derived.Test.YtokkhnjedmlbhaaMoved
import Derived.Test.YtokkhnjedmlbhaaState
import Derived.Test.YtokkhnjedmlbhaaText
namespace Go.Proofs.Ytokkhnjedmlbhaa.Pr
open Go.RowKit Go.Proofs.YtokkhnjedmlbhaaW.PrintWords Go.Proofs.YtokkhnjedmlbhaaW.PrintLast Go.Proofs.YtokkhnjedmlbhaaW.PrintMore
set_option maxHeartbeats 1000000 in
theorem of_no (s : ByteArray) (w : World) (hs : s.size ≠ 16) :
    Calls Try.prog 212 #[.string s] w fun e w' => e = .returned (.tuple #[.agg (st16 fun _ => 0), .bool false]) ∧ Below w.heap.size w w' := by
  have hb : (((s.size : Nat) : Int) != 16) = true := bne_iff_ne.mpr (by omega)
  have hb2 : (((s.size : Nat) : Int) == 16) = false := beq_eq_false_iff_ne.mpr (by omega)
  go_enter Try.func212, Try.ntmps212
  go_wp2
  refine bodyPost_ret (v := .tuple #[.agg (st16 fun _ => 0), .bool false]) ?_ rfl ⟨rfl, (Below.refl _ _).alloc (Nat.le_refl _) _⟩
  simp [results, Try.results212, go_sem, st16]
set_option maxHeartbeats 1000000 in
theorem with_Shift (s : ByteArray) (w : World) (hs : s.size = 16) :
    Calls Try.prog 168 #[.string s, .func (.func 181) #[] #[]] w fun e w' => e = .returned (.string (txt16 (shf fun i => bt s i))) ∧ Below w.heap.size w w' := by
  have h1 := of_16 s w hs
  have h2 := fun W => shift_calls (fun i => bt s i) W
  have h3 := fun W => text_calls (shf fun i => bt s i) W
  unfold st16 at h1 h2 h3
  go_enter Try.func168, Try.ntmps168
  go_wp2_with (first | (go_at_call 212; refine h1.mono ?_; rintro e w1 ⟨rfl, hb1⟩) | (go_at_call 181; refine (h2 _).mono ?_; rintro e w2 ⟨rfl, hb2⟩) | (go_at_call 213; refine (h3 _).mono ?_; rintro e w3 ⟨rfl, hb3⟩))
  go_ret
  have e1 := hb1.size
  have e2 := hb2.size
  simp at e2
  exact ⟨rfl, ((hb1.alloc e1 _).trans (hb2.mono (by simp; omega))).trans (hb3.mono (by omega))⟩
theorem with_Shift_no (s : ByteArray) (w : World) (hs : s.size ≠ 16) :
    Calls Try.prog 168 #[.string s, .func (.func 181) #[] #[]] w fun e w' => e = .returned (.string ⟨#[]⟩) ∧ Below w.heap.size w w' := by
  have h1 := of_no s w hs
  unfold st16 at h1
  go_enter Try.func168, Try.ntmps168
  go_wp2_with (go_at_call 212; refine h1.mono ?_; rintro e w1 ⟨rfl, hb1⟩)
  go_ret
  exact ⟨rfl, hb1.alloc hb1.size _⟩
def round_Shift.f (s : ByteArray) : Option ByteArray := if s.size = 16 then some (txt16 (shf fun i => bt s i)) else some ⟨#[]⟩
theorem round_Shift.calls (s r : ByteArray) (w : World) (h : round_Shift.f s = some r) :
    Calls Try.prog 75 #[.string s] w fun e w' => e = .returned (.string r) ∧ Below w.heap.size w w' := by
  unfold round_Shift.f at h
  split at h
  case isTrue hs =>
    obtain rfl := Option.some.inj h
    have h1 := with_Shift s w hs
    clear h
    go_enter Try.func75, Try.ntmps75
    go_wp2_with (go_at_call 168; refine h1.mono ?_; rintro e w1 ⟨rfl, hb1⟩)
    go_ret
    exact ⟨rfl, hb1⟩
  case isFalse hs =>
    obtain rfl := Option.some.inj h
    have h1 := with_Shift_no s w hs
    clear h
    go_enter Try.func75, Try.ntmps75
    go_wp2_with (go_at_call 168; refine h1.mono ?_; rintro e w1 ⟨rfl, hb1⟩)
    go_ret
    exact ⟨rfl, hb1⟩
set_option maxHeartbeats 1000000 in
theorem with_Unshift (s : ByteArray) (w : World) (hs : s.size = 16) :
    Calls Try.prog 168 #[.string s, .func (.func 183) #[] #[]] w fun e w' => e = .returned (.string (txt16 (uhf fun i => bt s i))) ∧ Below w.heap.size w w' := by
  have h1 := of_16 s w hs
  have h2 := fun W => unshift_calls (fun i => bt s i) W
  have h3 := fun W => text_calls (uhf fun i => bt s i) W
  unfold st16 at h1 h2 h3
  go_enter Try.func168, Try.ntmps168
  go_wp2_with (first | (go_at_call 212; refine h1.mono ?_; rintro e w1 ⟨rfl, hb1⟩) | (go_at_call 183; refine (h2 _).mono ?_; rintro e w2 ⟨rfl, hb2⟩) | (go_at_call 213; refine (h3 _).mono ?_; rintro e w3 ⟨rfl, hb3⟩))
  go_ret
  have e1 := hb1.size
  have e2 := hb2.size
  simp at e2
  exact ⟨rfl, ((hb1.alloc e1 _).trans (hb2.mono (by simp; omega))).trans (hb3.mono (by omega))⟩
theorem with_Unshift_no (s : ByteArray) (w : World) (hs : s.size ≠ 16) :
    Calls Try.prog 168 #[.string s, .func (.func 183) #[] #[]] w fun e w' => e = .returned (.string ⟨#[]⟩) ∧ Below w.heap.size w w' := by
  have h1 := of_no s w hs
  unfold st16 at h1
  go_enter Try.func168, Try.ntmps168
  go_wp2_with (go_at_call 212; refine h1.mono ?_; rintro e w1 ⟨rfl, hb1⟩)
  go_ret
  exact ⟨rfl, hb1.alloc hb1.size _⟩
def round_Unshift.f (s : ByteArray) : Option ByteArray := if s.size = 16 then some (txt16 (uhf fun i => bt s i)) else some ⟨#[]⟩
theorem round_Unshift.calls (s r : ByteArray) (w : World) (h : round_Unshift.f s = some r) :
    Calls Try.prog 77 #[.string s] w fun e w' => e = .returned (.string r) ∧ Below w.heap.size w w' := by
  unfold round_Unshift.f at h
  split at h
  case isTrue hs =>
    obtain rfl := Option.some.inj h
    have h1 := with_Unshift s w hs
    clear h
    go_enter Try.func77, Try.ntmps77
    go_wp2_with (go_at_call 168; refine h1.mono ?_; rintro e w1 ⟨rfl, hb1⟩)
    go_ret
    exact ⟨rfl, hb1⟩
  case isFalse hs =>
    obtain rfl := Option.some.inj h
    have h1 := with_Unshift_no s w hs
    clear h
    go_enter Try.func77, Try.ntmps77
    go_wp2_with (go_at_call 168; refine h1.mono ?_; rintro e w1 ⟨rfl, hb1⟩)
    go_ret
    exact ⟨rfl, hb1⟩
set_option maxHeartbeats 1000000 in
theorem with_Mix (s : ByteArray) (w : World) (hs : s.size = 16) :
    Calls Try.prog 168 #[.string s, .func (.func 169) #[] #[]] w fun e w' => e = .returned (.string (txt16 (mixI fun i => bt s i))) ∧ Below w.heap.size w w' := by
  have h1 := of_16 s w hs
  have h2 := fun W => mix_calls (fun i => bt s i) W
  have h3 := fun W => text_calls (mixI fun i => bt s i) W
  unfold st16 at h1 h2 h3
  go_enter Try.func168, Try.ntmps168
  go_wp2_with (first | (go_at_call 212; refine h1.mono ?_; rintro e w1 ⟨rfl, hb1⟩) | (go_at_call 169; refine (h2 _).mono ?_; rintro e w2 ⟨rfl, hb2⟩) | (go_at_call 213; refine (h3 _).mono ?_; rintro e w3 ⟨rfl, hb3⟩))
  go_ret
  have e1 := hb1.size
  have e2 := hb2.size
  simp at e2
  exact ⟨rfl, ((hb1.alloc e1 _).trans (hb2.mono (by simp; omega))).trans (hb3.mono (by omega))⟩
theorem with_Mix_no (s : ByteArray) (w : World) (hs : s.size ≠ 16) :
    Calls Try.prog 168 #[.string s, .func (.func 169) #[] #[]] w fun e w' => e = .returned (.string ⟨#[]⟩) ∧ Below w.heap.size w w' := by
  have h1 := of_no s w hs
  unfold st16 at h1
  go_enter Try.func168, Try.ntmps168
  go_wp2_with (go_at_call 212; refine h1.mono ?_; rintro e w1 ⟨rfl, hb1⟩)
  go_ret
  exact ⟨rfl, hb1.alloc hb1.size _⟩
def round_Mix.f (s : ByteArray) : Option ByteArray := if s.size = 16 then some (txt16 (mixI fun i => bt s i)) else some ⟨#[]⟩
theorem round_Mix.calls (s r : ByteArray) (w : World) (h : round_Mix.f s = some r) :
    Calls Try.prog 53 #[.string s] w fun e w' => e = .returned (.string r) ∧ Below w.heap.size w w' := by
  unfold round_Mix.f at h
  split at h
  case isTrue hs =>
    obtain rfl := Option.some.inj h
    have h1 := with_Mix s w hs
    clear h
    go_enter Try.func53, Try.ntmps53
    go_wp2_with (go_at_call 168; refine h1.mono ?_; rintro e w1 ⟨rfl, hb1⟩)
    go_ret
    exact ⟨rfl, hb1⟩
  case isFalse hs =>
    obtain rfl := Option.some.inj h
    have h1 := with_Mix_no s w hs
    clear h
    go_enter Try.func53, Try.ntmps53
    go_wp2_with (go_at_call 168; refine h1.mono ?_; rintro e w1 ⟨rfl, hb1⟩)
    go_ret
    exact ⟨rfl, hb1⟩
def unI (f : Nat → Int) : Nat → Int := mixI (preI f)
set_option maxHeartbeats 1000000 in
theorem with_Unmix (s : ByteArray) (w : World) (hs : s.size = 16) :
    Calls Try.prog 168 #[.string s, .func (.func 171) #[] #[]] w fun e w' => e = .returned (.string (txt16 (unI fun i => bt s i))) ∧ Below w.heap.size w w' := by
  have h1 := of_16 s w hs
  have h2 := fun W => unmix_calls (fun i => bt s i) W
  have h3 := fun W => text_calls (unI fun i => bt s i) W
  unfold st16 at h1 h2 h3
  go_enter Try.func168, Try.ntmps168
  go_wp2_with (first | (go_at_call 212; refine h1.mono ?_; rintro e w1 ⟨rfl, hb1⟩) | (go_at_call 171; refine (h2 _).mono ?_; rintro e w2 ⟨rfl, hb2⟩) | (go_at_call 213; refine (h3 _).mono ?_; rintro e w3 ⟨rfl, hb3⟩))
  go_ret
  have e1 := hb1.size
  have e2 := hb2.size
  simp at e2
  exact ⟨rfl, ((hb1.alloc e1 _).trans (hb2.mono (by simp; omega))).trans (hb3.mono (by omega))⟩
theorem with_Unmix_no (s : ByteArray) (w : World) (hs : s.size ≠ 16) :
    Calls Try.prog 168 #[.string s, .func (.func 171) #[] #[]] w fun e w' => e = .returned (.string ⟨#[]⟩) ∧ Below w.heap.size w w' := by
  have h1 := of_no s w hs
  unfold st16 at h1
  go_enter Try.func168, Try.ntmps168
  go_wp2_with (go_at_call 212; refine h1.mono ?_; rintro e w1 ⟨rfl, hb1⟩)
  go_ret
  exact ⟨rfl, hb1.alloc hb1.size _⟩
def round_Unmix.f (s : ByteArray) : Option ByteArray := if s.size = 16 then some (txt16 (unI fun i => bt s i)) else some ⟨#[]⟩
theorem round_Unmix.calls (s r : ByteArray) (w : World) (h : round_Unmix.f s = some r) :
    Calls Try.prog 55 #[.string s] w fun e w' => e = .returned (.string r) ∧ Below w.heap.size w w' := by
  unfold round_Unmix.f at h
  split at h
  case isTrue hs =>
    obtain rfl := Option.some.inj h
    have h1 := with_Unmix s w hs
    clear h
    go_enter Try.func55, Try.ntmps55
    go_wp2_with (go_at_call 168; refine h1.mono ?_; rintro e w1 ⟨rfl, hb1⟩)
    go_ret
    exact ⟨rfl, hb1⟩
  case isFalse hs =>
    obtain rfl := Option.some.inj h
    have h1 := with_Unmix_no s w hs
    clear h
    go_enter Try.func55, Try.ntmps55
    go_wp2_with (go_at_call 168; refine h1.mono ?_; rintro e w1 ⟨rfl, hb1⟩)
    go_ret
    exact ⟨rfl, hb1⟩
end Go.Proofs.Ytokkhnjedmlbhaa.Pr
