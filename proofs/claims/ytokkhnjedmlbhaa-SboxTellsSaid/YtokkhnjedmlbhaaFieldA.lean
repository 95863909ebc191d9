/-
  The three laws of field, plain: what is printed comes to true.
-/
import Derived.Test.YtokkhnjedmlbhaaFieldR
import Derived.Test.YtokkhnjedmlbhaaPrx0
import Derived.Test.YtokkhnjedmlbhaaPrx1
import Derived.Test.YtokkhnjedmlbhaaPrx2
import Derived.Test.YtokkhnjedmlbhaaPrx3
import Derived.Test.YtokkhnjedmlbhaaPrx4
import Derived.Test.YtokkhnjedmlbhaaPrx5
namespace Go.Proofs.Ytokkhnjedmlbhaa.M
open Go.RowKit Go.Proofs.Ytokkhnjedmlbhaa.Pr Go.Proofs.YtokkhnjedmlbhaaW.PrintWords Go.Proofs.YtokkhnjedmlbhaaW.PrintLast Go.Proofs.YtokkhnjedmlbhaaW.PrintMore Go.Proofs.YtokkhnjedmlbhaaGf
theorem add_c {a b : Nat} (ha : a < 256) (hb : b < 256) : field_Add.f (a : Int) (b : Int) = some ((a ^^^ b : Nat) : Int) := by unfold field_Add.f; rw [bx ha hb]
theorem radd_c {a b : Nat} (ha : a < 256) (hb : b < 256) : clavigerref05_Add.f (a : Int) (b : Int) = some ((a ^^^ b : Nat) : Int) := by unfold clavigerref05_Add.f; rw [bx ha hb]
theorem of_byte {a : Int} (h : (Lit.int .u8 a).wf = true) : ∃ n : Nat, n < 256 ∧ a = (n : Int) := by
  simp [Lit.wf, IntKind.min, IntKind.max, IntKind.signed, IntKind.bits] at h
  exact ⟨a.toNat, by omega, by omega⟩
theorem of_i64 {a : Int} (h : (Lit.int .i64 a).wf = true) : -9223372036854775808 ≤ a ∧ a ≤ 9223372036854775807 := by
  simp [Lit.wf, IntKind.min, IntKind.max, IntKind.signed, IntKind.bits] at h
  omega
/-- A call whose answer is known, ahead of what goes on with it. -/
theorem evb {α β : Type} {g : Nat → Option α} {f : Nat → α → Option β} {a : α} {r : β} (h : Ev g a) (k : Ev (fun n => f n a) r) : Ev (fun n => (g n).bind (f n)) r := Ev.bind h k
theorem evs {α β : Type} {g : Option α} {f : Nat → α → Option β} {a : α} {r : β} (h : g = some a) (k : Ev (fun n => f n a) r) : Ev (fun n => g.bind (f n)) r := by subst h; exact k
theorem evp {α : Type} {c : Prop} [Decidable c] {f g : Nat → Option α} {r : α} (h : c) (k : Ev f r) : Ev (fun n => if c then f n else g n) r := by simp only [if_pos h]; exact k
theorem evn {α : Type} {c : Prop} [Decidable c] {f g : Nat → Option α} {r : α} (h : ¬ c) (k : Ev g r) : Ev (fun n => if c then f n else g n) r := by simp only [if_neg h]; exact k
theorem awake05 : Ev (fun k => clavigerlaw05_awake.f k) true := Ev.of clavigerlaw05_awake.mono (k := 300) (by decide +kernel)
theorem FieldTells : clavigerlaw05_FieldTells.Pure := by
  intro a0 a1 n w0 w1 w2
  obtain ⟨a, ha, rfl⟩ := of_byte w0
  obtain ⟨b, hb, rfl⟩ := of_byte w1
  have hn := of_i64 w2
  refine Ev.rounds (?_ : Ev _ true)
  unfold clavigerlaw05_FieldTells.f
  refine evb (log_c ha) (evb (rlog_c ha) (evs (add_c ha hb) (evs (radd_c ha hb) (evp rfl ?_))))
  refine evs (twice_c ha) (evb (rtwice_c ha) (evp rfl ?_))
  refine evb (mul_c ha hb) (evb (rmul_c ha hb) (evp rfl ?_))
  refine evb (pow_c ha n (by omega)) (evb (rpow_c ha n) (evp rfl ?_))
  refine evb (inv_c ha) (evb (rinv_c ha) (evp rfl (evp rfl (evp (by simp) ?_))))
  exact evb awake05 (Ev.now _)
theorem laws1 {a : Nat} (ha : a < 256) (x : Bool) (hx : x = decide (a ≠ 0)) : Ev (fun k => clavigerlaw05_FieldLaws.j1 k (a : Int) x false) true := by
  refine Ev.step (f := fun k => (field_Mul.f k (a : Int) 1).bind fun t150 => (if t150 = (a : Int) then ((field_Mul.f k (a : Int) 0).bind fun t151 => (if t151 = 0 then (if (a : Int) = 0 then (if x = true then (some false) else ((field_Inv.f k (a : Int)).bind fun t152 => (if t152 = 0 then ((clavigerlaw05_awake.f k).bind fun t153 => (some t153)) else (some false)))) else ((clavigerlaw05_awake.f k).bind fun t154 => (some t154))) else (some false))) else (some false))) (fun k => by simp only [clavigerlaw05_FieldLaws.j1]; rw [if_neg (by simp)]) ?_
  have h1 := mul_c ha (show 1 < 256 by omega)
  rw [gm_oneR ha] at h1
  have h0 := mul_c ha (show 0 < 256 by omega)
  rw [gm_zeroR ha] at h0
  refine evb h1 (evp rfl (evb h0 (evp rfl ?_)))
  by_cases h : a = 0
  · subst h
    have hi := inv_c (show 0 < 256 by omega)
    refine evp rfl (evn (by simp [hx]) (evb hi (evp rfl (evb awake05 (Ev.now _)))))
  · exact evn (by omega) (evb awake05 (Ev.now _))
theorem laws0 {a : Nat} (ha : a < 256) : Ev (fun k => clavigerlaw05_FieldLaws.j0 k (a : Int) false) true := by
  refine Ev.step (f := fun k => (field_Log.f k (a : Int)).bind fun bt145 => (if (a : Int) = 0 then (clavigerlaw05_FieldLaws.j1 k (a : Int) bt145.2 false) else ((field_Inv.f k (a : Int)).bind fun t147 => ((field_Mul.f k (a : Int) t147).bind fun t148 => (if t148 = 1 then (if bt145.2 = true then (if bt145.1 < 0 then (clavigerlaw05_FieldLaws.j1 k (a : Int) bt145.2 true) else (if bt145.1 > 254 then (clavigerlaw05_FieldLaws.j1 k (a : Int) bt145.2 true) else ((field_Pow.f k 3 bt145.1).bind fun t149 => (clavigerlaw05_FieldLaws.j1 k (a : Int) bt145.2 (t149 != (a : Int)))))) else (clavigerlaw05_FieldLaws.j1 k (a : Int) bt145.2 true)) else (clavigerlaw05_FieldLaws.j1 k (a : Int) bt145.2 true)))))) (fun k => by simp only [clavigerlaw05_FieldLaws.j0]; rw [if_neg (by simp)]) ?_
  by_cases h : a = 0
  · subst h
    exact evb (log_c ha) (evp rfl (laws1 ha false (by simp)))
  · have hl := E_lg ha h
    have hlog := log_c ha
    rw [if_neg h] at hlog
    have hm := mul_c ha (inv_lt a)
    rw [gm_inv ha h] at hm
    have hp := pow_c (show 3 < 256 by omega) ((lg a : Nat) : Int) (by omega)
    have e3 : powI 3 ((lg a : Nat) : Int) = a := by
      unfold powI
      rw [Int.toNat_natCast, show (3 : Nat) = E 1 from rfl, pw_E, Nat.one_mul, hl.1]
    rw [e3] at hp
    refine evb hlog (evn (by omega) (evb (inv_c ha) (evb hm (evp rfl (evp rfl (evn (by show ¬ ((lg a : Nat) : Int) < 0; omega) (evn (by show ¬ ((lg a : Nat) : Int) > 254; omega) (evb hp ?_))))))))
    have := laws1 ha true (by simp [h])
    simpa using this
theorem FieldLaws : clavigerlaw05_FieldLaws.Pure := by
  intro a0 a1 a2 w0 w1 w2
  obtain ⟨a, ha, rfl⟩ := of_byte w0
  obtain ⟨b, hb, rfl⟩ := of_byte w1
  obtain ⟨c, hc, rfl⟩ := of_byte w2
  refine Ev.rounds (?_ : Ev _ true)
  unfold clavigerlaw05_FieldLaws.f
  have hba := mul_c hb ha
  rw [gm_comm hb ha] at hba
  have h1 := mul_c (gm_lt (b := b) ha) hc
  rw [← gm_assoc ha hb hc] at h1
  have h2 := mul_c ha (xor_lt hb hc)
  rw [gm_addR] at h2
  refine evb (mul_c ha hb) (evb hba (evp rfl (evb (mul_c hb hc) (evb (mul_c ha (gm_lt hb)) (evb (mul_c ha hb) (evb h1 (evp rfl ?_)))))))
  refine evs (add_c hb hc) (evb h2 (evb (mul_c ha hb) (evb (mul_c ha hc) (evs (add_c (gm_lt ha) (gm_lt ha)) ?_))))
  have := laws0 ha
  simpa using this
/-- The byte at a place, as a number. -/
def bb (s : ByteArray) (i : Nat) : Nat := (bt s (i : Int)).toNat
theorem bb_lt (s : ByteArray) (i : Nat) : bb s i < 256 := by have := bt_range s (i : Int); unfold bb; omega
theorem bt_bb (s : ByteArray) (i : Nat) : bt s (i : Int) = ((bb s i : Nat) : Int) := by have := bt_range s (i : Int); unfold bb; omega
def dotT (a b : ByteArray) : Nat → Nat
  | 0 => 0
  | k + 1 => dotT a b k ^^^ gm (bb a k) (bb b k)
theorem dotT_lt (a b : ByteArray) (k : Nat) : dotT a b k < 256 := by
  induction k with
  | zero => show 0 < 256; omega
  | succ k ih => exact xor_lt ih (gm_lt (bb_lt a k))
theorem dotL (d : Nat) : ∀ (i : Nat) (a b : ByteArray), a.size ≤ 140737488351232 → b.size ≤ 140737488351232 → i ≤ min a.size b.size → min a.size b.size - i = d → Ev (fun k => field_Dot.l0 k a b ((dotT a b i : Nat) : Int) ((min a.size b.size : Nat) : Int) (i : Int)) ((dotT a b (min a.size b.size) : Nat) : Int) := by
  induction d with
  | zero =>
    intro i a b ha hb hi hd
    obtain rfl : i = min a.size b.size := by omega
    exact Ev.step (f := fun _ => some ((dotT a b (min a.size b.size) : Nat) : Int)) (fun k => by simp only [field_Dot.l0]; rw [if_neg (by omega)]) (Ev.now _)
  | succ d ih =>
    intro i a b ha hb hi hd
    have hh := ih (i + 1) a b ha hb (by omega) (by omega)
    refine Ev.step (f := fun k => (field_Mul.f k ((bb a i : Nat) : Int) ((bb b i : Nat) : Int)).bind fun t155 => (field_Dot.l0 k a b (Go.bits .xor .u8 ((dotT a b i : Nat) : Int) t155) ((min a.size b.size : Nat) : Int) ((i : Int) + 1))) (fun k => by
      simp only [field_Dot.l0]; rw [if_pos (by omega), if_pos (by omega), if_pos (by omega), if_pos (by omega), bt_bb, bt_bb, wrap_id (by omega) (by omega)]) ?_
    refine evb (mul_c (bb_lt a i) (bb_lt b i)) ?_
    rw [bx (dotT_lt a b i) (gm_lt (bb_lt a i))]
    exact hh
theorem rdotL (d : Nat) : ∀ (i : Nat) (a b : ByteArray), a.size ≤ 140737488351232 → b.size ≤ 140737488351232 → i ≤ min a.size b.size → min a.size b.size - i = d → Ev (fun k => clavigerref05_Dot.l0 k a b ((dotT a b i : Nat) : Int) (i : Int)) ((dotT a b (min a.size b.size) : Nat) : Int) := by
  induction d with
  | zero =>
    intro i a b ha hb hi hd
    obtain rfl : i = min a.size b.size := by omega
    refine Ev.step (f := fun _ => some ((dotT a b (min a.size b.size) : Nat) : Int)) (fun k => ?_) (Ev.now _)
    simp only [clavigerref05_Dot.l0]
    by_cases h : a.size ≤ b.size
    · rw [if_neg (by omega)]
    · rw [if_pos (by omega), if_neg (by omega)]
  | succ d ih =>
    intro i a b ha hb hi hd
    have hh := ih (i + 1) a b ha hb (by omega) (by omega)
    refine Ev.step (f := fun k => (clavigerref05_Mul.f k ((bb a i : Nat) : Int) ((bb b i : Nat) : Int)).bind fun t155 => (clavigerref05_Dot.l0 k a b (Go.bits .xor .u8 ((dotT a b i : Nat) : Int) t155) ((i : Int) + 1))) (fun k => by
      simp only [clavigerref05_Dot.l0]; rw [if_pos (by omega), if_pos (by omega), if_pos (by omega), bt_bb, bt_bb, wrap_id (by omega) (by omega)]) ?_
    refine evb (rmul_c (bb_lt a i) (bb_lt b i)) ?_
    rw [bx (dotT_lt a b i) (gm_lt (bb_lt a i))]
    exact hh
theorem mn_c (a b : Nat) : mn (a : Int) (b : Int) = ((min a b : Nat) : Int) := by unfold mn; omega
theorem dot_c (a b : ByteArray) (ha : a.size ≤ 140737488351232) (hb : b.size ≤ 140737488351232) : Ev (fun k => field_Dot.f k a b) ((dotT a b (min a.size b.size) : Nat) : Int) := by
  unfold field_Dot.f
  rw [mn_c]
  exact dotL (min a.size b.size) 0 a b ha hb (by omega) (by omega)
theorem rdot_c (a b : ByteArray) (ha : a.size ≤ 140737488351232) (hb : b.size ≤ 140737488351232) : Ev (fun k => clavigerref05_Dot.f k a b) ((dotT a b (min a.size b.size) : Nat) : Int) :=
  rdotL (min a.size b.size) 0 a b ha hb (by omega) (by omega)
theorem dots0 (a b : ByteArray) (ha : a.size ≤ 140737488351232) (hb : b.size ≤ 140737488351232) (x : Bool) : Ev (fun k => clavigerlaw05_FieldDots.j0 k a b x) true := by
  cases x with
  | true =>
    exact Ev.step (f := fun k => (clavigerlaw05_awake.f k).bind fun t157 => (some t157)) (fun k => by simp only [clavigerlaw05_FieldDots.j0]; exact if_pos True.intro) (evb awake05 (Ev.now _))
  | false =>
    refine Ev.step (f := fun k => (field_Dot.f k a b).bind fun t158 => ((clavigerref05_Dot.f k a b).bind fun t159 => (if t158 = t159 then ((clavigerlaw05_awake.f k).bind fun t160 => (some t160)) else (some false)))) (fun k => by simp only [clavigerlaw05_FieldDots.j0]; rw [if_neg (by simp)]) ?_
    exact evb (dot_c a b ha hb) (evb (rdot_c a b ha hb) (evp rfl (evb awake05 (Ev.now _))))
theorem FieldDots : clavigerlaw05_FieldDots.Pure := by
  intro a b ha hb
  refine Ev.rounds (?_ : Ev _ true)
  unfold clavigerlaw05_FieldDots.f
  by_cases h : (a.size : Int) > 300
  · exact evp h (dots0 a b ha hb true)
  · exact evn h (dots0 a b ha hb _)
end Go.Proofs.Ytokkhnjedmlbhaa.M
