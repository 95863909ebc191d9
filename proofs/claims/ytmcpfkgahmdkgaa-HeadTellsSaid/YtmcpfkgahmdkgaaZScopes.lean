-- several texts in one (by the session's program shake.py)
import Derived.Test.YtmcpfkgahmdkgaaZWWords
import Derived.Test.YtmcpfkgahmdkgaaZWLast
import Derived.Test.YtmcpfkgahmdkgaaZWMore
import Derived.Test.YtmcpfkgahmdkgaaProg
import Derived.Below
import Derived.Deep.Draws
import Derived.Deep.AppendLies
import Derived.Maps.AppendAt
import Derived.OwnWalk
import Derived.Laws.BytesArg
import Derived.Laws.MakeOwn
import Derived.Laws.OwnMore
import Derived.Deep.OwnRows
import Derived.Tactics
import Derived.Lib.ConvBytes
import Derived.Laws.Slices
import Derived.WalkKit
import Derived.KernelRfl
import Derived.RowKit3
import Derived.Deep.LoopGhost
import Derived.Deep.QuietTactic
import Derived.BigQuiet
import Derived.WideLaws
import Derived.Deep.DeepCutAuto
import Derived.Deep.CutBlock
import Derived.Deep.RegionHeld3
import Derived.Laws.Rows
import Derived.Lib.AppendStr
import Derived.ArgAppend
import Derived.Laws.IdiomCopy
import Derived.OrdersHeld
import Derived.Laws.BitsLemmas
import Derived.RowKit
import Derived.Test.YtmcpfkgahmdkgaaZWTab
import Derived.Test.YtmcpfkgahmdkgaaZWRepsOne
import Derived.Test.YtmcpfkgahmdkgaaZWGuard
import Derived.Test.YtmcpfkgahmdkgaaZWEqStruct
import Derived.ScopeJumps
section
namespace Go.Proofs.YtmcpfkgahmdkgaaHw
open Go.RowKit Go.Proofs.YtmcpfkgahmdkgaaW.PrintWords
section
variable {P : Program} {ops : Array Oper} {rest : List Oper} {o : Oper} {a : Act} {Q : Exit → Act → World → Prop} {α : Type}
/-- make([]T, 0, c): a row of its own, with no element. -/
theorem R_make0 (d : Kd α) {w0 W : World} (base e : Nat) (hgd : o.guard = none) {N : Tmp} (_hd : o.dst = some N) (t : TypeId) (x y : Operand) (ho : o.op = .makeSlice t x y) (n : Int) (hx : a.eval x = .int .i64 0) (hy : a.eval y = .int .i64 n)
    (ht : P.underlying t = some (.slice e)) (z : Value) (bytes : Nat) (hinfo : (P.info? e).map (fun i => (i.zero, i.size, i.bytes)) = some (some z, d.sz, bytes)) (_hz : z.cells.size = d.sz) (_hs0 : 0 < d.sz) (_hb0 : 0 < bytes)
    {ok okp : Nat → Prop} (_hok : ∀ k, okp k → ok k) (hfresh : ok W.heap.size) (h0 : 0 ≤ n) (hl : n * (bytes : Int) ≤ 281474976710656) (HB : Below base w0 W) (hbase : base ≤ W.heap.size)
    (h : ∀ v1 w1, d.R e w1 base ok v1 ([] : List α) → Below base w0 w1 → W.grownBy w1 none → (∃ b, v1.ownBlock = some b ∧ W.heap.size ≤ b) → wpList P ops Q rest (a.put o.dst v1) w1) : wpList P ops Q (o :: rest) a W := by
  obtain ⟨m, rfl⟩ := Int.eq_ofNat_of_zero_le h0
  obtain ⟨i0, hi, hzz⟩ := Option.map_eq_some_iff.1 hinfo
  simp only [Prod.mk.injEq] at hzz
  obtain ⟨hz0, hz1, hz2⟩ := hzz
  have hl' : m * bytes ≤ 281474976710656 := by
    have h3 : ((m * bytes : Nat) : Int) ≤ 281474976710656 := by rw [Int.natCast_mul]; exact hl
    omega
  have hm : m ≤ 281474976710656 := Nat.le_trans (Nat.le_mul_of_pos_right _ _hb0) hl'
  have hr := run_make (P := P) W t e i0 z ht hi hz0 .i64 .i64 0 (m : Int) (Int.le_refl _) (by omega)
    (by
      have h3 : ((i0.bytes * m : Nat) : Int) ≤ 281474976710656 := by rw [hz2, Nat.mul_comm]; omega
      rwa [Int.natCast_mul] at h3) (by omega)
  simp only [Int.toNat_zero, Int.toNat_natCast] at hr
  rw [hz1] at hr
  have hown := World.ownsRow_made (base := base) (e := e) (size := d.sz) W (madeCells z.cells (m * d.sz)) m hbase (by simp [maxLen]; omega) (size_madeCells _ _)
  refine Kd.event_run (w1 := W.alloc (.cells (madeCells z.cells (m * d.sz)) e)) (v := .slice (some ⟨W.heap.size, 0, none⟩) 0 m) hgd (by simp [execOp, ho, hx, hy, hr]) ?_
  refine h _ _ ⟨fun k hk => ?_, [], by simpa using hown, Reps.none _ _⟩ (HB.alloc hbase _) (World.grownBy_alloc W _ none) ⟨W.heap.size, by simp [Value.ownBlock], Nat.le_refl _⟩
  have : W.heap.size = k := by simpa [Value.ownBlock] using hk
  subst this
  exact hfresh
end
end Go.Proofs.YtmcpfkgahmdkgaaHw
end
section
namespace Go.Proofs.Ytmcpfkgahmdkgaa.Pr
open Go.RowKit Go.Proofs.YtmcpfkgahmdkgaaW.PrintWords Go.Proofs.YtmcpfkgahmdkgaaW.PrintLast Go.Proofs.YtmcpfkgahmdkgaaW.PrintMore
attribute [local go_sem] max2_int min2_int max_two min_two max_three min_three max_four min_four   -- for this text's walks alone
set_option linter.unusedVariables false
set_option linter.unusedSimpArgs false

def errW : Option Int → Value
 | none => .nilIface
 | some c => .iface 0 (.int .i64 c)
theorem errW_none : errW none = .nilIface := rfl
theorem errW_some (c : Int) : errW (some c) = .iface 0 (.int .i64 c) := rfl

theorem info5 : (Try.prog.info? 5).map (fun i => (i.zero, i.size, i.bytes)) = some (some (.int .u8 0), 1, 1) := by kernel_rfl
-- the values' own types
structure S55 where
 f0 : Int
 f1 : Int
 f2 : Bool
 f3 : Int
structure S102 where
 f0 : Int
 f1 : ByteArray
structure S77 where
 f0 : ByteArray
 f1 : ByteArray
structure S76 where
 f0 : ByteArray
 f1 : ByteArray
theorem bA {w W : World} (h : Below w.heap.size w W) (o : Obj) : Below w.heap.size w (W.alloc o) := below_alloc h o
theorem lT {α β : Type} {f : α → β} {l : List α} : l.toArray.map f = (l.map f).toArray := List.map_toArray
theorem lC {α β : Type} {f : α → β} {a : α} {l : List α} : (a :: l).map f = f a :: l.map f := List.map_cons
theorem lN {α β : Type} {f : α → β} : ([] : List α).map f = [] := List.map_nil
theorem bN {B : Nat} {w W : World} (h : Below B w W) (n : Nat) : Below B w (W.drewN n) := pw_below_drewN h n
theorem bD {B : Nat} {w W : World} (h : Below B w W) : Below B w W.drew := below_drew1 h
end Go.Proofs.Ytmcpfkgahmdkgaa.Pr
end
section
namespace Go.Proofs.Ytmcpfkgahmdkgaa.M
open Go.RowKit Go.Proofs.Ytmcpfkgahmdkgaa.Pr Go.Proofs.YtmcpfkgahmdkgaaW.PrintWords Go.Proofs.YtmcpfkgahmdkgaaW.PrintLast Go.Proofs.YtmcpfkgahmdkgaaW.PrintMore
theorem wrap_id {x : Int} (h0 : -9223372036854775808 ≤ x) (h1 : x ≤ 9223372036854775807) : wrap64 x = x := by unfold wrap64; omega
/-- A call whose answer is known, ahead of what goes on with it. -/
theorem evb {α β : Type} {g : Nat → Option α} {f : Nat → α → Option β} {a : α} {r : β} (h : Ev g a) (k : Ev (fun n => f n a) r) : Ev (fun n => (g n).bind (f n)) r := Ev.bind h k
theorem evs {α β : Type} {g : Option α} {f : Nat → α → Option β} {a : α} {r : β} (h : g = some a) (k : Ev (fun n => f n a) r) : Ev (fun n => g.bind (f n)) r := by subst h; exact k
theorem evp {α : Type} {c : Prop} [Decidable c] {f g : Nat → Option α} {r : α} (h : c) (k : Ev f r) : Ev (fun n => if c then f n else g n) r := by simp only [if_pos h]; exact k
theorem evn {α : Type} {c : Prop} [Decidable c] {f g : Nat → Option α} {r : α} (h : ¬ c) (k : Ev g r) : Ev (fun n => if c then f n else g n) r := by simp only [if_neg h]; exact k
/-- The byte at a place, as a number. -/
def bb (s : ByteArray) (i : Nat) : Nat := (bt s (i : Int)).toNat
theorem bb_lt (s : ByteArray) (i : Nat) : bb s i < 256 := by have := bt_range s (i : Int); unfold bb; omega
theorem bt_bb (s : ByteArray) (i : Nat) : bt s (i : Int) = ((bb s i : Nat) : Int) := by have := bt_range s (i : Int); unfold bb; omega
/-- The text of a list of bytes. -/
def mkB (l : List Nat) : ByteArray := ⟨(l.map UInt8.ofNat).toArray⟩
/-- A text's bytes. -/
def nb (s : ByteArray) : List Nat := s.data.toList.map UInt8.toNat
def isB (l : List Nat) : Prop := ∀ x ∈ l, x < 256
theorem mkB_size (l : List Nat) : (mkB l).size = l.length := by
  show (l.map UInt8.ofNat).toArray.size = _
  simp
theorem nb_length (s : ByteArray) : (nb s).length = s.size := by rw [nb, List.length_map, data_length]
theorem isB_nb (s : ByteArray) : isB (nb s) := by
  intro x hx
  obtain ⟨u, _, rfl⟩ := List.mem_map.1 hx
  exact UInt8.toNat_lt u
theorem nb_mkB {l : List Nat} (h : isB l) : nb (mkB l) = l := by
  simp only [nb, mkB, List.map_map]
  conv => rhs; rw [← List.map_id l]
  apply List.map_congr_left
  intro n hn
  have := h n hn
  simp
  omega
theorem mkB_inj {l m : List Nat} (hl : isB l) (hm : isB m) (h : mkB l = mkB m) : l = m := by rw [← nb_mkB hl, h, nb_mkB hm]
theorem mkB_append (l m : List Nat) : mkB l ++ mkB m = mkB (l ++ m) := by
  apply ByteArray.ext
  simp [mkB]
theorem bb_nb (s : ByteArray) (i : Nat) : bb s i = (nb s).getD i 0 := by
  unfold bb bt
  by_cases h : i < s.size
  · rw [dif_pos (by simpa using h)]
    have h' : i < (nb s).length := by rw [nb_length]; exact h
    rw [List.getD_eq_getElem?_getD, List.getElem?_eq_getElem h']
    simp only [Option.getD_some, nb, List.getElem_map, Int.toNat_natCast]
    rfl
  · rw [dif_neg (by simpa using h)]
    rw [List.getD_eq_getElem?_getD, List.getElem?_eq_none (by rw [nb_length]; omega)]
    rfl
theorem strOfNums_cast (l : List Nat) : strOfNums (l.map Int.ofNat) = mkB l := by
  simp only [strOfNums, mkB, List.map_map]
  rfl
theorem extract_nb (s : ByteArray) (i j : Nat) : s.extract i j = mkB (((nb s).take j).drop i) := by
  apply ByteArray.ext
  simp only [ByteArray.data_extract, mkB]
  apply Array.ext'
  rw [Array.toList_extract]
  simp only [List.extract_eq_take_drop, nb]
  rw [← List.map_take, ← List.map_drop, List.map_map]
  rw [show (UInt8.ofNat ∘ UInt8.toNat) = id from by funext u; simp, List.map_id, List.drop_take]
theorem isB_append {l m : List Nat} : isB (l ++ m) ↔ isB l ∧ isB m := by
  simp [isB, or_imp, forall_and]
theorem isB_take {l : List Nat} (h : isB l) (n : Nat) : isB (l.take n) := fun x hx => h x (List.mem_of_mem_take hx)
theorem isB_get {l : List Nat} (h : isB l) (i : Nat) : l.getD i 0 < 256 := by
  rw [List.getD_eq_getElem?_getD]
  by_cases hi : i < l.length
  · rw [List.getElem?_eq_getElem hi]; exact h _ (List.getElem_mem hi)
  · rw [List.getElem?_eq_none (by omega)]; decide
end Go.Proofs.Ytmcpfkgahmdkgaa.M
end
section
namespace Go.Proofs.Ytmcpfkgahmdkgaa.M
def lenL (l : Nat) : List Nat := if l < 128 then [l] else if l < 256 then [129, l] else [130, l / 256, l % 256]
def digL (t : Nat) : List Nat := if t < 128 then [t] else if t < 16384 then [128 + t / 128, t % 128] else [128 + t / 16384, 128 + t / 128 % 128, t % 128]
def tagL (c t : Nat) (k : Bool) : List Nat := if t < 31 then [64 * c + 32 * k.toNat + t] else (64 * c + 32 * k.toNat + 31) :: digL t
def encL (c t : Nat) (k : Bool) (l : Nat) : List Nat := tagL c t k ++ lenL l
def len1 : List Nat → (Nat × Nat) ⊕ Int
  | z :: _ => if 128 ≤ z then .inl (z, 2) else .inr 5
  | [] => .inr 5
def len2 : List Nat → (Nat × Nat) ⊕ Int
  | z :: v :: _ => if 256 ≤ 256 * z + v then .inl (256 * z + v, 3) else .inr 5
  | _ => .inr 5
def lenD : List Nat → (Nat × Nat) ⊕ Int
  | [] => .inr 5
  | y :: r => if y = 128 then .inr 5 else if 130 < y then .inr 4 else if y < 128 then .inl (y, 1) else if y = 129 then len1 r else len2 r
def tag3 (a b : Nat) : List Nat → Option (Nat × Nat)
  | d :: _ => if d < 128 then some (16384 * (a - 128) + 128 * (b - 128) + d, 3) else none
  | [] => none
def tag2 (a : Nat) : List Nat → Option (Nat × Nat)
  | b :: r => if b < 128 then some (128 * (a - 128) + b, 2) else tag3 a b r
  | [] => none
def tagD : List Nat → Option (Nat × Nat)
  | a :: r => if a = 128 then none else if a < 128 then (if a < 31 then none else some (a, 1)) else tag2 a r
  | [] => none
def finD (x t m : Nat) (r : List Nat) : (Nat × Nat × Bool × Nat × Nat) ⊕ Int :=
  match lenD r with
  | .inl (l, n) => .inl (x / 64, t, decide (x / 32 % 2 = 1), l, m + n)
  | .inr e => .inr e
def decD : List Nat → (Nat × Nat × Bool × Nat × Nat) ⊕ Int
  | [] => .inr 5
  | x :: r => if x % 32 < 31 then finD x (x % 32) 1 r else
    match tagD r with
    | none => .inr 5
    | some (t, m) => finD x t (m + 1) (r.drop m)
theorem lenL_len (l : Nat) : (lenL l).length = if l < 128 then 1 else if l < 256 then 2 else 3 := by
  unfold lenL
  by_cases h1 : l < 128
  · rw [if_pos h1, if_pos h1]; rfl
  · rw [if_neg h1, if_neg h1]
    by_cases h2 : l < 256
    · rw [if_pos h2, if_pos h2]; rfl
    · rw [if_neg h2, if_neg h2]; rfl
theorem digL_len (t : Nat) : (digL t).length = if t < 128 then 1 else if t < 16384 then 2 else 3 := by
  unfold digL
  by_cases h1 : t < 128
  · rw [if_pos h1, if_pos h1]; rfl
  · rw [if_neg h1, if_neg h1]
    by_cases h2 : t < 16384
    · rw [if_pos h2, if_pos h2]; rfl
    · rw [if_neg h2, if_neg h2]; rfl
end Go.Proofs.Ytmcpfkgahmdkgaa.M
end
section
namespace Go.Proofs.Ytmcpfkgahmdkgaa.Pr
open Go
/-- As Q; by a goto: J of the label. -/
def jumpM (J : Nat → Act → World → Prop) (Q : Exit → Act → World → Prop) : Exit → Act → World → Prop
  | .goto l, a, w => J l a w
  | e, a, w => Q e a w
section
variable {P : Program} {a : Act} {w : World} {Q : Exit → Act → World → Prop}
theorem wp_scope_many {c : Code} (rest : Nat → Option Code) (J : Nat → Act → World → Prop) (μ : Nat → Act → World → Nat) (hf : ∀ l r, rest l = some r → findLabel c l = some r)
    (first : c.wp P (jumpM (fun l a w => (rest l).isSome ∧ J l a w) Q) a w)
    (pass : ∀ l r a w, rest l = some r → J l a w → r.wp P (jumpM (fun l' a' w' => (rest l').isSome ∧ J l' a' w' ∧ μ l' a' w' < μ l a w) Q) a w) : (Code.scope c).wp P Q a w := by
  intro b k cs
  have hg : ∀ l r, rest l = some r → gotoIn l (.inScope c :: k) = some (.code r :: .inScope c :: k) := fun l r h => by simp [gotoIn, hf l r h]
  have key : ∀ n l r a w, rest l = some r → μ l a w = n → J l a w → ∃ e a' w', Q e a' w' ∧ Arrives P (lone (b.at a (.code r :: .inScope c :: k)) cs w) b k cs e a' w' := by
    intro n
    induction n using Nat.strongRecOn with
    | _ n ih =>
      intro l r a w hr hn hJ
      obtain ⟨e, a₁, w₁, hq, harr⟩ := pass l r a w hr hJ b (.inScope c :: k) cs
      cases e with
      | normal => exact ⟨.normal, a₁, w₁, hq, Steps.trans harr (.one step_inScope)⟩
      | exit id => exact ⟨.exit id, a₁, w₁, hq, fun k' hk => harr k' (by simp [exitTo, hk])⟩
      | goto l' =>
        obtain ⟨hs, hJ', hlt⟩ := hq
        obtain ⟨r', hr'⟩ := Option.isSome_iff_exists.1 hs
        obtain ⟨e₂, a₂, w₂, hq₂, harr₂⟩ := ih _ (by omega) l' r' a₁ w₁ hr' rfl hJ'
        exact ⟨e₂, a₂, w₂, hq₂, .of_steps (harr _ (hg l' r' hr')) harr₂⟩
      | ret => exact ⟨_, a₁, w₁, hq, harr⟩
      | panic ch => exact ⟨_, a₁, w₁, hq, harr⟩
      | outgrown => exact ⟨_, a₁, w₁, hq, harr⟩
  obtain ⟨e, a₁, w₁, hq, harr⟩ := first b (.inScope c :: k) cs
  cases e with
  | normal => exact ⟨.normal, a₁, w₁, hq, .head step_scope (Steps.trans harr (.one step_inScope))⟩
  | exit id => exact ⟨.exit id, a₁, w₁, hq, fun k' hk => .head step_scope (harr k' (by simp [exitTo, hk]))⟩
  | goto l =>
    obtain ⟨hs, hJ'⟩ := hq
    obtain ⟨r', hr'⟩ := Option.isSome_iff_exists.1 hs
    obtain ⟨e₂, a₂, w₂, hq₂, harr₂⟩ := key _ l r' a₁ w₁ hr' rfl hJ'
    exact ⟨e₂, a₂, w₂, hq₂, .of_steps (.head step_scope (harr _ (hg l r' hr'))) harr₂⟩
  | ret => exact ⟨_, a₁, w₁, hq, .of_steps (.one step_scope) harr⟩
  | panic ch => exact ⟨_, a₁, w₁, hq, .of_steps (.one step_scope) harr⟩
  | outgrown => exact ⟨_, a₁, w₁, hq, .of_steps (.one step_scope) harr⟩
/-- The code behind a label. -/
def behind (c : Code) (l : Nat) : Option Code :=
  match findLabel c l with
  | some (.seq .skip r) => some r
  | _ => none
theorem behind_find {c r : Code} {l : Nat} (h : behind c l = some r) : findLabel c l = some (.seq .skip r) := by
  unfold behind at h
  split at h
  · rename_i e; rw [e, Option.some.inj h]
  · cases h
theorem jump_mono {J J' : Nat → Act → World → Prop} {Q : Exit → Act → World → Prop} (h : ∀ l a w, J l a w → J' l a w) (e : Exit) (a : Act) (w : World) (hj : jumpM J Q e a w) : jumpM J' Q e a w := by
  cases e with
  | goto l => exact h l a w hj
  | normal => exact hj
  | exit id => exact hj
  | ret => exact hj
  | panic c => exact hj
  | outgrown => exact hj
/-- The same, with the walk from a label of lower rank handed to the ways that come to it, by a jump or straight on. -/
theorem scope_fall {c : Code} (J : Nat → Act → World → Prop) (μ : Nat → Act → World → Nat)
    (pass : ∀ l r a w, behind c l = some r → J l a w →
      (∀ l' r' a' w', behind c l' = some r' → J l' a' w' → μ l' a' w' < μ l a w → r'.wp P (jumpM (fun k b v => (behind c k).isSome ∧ J k b v ∧ μ k b v < μ l a w) Q) a' w') →
      r.wp P (jumpM (fun k b v => (behind c k).isSome ∧ J k b v ∧ μ k b v < μ l a w) Q) a w)
    (first : (∀ l r a w, behind c l = some r → J l a w → r.wp P (jumpM (fun k b v => (behind c k).isSome ∧ J k b v) Q) a w) →
      c.wp P (jumpM (fun k b v => (behind c k).isSome ∧ J k b v) Q) a w) : (Code.scope c).wp P Q a w := by
  have all : ∀ n l r a w, μ l a w = n → behind c l = some r → J l a w → r.wp P (jumpM (fun k b v => (behind c k).isSome ∧ J k b v ∧ μ k b v < n) Q) a w := by
    intro n
    induction n using Nat.strongRecOn with
    | _ n ih =>
      intro l r a w hn hr hJ
      subst hn
      exact pass l r a w hr hJ (fun l' r' a' w' hr' hJ' hlt => wp_mono (ih _ hlt l' r' a' w' rfl hr' hJ') (jump_mono (fun k b v h => ⟨h.1, h.2.1, Nat.lt_trans h.2.2 hlt⟩)))
  have hs : ∀ k, (behind c k).isSome = ((behind c k).map (Code.seq .skip)).isSome := fun k => by cases behind c k <;> rfl
  refine wp_scope_many (fun l => (behind c l).map (Code.seq .skip)) J μ ?_ ?_ ?_
  · intro l r hr
    cases h : behind c l with
    | none => simp [h] at hr
    | some r0 =>
      simp [h] at hr
      rw [behind_find h, hr]
  · exact wp_mono (first (fun l r a w hr hJ => wp_mono (all _ l r a w rfl hr hJ) (jump_mono (fun k b v h => ⟨h.1, h.2.1⟩)))) (jump_mono (fun k b v h => ⟨by rw [← hs k]; exact h.1, h.2⟩))
  · intro l r a w hr hJ
    cases h : behind c l with
    | none => simp [h] at hr
    | some r0 =>
      simp [h] at hr
      rw [← hr]
      exact wp_seq (wp_skip (wp_mono (all _ l r0 a w rfl h hJ) (jump_mono (fun k b v h => ⟨by rw [← hs k]; exact h.1, h.2⟩))))
end
end Go.Proofs.Ytmcpfkgahmdkgaa.Pr
end
