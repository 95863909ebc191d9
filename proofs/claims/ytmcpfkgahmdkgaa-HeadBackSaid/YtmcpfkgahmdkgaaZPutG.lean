-- several texts in one (by the session's program shake.py)
import Derived.Test.YtmcpfkgahmdkgaaZScopes
import Derived.Test.YtmcpfkgahmdkgaaZPut
section
namespace Go.Proofs.Ytmcpfkgahmdkgaa.Pr
open Go.RowKit Go.Proofs.YtmcpfkgahmdkgaaW.PrintWords Go.Proofs.YtmcpfkgahmdkgaaW.PrintLast Go.Proofs.YtmcpfkgahmdkgaaW.PrintMore
attribute [local go_sem] max2_int min2_int max_two min_two max_three min_three max_four min_four   -- for this text's walks alone
set_option linter.unusedVariables false
set_option linter.unusedSimpArgs false

def octets_Cut.f (a0 : ByteArray) (a1 : Int) (a2 : Int) : Option (ByteArray) := if a1 < 0 then (some (⟨#[]⟩ : ByteArray)) else (if a1 ≥ (a0.size : Int) then (some (⟨#[]⟩ : ByteArray)) else (if a2 < 1 then (some (⟨#[]⟩ : ByteArray)) else (if 0 ≤ a1 then (if a1 ≤ (wrap64 (a1 + (mn a2 (wrap64 ((a0.size : Int) - a1))))) then (if (wrap64 (a1 + (mn a2 (wrap64 ((a0.size : Int) - a1))))) ≤ (a0.size : Int) then (some (a0.extract (a1 : Int).toNat ((wrap64 (a1 + (mn a2 (wrap64 ((a0.size : Int) - a1))))) : Int).toNat)) else (none)) else (none)) else (none))))
mutual
def clavigerref01_Put.j0 : Nat → Int → Int → Bool → Option (ByteArray)
 | 0, _, _, _ => none
 | k + 1, x0, x1, x12 => if x12 = true then (some (⟨#[]⟩ : ByteArray)) else (clavigerref01_Put.l0 k x0 x1 (⟨#[]⟩ : ByteArray) 0)
def clavigerref01_Put.l0 : Nat → Int → Int → ByteArray → Int → Option (ByteArray)
 | 0, _, _, _, _ => none
 | k + 1, x0, x1, x5, x6 => if x6 < x1 then ((some (([(Int.tmod x0 256) % 256] : List Int) : List Int)).bind fun y1 => (if (strOfNums y1).size + x5.size ≤ 9223372036854775807 then (clavigerref01_Put.l0 k (IntKind.u64.wrap (Int.tdiv x0 256)) x1 ((strOfNums y1) ++ x5) (wrap64 (x6 + 1))) else (none))) else (some x5)
end
def clavigerref01_Put.f (k : Nat) (a0 : Int) (a1 : Int) : Option (ByteArray) := if a1 < 1 then (clavigerref01_Put.j0 k a0 a1 true) else (clavigerref01_Put.j0 k a0 a1 (decide (a1 > 8)))
theorem clavigerref01_Put.mono_l : ∀ k, (∀ y2 y3 y4, LeO (clavigerref01_Put.j0 k y2 y3 y4) (clavigerref01_Put.j0 (k + 1) y2 y3 y4)) ∧ (∀ y2 y3 y4 y5, LeO (clavigerref01_Put.l0 k y2 y3 y4 y5) (clavigerref01_Put.l0 (k + 1) y2 y3 y4 y5))
 | 0 => ⟨fun _ _ _ r h => by simp [clavigerref01_Put.j0] at h, fun _ _ _ _ r h => by simp [clavigerref01_Put.l0] at h⟩
 | k + 1 => by
  obtain ⟨ih0, ih1⟩ := clavigerref01_Put.mono_l k
  refine ⟨?_, ?_⟩
  ·intro y2 y3 y4
   unfold clavigerref01_Put.j0
   repeat' first
   | (with_reducible exact ih0 _ _ _)
   | (with_reducible exact ih1 _ _ _ _)
   | (with_reducible exact LeO.refl _)
   | (with_reducible exact LeO.none _)
   | (with_reducible refine LeO.ite ?_ ?_)
   | (with_reducible refine LeO.bind ?_ (fun _ => ?_))
  ·intro y2 y3 y4 y5
   unfold clavigerref01_Put.l0
   repeat' first
   | (with_reducible exact ih0 _ _ _)
   | (with_reducible exact ih1 _ _ _ _)
   | (with_reducible exact LeO.refl _)
   | (with_reducible exact LeO.none _)
   | (with_reducible refine LeO.ite ?_ ?_)
   | (with_reducible refine LeO.bind ?_ (fun _ => ?_))
theorem clavigerref01_Put.mono : ∀ a0 a1 k, LeO (clavigerref01_Put.f k a0 a1) (clavigerref01_Put.f (k + 1) a0 a1) := by
 intro a0 a1 k
 obtain ⟨ih0, ih1⟩ := clavigerref01_Put.mono_l k
 unfold clavigerref01_Put.f
 repeat' first
   | (with_reducible exact ih0 _ _ _)
   | (with_reducible exact ih1 _ _ _ _)
   | (with_reducible exact LeO.refl _)
   | (with_reducible exact LeO.none _)
   | (with_reducible refine LeO.ite ?_ ?_)
   | (with_reducible refine LeO.bind ?_ (fun _ => ?_))
mutual
def clavigerref01_Get.j0 : Nat → ByteArray → Bool → Option (Int × Bool)
 | 0, _, _ => none
 | k + 1, x0, x13 => if x13 = true then (some (0, false)) else (clavigerref01_Get.l0 k x0 0 0)
def clavigerref01_Get.l0 : Nat → ByteArray → Int → Int → Option (Int × Bool)
 | 0, _, _, _ => none
 | k + 1, x0, x4, x5 => if x5 < (x0.size : Int) then (if 0 ≤ x5 then (clavigerref01_Get.l0 k x0 (IntKind.u64.wrap ((IntKind.u64.wrap (x4 * 256)) + (IntKind.u64.wrap (bt x0 x5)))) (wrap64 (x5 + 1))) else (none)) else (some (x4, true))
end
def clavigerref01_Get.f (k : Nat) (a0 : ByteArray) : Option (Int × Bool) := if (a0.size : Int) < 1 then (clavigerref01_Get.j0 k a0 true) else (clavigerref01_Get.j0 k a0 (decide ((a0.size : Int) > 8)))
theorem clavigerref01_Get.mono_l : ∀ k, (∀ y1 y2, LeO (clavigerref01_Get.j0 k y1 y2) (clavigerref01_Get.j0 (k + 1) y1 y2)) ∧ (∀ y1 y2 y3, LeO (clavigerref01_Get.l0 k y1 y2 y3) (clavigerref01_Get.l0 (k + 1) y1 y2 y3))
 | 0 => ⟨fun _ _ r h => by simp [clavigerref01_Get.j0] at h, fun _ _ _ r h => by simp [clavigerref01_Get.l0] at h⟩
 | k + 1 => by
  obtain ⟨ih0, ih1⟩ := clavigerref01_Get.mono_l k
  refine ⟨?_, ?_⟩
  ·intro y1 y2
   unfold clavigerref01_Get.j0
   repeat' first
   | (with_reducible exact ih0 _ _)
   | (with_reducible exact ih1 _ _ _)
   | (with_reducible exact LeO.refl _)
   | (with_reducible exact LeO.none _)
   | (with_reducible refine LeO.ite ?_ ?_)
   | (with_reducible refine LeO.bind ?_ (fun _ => ?_))
  ·intro y1 y2 y3
   unfold clavigerref01_Get.l0
   repeat' first
   | (with_reducible exact ih0 _ _)
   | (with_reducible exact ih1 _ _ _)
   | (with_reducible exact LeO.refl _)
   | (with_reducible exact LeO.none _)
   | (with_reducible refine LeO.ite ?_ ?_)
   | (with_reducible refine LeO.bind ?_ (fun _ => ?_))
theorem clavigerref01_Get.mono : ∀ a0 k, LeO (clavigerref01_Get.f k a0) (clavigerref01_Get.f (k + 1) a0) := by
 intro a0 k
 obtain ⟨ih0, ih1⟩ := clavigerref01_Get.mono_l k
 unfold clavigerref01_Get.f
 repeat' first
   | (with_reducible exact ih0 _ _)
   | (with_reducible exact ih1 _ _ _)
   | (with_reducible exact LeO.refl _)
   | (with_reducible exact LeO.none _)
   | (with_reducible refine LeO.ite ?_ ?_)
   | (with_reducible refine LeO.bind ?_ (fun _ => ?_))
mutual
def octets_Get.j0 : Nat → ByteArray → Bool → Option (Int × Bool)
 | 0, _, _ => none
 | k + 1, x0, x13 => if x13 = true then (some (0, false)) else (octets_Get.l0 k x0 0 (x0.size : Int) 0)
def octets_Get.l0 : Nat → ByteArray → Int → Int → Int → Option (Int × Bool)
 | 0, _, _, _, _ => none
 | k + 1, x0, x4, x15, x16 => if x16 < x15 then (if 0 ≤ x16 then (if x16 < (x0.size : Int) then (octets_Get.l0 k x0 (Go.bits .or .u64 (IntKind.u64.wrap (x4 * 256)) (IntKind.u64.wrap (bt x0 x16))) x15 (wrap64 (x16 + 1))) else (none)) else (none)) else (some (x4, true))
end
def octets_Get.f (k : Nat) (a0 : ByteArray) : Option (Int × Bool) := if (a0.size : Int) = 0 then (octets_Get.j0 k a0 true) else (octets_Get.j0 k a0 (decide ((a0.size : Int) > 8)))
theorem octets_Get.mono_l : ∀ k, (∀ y1 y2, LeO (octets_Get.j0 k y1 y2) (octets_Get.j0 (k + 1) y1 y2)) ∧ (∀ y1 y2 y3 y4, LeO (octets_Get.l0 k y1 y2 y3 y4) (octets_Get.l0 (k + 1) y1 y2 y3 y4))
 | 0 => ⟨fun _ _ r h => by simp [octets_Get.j0] at h, fun _ _ _ _ r h => by simp [octets_Get.l0] at h⟩
 | k + 1 => by
  obtain ⟨ih0, ih1⟩ := octets_Get.mono_l k
  refine ⟨?_, ?_⟩
  ·intro y1 y2
   unfold octets_Get.j0
   repeat' first
   | (with_reducible exact ih0 _ _)
   | (with_reducible exact ih1 _ _ _ _)
   | (with_reducible exact LeO.refl _)
   | (with_reducible exact LeO.none _)
   | (with_reducible refine LeO.ite ?_ ?_)
   | (with_reducible refine LeO.bind ?_ (fun _ => ?_))
  ·intro y1 y2 y3 y4
   unfold octets_Get.l0
   repeat' first
   | (with_reducible exact ih0 _ _)
   | (with_reducible exact ih1 _ _ _ _)
   | (with_reducible exact LeO.refl _)
   | (with_reducible exact LeO.none _)
   | (with_reducible refine LeO.ite ?_ ?_)
   | (with_reducible refine LeO.bind ?_ (fun _ => ?_))
theorem octets_Get.mono : ∀ a0 k, LeO (octets_Get.f k a0) (octets_Get.f (k + 1) a0) := by
 intro a0 k
 obtain ⟨ih0, ih1⟩ := octets_Get.mono_l k
 unfold octets_Get.f
 repeat' first
   | (with_reducible exact ih0 _ _)
   | (with_reducible exact ih1 _ _ _ _)
   | (with_reducible exact LeO.refl _)
   | (with_reducible exact LeO.none _)
   | (with_reducible refine LeO.ite ?_ ?_)
   | (with_reducible refine LeO.bind ?_ (fun _ => ?_))
end Go.Proofs.Ytmcpfkgahmdkgaa.Pr
end
section
namespace Go.Proofs.Ytmcpfkgahmdkgaa.M
open Go.RowKit Go.Proofs.Ytmcpfkgahmdkgaa.Pr Go.Proofs.YtmcpfkgahmdkgaaW.PrintWords Go.Proofs.YtmcpfkgahmdkgaaW.PrintLast Go.Proofs.YtmcpfkgahmdkgaaW.PrintMore
set_option linter.unusedSimpArgs false
theorem evu {α : Type} {g : Nat → Option α} {r : α} (h : Ev (fun k => g (k + 1)) r) : Ev g r := Ev.step (f := fun k => g (k + 1)) (fun _ => rfl) h
end Go.Proofs.Ytmcpfkgahmdkgaa.M
end
