-- several texts in one (by the session's program shake.py)
import Derived.Test.YtokkhnjedmlbhaaZPrg01x
import Derived.Test.YtokkhnjedmlbhaaZAesD
import Derived.Test.YtokkhnjedmlbhaaZShelf
import Derived.Test.YtokkhnjedmlbhaaZPrg08
section
namespace Go.Proofs.Ytokkhnjedmlbhaa.Pr
open Go.RowKit Go.Proofs.YtokkhnjedmlbhaaW.PrintWords Go.Proofs.YtokkhnjedmlbhaaW.PrintLast Go.Proofs.YtokkhnjedmlbhaaW.PrintMore Go.Proofs.YtokkhnjedmlbhaaHw
/-- A row of texts in block g. -/
def StrRow (w : World) (g : Nat) (ps : List ByteArray) : Prop := ∃ cur, w.heap[g]? = some (.cells cur 9 (0, 0)) ∧ ∀ (j : Nat) x, ps[j]? = some x → cur[j]? = some (.string x)
theorem StrRow.same {w w1 : World} {g : Nat} {ps : List ByteArray} (h : StrRow w g ps) (he : w1.heap[g]? = w.heap[g]?) : StrRow w1 g ps := by
  obtain ⟨cur, h1, h2⟩ := h
  exact ⟨cur, he.trans h1, h2⟩
theorem StrRow.lt {w : World} {g : Nat} {ps : List ByteArray} (h : StrRow w g ps) : g < w.heap.size := by
  obtain ⟨cur, h1, _⟩ := h
  exact blk_lt h1
theorem StrRow.below {w w1 : World} {g : Nat} {ps : List ByteArray} (h : StrRow w g ps) (hb : Below w.heap.size w w1) : StrRow w1 g ps := h.same (hb.block g h.lt)
theorem StrRow.cell {w : World} {g : Nat} {ps : List ByteArray} (h : StrRow w g ps) (j : Nat) (x : ByteArray) (hj : ps[j]? = some x) : w.cell? ⟨g, j, none⟩ = some (.string x) := by
  obtain ⟨cur, h1, h2⟩ := h
  rw [blk_cell h1]; exact h2 j x hj
theorem StrRow.of_R {w : World} {base : Nat} {ok : Nat → Prop} {v : Value} {ps : List ByteArray} (h : Kd.R Kd.string 9 w base ok v ps) (hn : 0 < ps.length) : ∃ g cap, v = .slice (some ⟨g, 0, none⟩) ps.length cap ∧ base ≤ g ∧ StrRow w g ps := by
  obtain ⟨g, cap, rfl, hb, hlt, cells, hc⟩ := Kd.R_form h hn
  refine ⟨g, cap, rfl, hb, cells, hc, fun j x hj => ?_⟩
  obtain ⟨hjl, hx⟩ := List.getElem?_eq_some_iff.1 hj
  have := (Kd.R_cell (enc := Value.string) (h1 := fun _ => rfl) ByteArray.empty h (j : Int) (by omega) (by omega)).1
  rw [Int.toNat_natCast, blk_cell hc] at this
  rw [this]
  simp [rdOf, hjl, hx]
theorem StrRow.alloc {w : World} {g : Nat} {ps : List ByteArray} (h : StrRow w g ps) (o : Obj) : StrRow (w.alloc o) g ps := h.same (heap_alloc_old _ _ h.lt)
theorem StrRow.drewN {w : World} {g : Nat} {ps : List ByteArray} (h : StrRow w g ps) (n : Nat) : StrRow (w.drewN n) g ps := h
/-- It is no row of words. -/
theorem StrRow.grown {w w1 : World} {g : Nat} {ps : List ByteArray} {base n : Nat} {v : Value} {xs : List Value} (h : StrRow w g ps) (ho : w.ownsRow base 102 1 v n xs) (hg : w.grownBy w1 v.ownBlock) : StrRow w1 g ps := by
  refine h.same (hg.block g h.lt (fun e => ?_))
  obtain ⟨cells, hc⟩ := own_typed ho g e.symm
  obtain ⟨cur, h1, _⟩ := h
  rw [hc] at h1
  simp at h1
def nums32 (ws : List Int) : List Value := ws.map (Value.int .u32)
def expL1 (k : Nat) : List ByteArray → List Int → Option (List Int)
  | [], ws => some ws
  | s :: ss, ws => (octets_Get.f k s).bind fun b => expL1 k ss (ws ++ [b.1 % 4294967296])
def rotw (t : Int) : Int := Go.bits .or .u32 (t * 256 % 4294967296) (t / 16777216)
def expL2 (tb : ByteArray) (n : Nat) : Nat → Nat → Int → List Int → Option (List Int)
  | 0, _, _, ws => some ws
  | d + 1, i, c, ws =>
    if 0 ≤ rd ws ((i : Int) - 1) then if rd ws ((i : Int) - 1) < 4294967296 then
      if i % n = 0 then (field_Twice.f (c % 256)).bind fun c2 => expL2 tb n d (i + 1) (c2 % 4294967296) (ws ++ [Go.bits .xor .u32 (rd ws ((i : Int) - n)) (Go.bits .xor .u32 (subW tb (rotw (rd ws ((i : Int) - 1)))) (c * 16777216 % 4294967296))])
      else if n = 8 ∧ i % 8 = 4 then expL2 tb n d (i + 1) c (ws ++ [Go.bits .xor .u32 (rd ws ((i : Int) - n)) (subW tb (rd ws ((i : Int) - 1)))])
      else expL2 tb n d (i + 1) c (ws ++ [Go.bits .xor .u32 (rd ws ((i : Int) - n)) (rd ws ((i : Int) - 1))])
    else none else none
/-- The words of a key of 4n bytes. -/
def expF (k n : Nat) (a : ByteArray) : Option (List Int) :=
  (sbox_Table.f k).bind fun tb => if tb.size = 256 then (octets_Pieces.f k a 4).bind fun ps => if ps.length = n then (expL1 k ps []).bind fun ws => if ws.length = n then expL2 tb n (3 * n + 28) n 1 ws else none else none else none
theorem bits_u32 (op : BinOp) (x y : Int) : 0 ≤ Go.bits op .u32 x y ∧ Go.bits op .u32 x y < 4294967296 := by
  unfold Go.bits
  rw [IntKind.wrap_u32]
  omega

set_option maxHeartbeats 2000000 in
set_option maxRecDepth 100000 in
theorem expand_16 (k : Nat) (a : ByteArray) (r : List Int) (w : World) (ha : a.size = 16) (h : expF k 4 a = some r) :
    Calls Try.prog 188 #[.string a] w fun e w' => ∃ v0_ : Value, e = .returned v0_ ∧ Kd.R (Kd.int .u32) 102 w' w.heap.size (fun _ => True) v0_ r ∧ Below w.heap.size w w' := by
  unfold expF at h
  replace h := Option.bind_eq_some_iff.1 h
  obtain ⟨tb, htb, h⟩ := h
  split at h
  case isFalse => cases h
  case isTrue hts =>
  replace h := Option.bind_eq_some_iff.1 h
  obtain ⟨ps, hps, h⟩ := h
  split at h
  case isFalse => cases h
  case isTrue hpl =>
  replace h := Option.bind_eq_some_iff.1 h
  obtain ⟨ws, hws, h⟩ := h
  split at h
  case isFalse => cases h
  case isTrue hwl =>
  have HTB := Aside0.mk htb
  have HTS := Aside0.mk hts
  have HPS := Aside0.mk hps
  have HPL := Aside0.mk hpl
  have HWS := Aside0.mk hws
  have HWL := Aside0.mk hwl
  have HX : Aside0 (expL2 tb 4 (44 - 4) 4 1 ws = some r) := ⟨(congrArg (fun z => expL2 tb 4 z 4 1 ws) (show 44 - 4 = 3 * 4 + 28 by decide)).trans h⟩
  have HR : Aside0 (sched_Rounds.f 16 = some 10) := ⟨by unfold sched_Rounds.f wrap64; rfl⟩
  clear htb hts hps hpl hws hwl h
  have hmf : ∀ (fn : Fn) (first cap : Array Value) (w : World), (Instr.makeFunc fn first cap).run Try.prog w = .ok (.func fn first cap) w := fun _ _ _ _ => rfl
  obtain ⟨i0, hi, hz0, hz1, hz2⟩ := info_parts (by kernel_rfl : (Try.prog.info? 102).map (fun i => (i.zero, i.size, i.bytes)) = some (some (.int .u32 0), 1, 4))
  have hmk : ∀ W : World, (Instr.makeSlice 100 (.int .i64 0) (.int .i64 44)).run Try.prog W = .ok (.slice (some ⟨W.heap.size, 0, none⟩) 0 44) (W.alloc (.cells (madeCells #[.int .u32 0] 44) 102)) := fun W => by
    have h := run_make (P := Try.prog) W 100 102 i0 (.int .u32 0) Try.underlying100 hi hz0 .i64 .i64 0 44 (by omega) (by omega) (by rw [hz2]; omega) (by omega)
    rw [hz1] at h
    exact h
  go_enter Try.func188, Try.ntmps188
  go_wp2_with (first | (go_at_call 88; (with_reducible refine (sched_Rounds.calls 16 10 _ HR.out).mono ?_); rintro e w1 ⟨rfl, hd⟩; obtain ⟨n1, rfl⟩ := hd.out; clear hd) | (go_at_call 70; (with_reducible refine (sbox_Table.calls k tb _ HTB.out).mono ?_); rintro e w2 ⟨rfl, hb2⟩))
  obtain ⟨W3, hW3⟩ : ∃ W3, W3 = (w2.alloc (.cells #[.string tb] 9)).alloc (.cells (madeCells #[.int .u32 0] 44) 102) := ⟨_, rfl⟩
  have hT : StrRow W3 w2.heap.size [tb] := by
    subst hW3
    refine ⟨#[.string tb], ?_, fun j x hj => ?_⟩
    · exact (heap_alloc_old _ _ (by simp)).trans (heap_alloc_new w2 _)
    · cases j with
      | zero => simpa using hj
      | succ j => simp at hj
  have hO : W3.ownsRow w.heap.size 102 1 (.slice (some ⟨w2.heap.size + 1, 0, none⟩) 0 44) 0 [] := by
    subst hW3
    have h := World.ownsRow_made (base := w.heap.size) (e := 102) (size := 1) (w2.alloc (.cells #[.string tb] 9)) (madeCells #[.int .u32 0] 44) 44 (by have := hb2.size; simp at this ⊢; omega) (by simp [maxLen]) (by simp [size_madeCells])
    simpa using h
  have hBW : Below w.heap.size w W3 := by
    subst hW3
    exact below_alloc (below_alloc ((pw_below_drewN (Below.refl _ _) n1).trans hb2) _) _
  rw [← hW3]
  have HT := Aside0.mk hT
  have HO := Aside0.mk hO
  have HB1 := Aside0.mk hBW
  clear hb2 hT hO hBW hW3 hmk hmf
  generalize w2.heap.size = tk at *
  go_wp2_with (go_at_call 186; (with_reducible refine (octets_Pieces.calls k a 4 ps _ HPS.out).mono ?_); rintro e w4 ⟨v0, rfl, hR, hb4⟩; obtain ⟨g, cap, rfl, hgb, hS⟩ := StrRow.of_R hR (by rw [HPL.out]; omega); have HO4 := Aside0.mk (own_move HO.out (fun q hq => hb4.block q (HO.out.lt q hq).2)); have HT4 := Aside0.mk (HT.out.below hb4); have HS4 := Aside0.mk hS; have HB4 := Aside0.mk (HB1.out.trans (hb4.mono HB1.out.size)); clear hR hb4 hgb hS)
  clear HT HO HB1 HPS HTB HR
  go_loopw [7, 32] (fun v i wr => ∃ (j : Nat) (xs : List Int), j ≤ ps.length ∧ xs.length ≤ j ∧ i = .int .i64 j ∧ Aside0 (expL1 k (ps.drop j) xs = some ws) ∧ Aside0 (wr.ownsRow w.heap.size 102 1 v xs.length (nums32 xs)) ∧ Aside0 (StrRow wr tk [tb]) ∧ Aside0 (StrRow wr g ps) ∧ Aside0 (Below w.heap.size w wr)) (fun _ i _ => ps.length - (intOf i).toNat)
  case atStart => exact ⟨0, [], Nat.zero_le _, by simp, rfl, HWS, HO4, HT4, HS4, HB4⟩
  case round =>
    clear HWS HO4 HT4 HS4 HB4
    obtain ⟨j, xs, hj, hxj, rfl, HE, HO, HT, HS, HB⟩ := hrel
    by_cases hlt : j < ps.length
    · have hj4 : j < 4 := by have := HPL.out; omega
      have he := HE.out
      rw [List.drop_eq_getElem_cons hlt] at he
      simp only [expL1] at he
      replace he := Option.bind_eq_some_iff.1 he
      obtain ⟨⟨b1, b2⟩, hg, he⟩ := he
      have HG := Aside0.mk hg
      have HE1 := Aside0.mk he
      have hc : wr.cell? ⟨g, j, none⟩ = some (.string (ps[j]'hlt)) := HS.out.cell j _ (List.getElem?_eq_getElem hlt)
      clear he hg HE
      go_wp2_with (go_at_call 195; (with_reducible refine (octets_Get.calls k _ b1 b2 _ HG.out).mono ?_))
      rintro e w5 rfl hd
      obtain ⟨n5, rfl⟩ := hd.out
      clear hd hc
      have hown : (wr.drewN n5).ownsRow w.heap.size 102 1 u7 xs.length (nums32 xs) := HO.out
      go_wp2_with (at_builtin; refine wpList_append_own _ rfl _ _ 100 rfl w.heap.size 102 i0 (.int .u32 0) 1 4 Try.underlying100 hi hz0 hz1 hz2 rfl (by decide) _ _ _ rfl (hown.alloc _) ⟨wr.heap.size, 0, none⟩ 1 1 [.int .u32 (b1 % 4294967296)] rfl rfl ?c1 ?c2 ?c3 ?c4 ?c5 ?_)
      case c1 => exact World.news_of_block (cs := #[.int .u32 (b1 % 4294967296)]) (t := 102) (fr := (0, 0)) (heap_alloc_new (wr.drewN n5) _)
      case c2 => intro u hu; simp at hu; subst hu; rfl
      case c3 => have := HPL.out; unfold maxLen; omega
      case c4 => have := HPL.out; omega
      case c5 => have := HB.out.size; simp; omega
      intro v6 w6 hown6 hgrow _
      have HO6 : Aside0 (w6.ownsRow w.heap.size 102 1 v6 (xs ++ [b1 % 4294967296]).length (nums32 (xs ++ [b1 % 4294967296]))) := ⟨by simpa [nums32] using hown6⟩
      have HT6 : Aside0 (StrRow w6 tk [tb]) := ⟨StrRow.grown (StrRow.alloc (StrRow.drewN HT.out n5) _) (hown.alloc _) hgrow⟩
      have HS6 : Aside0 (StrRow w6 g ps) := ⟨StrRow.grown (StrRow.alloc (StrRow.drewN HS.out n5) _) (hown.alloc _) hgrow⟩
      have HB6 : Aside0 (Below w.heap.size w w6) := ⟨((pw_below_drewN HB.out n5).alloc HB.out.size _).grown hgrow (by have := HB.out.size; simp; omega) (fun q hq => (HO.out.lt q hq).1)⟩
      clear hown6 hgrow hown HO HT HS HB HG
      go_wp2
      exact ⟨⟨j + 1, xs ++ [b1 % 4294967296], hlt, by simp; omega, by go_num, HE1, HO6, HT6, HS6, HB6⟩, by simp [intOf]; omega⟩
    · obtain rfl : j = ps.length := by omega
      have he := HE.out
      rw [List.drop_length] at he
      have he2 : xs = ws := by simpa [expL1] using he
      subst he2
      have hxl := HWL.out
      have HLEN := Aside0.mk hxl
      clear he HE hxj HWL HS
      have hpl := HPL.out
      rw [hxl] at HO
      go_wp2
      clear hlt hj hxl hpl HPL
      go_loopw [7, 12, 13] (fun v cv i wr => ∃ (j : Nat) (c : Int) (ys : List Int), 4 ≤ j ∧ j ≤ 44 ∧ cv = .int .u32 c ∧ i = .int .i64 j ∧ 0 ≤ c ∧ c < 4294967296 ∧ Aside0 (ys.length = j) ∧ Aside0 (expL2 tb 4 (44 - j) j c ys = some r) ∧ Aside0 (wr.ownsRow w.heap.size 102 1 v j (nums32 ys)) ∧ Aside0 (StrRow wr tk [tb]) ∧ Aside0 (Below w.heap.size w wr)) (fun _ _ i _ => 44 - (intOf i).toNat)
      case atStart => exact ⟨4, 1, xs, by omega, by omega, rfl, rfl, by omega, by omega, HLEN, HX, HO, HT, HB⟩
      case round =>
        clear HX HO HT HB HLEN
        obtain ⟨j, c, ys, hj1, hj2, rfl, rfl, hc0, hc1, HL, HE, HO, HT, HB⟩ := hrel
        by_cases hlt : j < 44
        · obtain ⟨gw, cap, rfl, hgb, hgl⟩ := HO.out.form (by omega)
          have he := HE.out
          rw [show 44 - j = (44 - (j + 1)) + 1 by omega] at he
          simp only [expL2] at he
          split at he
          case isFalse => cases he
          case isTrue h0 =>
          split at he
          case isFalse => cases he
          case isTrue h1 =>
          have HC := own_at HO.out ((j : Int) - 1) (by omega) (by omega)
          have HD := own_at HO.out ((j : Int) - 4) (by omega) (by omega)
          generalize hp : rd ys ((j : Int) - 1) = p at *
          generalize hq : rd ys ((j : Int) - 4) = q at *
          clear hp hq
          have hcell := HC.1
          have hcelq := HD.1
          have hjn : ((j : Int) - 1).toNat = j - 1 := by omega
          have hjq : ((j : Int) - 4).toNat = j - 4 := by omega
          rw [hjn] at hcell
          rw [hjq] at hcelq
          clear hjn hjq HC HD HE
          have hct := HT.out.cell 0 tb rfl
          have ho1 := bits_u32 .or (p * 256 % 4294967296) (p / 16777216)
          have HO1 := Aside0.mk ho1
          have HCT := Aside0.mk hct
          clear ho1 hct
          have HO2 : Aside0 (∀ m, (wr.drewN m).ownsRow w.heap.size 102 1 (.slice (some ⟨gw, 0, none⟩) j cap) ys.length (nums .u32 ys)) := ⟨fun m => by rw [HL.out]; exact HO.out⟩
          have HB2 : Aside0 (∀ m, Below w.heap.size w (wr.drewN m)) := ⟨fun m => pw_below_drewN HB.out m⟩
          have HZ : Aside0 (∀ m, w.heap.size ≤ (wr.drewN m).heap.size) := ⟨fun m => HB.out.size⟩
          have HT2 : Aside0 (∀ m, StrRow (wr.drewN m) tk [tb]) := ⟨fun m => HT.out⟩
          have HI : Aside0 ((Try.prog.info? 102).map (fun i => (i.zero, i.size, i.bytes)) = some (some (.int .u32 0), 1, 4)) := ⟨by kernel_rfl⟩
          clear HO HB HT
          by_cases hm : j % 4 = 0
          · rw [if_pos hm] at he
            replace he := Option.bind_eq_some_iff.1 he
            obtain ⟨c2, htw, he⟩ := he
            have HTW := Aside0.mk htw
            have HE1 := Aside0.mk he
            clear htw he
            go_wp2_with (first | (go_at_call 221; (with_reducible refine (subW_calls tk tb _ _ HCT.out HTS.out HO1.out.1 HO1.out.2).mono ?_); rintro e w5 ⟨rfl, hd⟩; obtain ⟨n5, rfl⟩ := hd.out; clear hd) | (go_at_call 41; (with_reducible refine (field_Twice.calls _ c2 _ HTW.out).mono ?_); rintro e w6 ⟨rfl, hd⟩; obtain ⟨n6, rfl⟩ := hd.out; clear hd) | (at_builtin; refine print_append_num (w0 := w) w.heap.size rfl _ _ 100 102 .u32 4 rfl Try.underlying100 HI.out (by decide) (.slice (some ⟨gw, 0, none⟩) j cap) ys (Go.bits .xor .u32 q (Go.bits .xor .u32 (subW tb (rotw p)) (c * 16777216 % 4294967296))) rfl rfl (HO2.out _) (HB2.out _) (HZ.out _) (by have := HL.out; omega) ?_))
            intro v1 w1 hown1 hB1 hgrow _
            have HT3 : Aside0 (StrRow w1 tk [tb]) := ⟨StrRow.grown (HT2.out _) (HO2.out _) hgrow⟩
            have HL3 : Aside0 ((ys ++ [Go.bits .xor .u32 q (Go.bits .xor .u32 (subW tb (rotw p)) (c * 16777216 % 4294967296))]).length = j + 1) := ⟨by have := HL.out; simp; omega⟩
            have HO3 : Aside0 (w1.ownsRow w.heap.size 102 1 v1 (j + 1) (nums32 (ys ++ [Go.bits .xor .u32 q (Go.bits .xor .u32 (subW tb (rotw p)) (c * 16777216 % 4294967296))]))) := ⟨by have h := hown1; rw [HL.out] at h; exact h⟩
            have HB3 := Aside0.mk hB1
            clear hown1 hB1 hgrow HO2 HB2 HT2 HI HZ HL
            go_wp2
            exact ⟨⟨j + 1, c2 % 4294967296, _, by omega, by omega, rfl, by go_num, by omega, by omega, HL3, HE1, HO3, HT3, HB3⟩, by simp [intOf]; omega⟩
          · rw [if_neg hm] at he
            by_cases h8 : 4 = 8 ∧ j % 8 = 4
            · exact absurd h8.1 (by decide)
            · rw [if_neg (by have h9 : ¬ (4 = 8 ∧ j % 8 = 4) := h8; first | (simp; done) | simpa using h9)] at he
              have HE1 := Aside0.mk he
              clear he
              have HO4 : Aside0 (wr.ownsRow w.heap.size 102 1 (.slice (some ⟨gw, 0, none⟩) j cap) ys.length (nums .u32 ys)) := ⟨HO2.out 0⟩
              have HB4 : Aside0 (Below w.heap.size w wr) := ⟨HB2.out 0⟩
              have HZ4 : Aside0 (w.heap.size ≤ wr.heap.size) := ⟨HZ.out 0⟩
              have HT4 : Aside0 (StrRow wr tk [tb]) := ⟨HT2.out 0⟩
              go_wp2_with ((at_builtin; refine print_append_num  (w0 := w) w.heap.size rfl _ _ 100 102 .u32 4 rfl Try.underlying100 HI.out (by decide) (.slice (some ⟨gw, 0, none⟩) j cap) ys (Go.bits .xor .u32 q p) rfl rfl HO4.out HB4.out HZ4.out (by have := HL.out; omega) ?_))
              intro v1 w1 hown1 hB1 hgrow _
              have HT3 : Aside0 (StrRow w1 tk [tb]) := ⟨StrRow.grown HT4.out HO4.out hgrow⟩
              have HL3 : Aside0 ((ys ++ [Go.bits .xor .u32 q p]).length = j + 1) := ⟨by have := HL.out; simp; omega⟩
              have HO3 : Aside0 (w1.ownsRow w.heap.size 102 1 v1 (j + 1) (nums32 (ys ++ [Go.bits .xor .u32 q p]))) := ⟨by have h := hown1; rw [HL.out] at h; exact h⟩
              have HB3 := Aside0.mk hB1
              clear hown1 hB1 hgrow HO2 HB2 HT2 HI HZ HL
              go_wp2
              exact ⟨⟨j + 1, c, _, by omega, by omega, rfl, by go_num, by omega, by omega, HL3, HE1, HO3, HT3, HB3⟩, by simp [intOf]; omega⟩
        · obtain rfl : j = 44 := by omega
          have he := HE.out
          rw [Nat.sub_self] at he
          have he2 : ys = r := by simpa [expL2] using he
          subst he2
          clear he HE
          go_wp2
          go_ret
          refine ⟨_, rfl, Kd.R_of_own (xs := ys) (by rw [HL.out]; exact HO.out) (fun _ _ => True.intro), HB.out⟩

set_option maxHeartbeats 2000000 in
set_option maxRecDepth 100000 in
theorem expand_24 (k : Nat) (a : ByteArray) (r : List Int) (w : World) (ha : a.size = 24) (h : expF k 6 a = some r) :
    Calls Try.prog 188 #[.string a] w fun e w' => ∃ v0_ : Value, e = .returned v0_ ∧ Kd.R (Kd.int .u32) 102 w' w.heap.size (fun _ => True) v0_ r ∧ Below w.heap.size w w' := by
  unfold expF at h
  replace h := Option.bind_eq_some_iff.1 h
  obtain ⟨tb, htb, h⟩ := h
  split at h
  case isFalse => cases h
  case isTrue hts =>
  replace h := Option.bind_eq_some_iff.1 h
  obtain ⟨ps, hps, h⟩ := h
  split at h
  case isFalse => cases h
  case isTrue hpl =>
  replace h := Option.bind_eq_some_iff.1 h
  obtain ⟨ws, hws, h⟩ := h
  split at h
  case isFalse => cases h
  case isTrue hwl =>
  have HTB := Aside0.mk htb
  have HTS := Aside0.mk hts
  have HPS := Aside0.mk hps
  have HPL := Aside0.mk hpl
  have HWS := Aside0.mk hws
  have HWL := Aside0.mk hwl
  have HX : Aside0 (expL2 tb 6 (52 - 6) 6 1 ws = some r) := ⟨(congrArg (fun z => expL2 tb 6 z 6 1 ws) (show 52 - 6 = 3 * 6 + 28 by decide)).trans h⟩
  have HR : Aside0 (sched_Rounds.f 24 = some 12) := ⟨by unfold sched_Rounds.f wrap64; rfl⟩
  clear htb hts hps hpl hws hwl h
  have hmf : ∀ (fn : Fn) (first cap : Array Value) (w : World), (Instr.makeFunc fn first cap).run Try.prog w = .ok (.func fn first cap) w := fun _ _ _ _ => rfl
  obtain ⟨i0, hi, hz0, hz1, hz2⟩ := info_parts (by kernel_rfl : (Try.prog.info? 102).map (fun i => (i.zero, i.size, i.bytes)) = some (some (.int .u32 0), 1, 4))
  have hmk : ∀ W : World, (Instr.makeSlice 100 (.int .i64 0) (.int .i64 52)).run Try.prog W = .ok (.slice (some ⟨W.heap.size, 0, none⟩) 0 52) (W.alloc (.cells (madeCells #[.int .u32 0] 52) 102)) := fun W => by
    have h := run_make (P := Try.prog) W 100 102 i0 (.int .u32 0) Try.underlying100 hi hz0 .i64 .i64 0 52 (by omega) (by omega) (by rw [hz2]; omega) (by omega)
    rw [hz1] at h
    exact h
  go_enter Try.func188, Try.ntmps188
  go_wp2_with (first | (go_at_call 88; (with_reducible refine (sched_Rounds.calls 24 12 _ HR.out).mono ?_); rintro e w1 ⟨rfl, hd⟩; obtain ⟨n1, rfl⟩ := hd.out; clear hd) | (go_at_call 70; (with_reducible refine (sbox_Table.calls k tb _ HTB.out).mono ?_); rintro e w2 ⟨rfl, hb2⟩))
  obtain ⟨W3, hW3⟩ : ∃ W3, W3 = (w2.alloc (.cells #[.string tb] 9)).alloc (.cells (madeCells #[.int .u32 0] 52) 102) := ⟨_, rfl⟩
  have hT : StrRow W3 w2.heap.size [tb] := by
    subst hW3
    refine ⟨#[.string tb], ?_, fun j x hj => ?_⟩
    · exact (heap_alloc_old _ _ (by simp)).trans (heap_alloc_new w2 _)
    · cases j with
      | zero => simpa using hj
      | succ j => simp at hj
  have hO : W3.ownsRow w.heap.size 102 1 (.slice (some ⟨w2.heap.size + 1, 0, none⟩) 0 52) 0 [] := by
    subst hW3
    have h := World.ownsRow_made (base := w.heap.size) (e := 102) (size := 1) (w2.alloc (.cells #[.string tb] 9)) (madeCells #[.int .u32 0] 52) 52 (by have := hb2.size; simp at this ⊢; omega) (by simp [maxLen]) (by simp [size_madeCells])
    simpa using h
  have hBW : Below w.heap.size w W3 := by
    subst hW3
    exact below_alloc (below_alloc ((pw_below_drewN (Below.refl _ _) n1).trans hb2) _) _
  rw [← hW3]
  have HT := Aside0.mk hT
  have HO := Aside0.mk hO
  have HB1 := Aside0.mk hBW
  clear hb2 hT hO hBW hW3 hmk hmf
  generalize w2.heap.size = tk at *
  go_wp2_with (go_at_call 186; (with_reducible refine (octets_Pieces.calls k a 4 ps _ HPS.out).mono ?_); rintro e w4 ⟨v0, rfl, hR, hb4⟩; obtain ⟨g, cap, rfl, hgb, hS⟩ := StrRow.of_R hR (by rw [HPL.out]; omega); have HO4 := Aside0.mk (own_move HO.out (fun q hq => hb4.block q (HO.out.lt q hq).2)); have HT4 := Aside0.mk (HT.out.below hb4); have HS4 := Aside0.mk hS; have HB4 := Aside0.mk (HB1.out.trans (hb4.mono HB1.out.size)); clear hR hb4 hgb hS)
  clear HT HO HB1 HPS HTB HR
  go_loopw [7, 32] (fun v i wr => ∃ (j : Nat) (xs : List Int), j ≤ ps.length ∧ xs.length ≤ j ∧ i = .int .i64 j ∧ Aside0 (expL1 k (ps.drop j) xs = some ws) ∧ Aside0 (wr.ownsRow w.heap.size 102 1 v xs.length (nums32 xs)) ∧ Aside0 (StrRow wr tk [tb]) ∧ Aside0 (StrRow wr g ps) ∧ Aside0 (Below w.heap.size w wr)) (fun _ i _ => ps.length - (intOf i).toNat)
  case atStart => exact ⟨0, [], Nat.zero_le _, by simp, rfl, HWS, HO4, HT4, HS4, HB4⟩
  case round =>
    clear HWS HO4 HT4 HS4 HB4
    obtain ⟨j, xs, hj, hxj, rfl, HE, HO, HT, HS, HB⟩ := hrel
    by_cases hlt : j < ps.length
    · have hj4 : j < 6 := by have := HPL.out; omega
      have he := HE.out
      rw [List.drop_eq_getElem_cons hlt] at he
      simp only [expL1] at he
      replace he := Option.bind_eq_some_iff.1 he
      obtain ⟨⟨b1, b2⟩, hg, he⟩ := he
      have HG := Aside0.mk hg
      have HE1 := Aside0.mk he
      have hc : wr.cell? ⟨g, j, none⟩ = some (.string (ps[j]'hlt)) := HS.out.cell j _ (List.getElem?_eq_getElem hlt)
      clear he hg HE
      go_wp2_with (go_at_call 195; (with_reducible refine (octets_Get.calls k _ b1 b2 _ HG.out).mono ?_))
      rintro e w5 rfl hd
      obtain ⟨n5, rfl⟩ := hd.out
      clear hd hc
      have hown : (wr.drewN n5).ownsRow w.heap.size 102 1 u7 xs.length (nums32 xs) := HO.out
      go_wp2_with (at_builtin; refine wpList_append_own _ rfl _ _ 100 rfl w.heap.size 102 i0 (.int .u32 0) 1 4 Try.underlying100 hi hz0 hz1 hz2 rfl (by decide) _ _ _ rfl (hown.alloc _) ⟨wr.heap.size, 0, none⟩ 1 1 [.int .u32 (b1 % 4294967296)] rfl rfl ?c1 ?c2 ?c3 ?c4 ?c5 ?_)
      case c1 => exact World.news_of_block (cs := #[.int .u32 (b1 % 4294967296)]) (t := 102) (fr := (0, 0)) (heap_alloc_new (wr.drewN n5) _)
      case c2 => intro u hu; simp at hu; subst hu; rfl
      case c3 => have := HPL.out; unfold maxLen; omega
      case c4 => have := HPL.out; omega
      case c5 => have := HB.out.size; simp; omega
      intro v6 w6 hown6 hgrow _
      have HO6 : Aside0 (w6.ownsRow w.heap.size 102 1 v6 (xs ++ [b1 % 4294967296]).length (nums32 (xs ++ [b1 % 4294967296]))) := ⟨by simpa [nums32] using hown6⟩
      have HT6 : Aside0 (StrRow w6 tk [tb]) := ⟨StrRow.grown (StrRow.alloc (StrRow.drewN HT.out n5) _) (hown.alloc _) hgrow⟩
      have HS6 : Aside0 (StrRow w6 g ps) := ⟨StrRow.grown (StrRow.alloc (StrRow.drewN HS.out n5) _) (hown.alloc _) hgrow⟩
      have HB6 : Aside0 (Below w.heap.size w w6) := ⟨((pw_below_drewN HB.out n5).alloc HB.out.size _).grown hgrow (by have := HB.out.size; simp; omega) (fun q hq => (HO.out.lt q hq).1)⟩
      clear hown6 hgrow hown HO HT HS HB HG
      go_wp2
      exact ⟨⟨j + 1, xs ++ [b1 % 4294967296], hlt, by simp; omega, by go_num, HE1, HO6, HT6, HS6, HB6⟩, by simp [intOf]; omega⟩
    · obtain rfl : j = ps.length := by omega
      have he := HE.out
      rw [List.drop_length] at he
      have he2 : xs = ws := by simpa [expL1] using he
      subst he2
      have hxl := HWL.out
      have HLEN := Aside0.mk hxl
      clear he HE hxj HWL HS
      have hpl := HPL.out
      rw [hxl] at HO
      go_wp2
      clear hlt hj hxl hpl HPL
      go_loopw [7, 12, 13] (fun v cv i wr => ∃ (j : Nat) (c : Int) (ys : List Int), 6 ≤ j ∧ j ≤ 52 ∧ cv = .int .u32 c ∧ i = .int .i64 j ∧ 0 ≤ c ∧ c < 4294967296 ∧ Aside0 (ys.length = j) ∧ Aside0 (expL2 tb 6 (52 - j) j c ys = some r) ∧ Aside0 (wr.ownsRow w.heap.size 102 1 v j (nums32 ys)) ∧ Aside0 (StrRow wr tk [tb]) ∧ Aside0 (Below w.heap.size w wr)) (fun _ _ i _ => 52 - (intOf i).toNat)
      case atStart => exact ⟨6, 1, xs, by omega, by omega, rfl, rfl, by omega, by omega, HLEN, HX, HO, HT, HB⟩
      case round =>
        clear HX HO HT HB HLEN
        obtain ⟨j, c, ys, hj1, hj2, rfl, rfl, hc0, hc1, HL, HE, HO, HT, HB⟩ := hrel
        by_cases hlt : j < 52
        · obtain ⟨gw, cap, rfl, hgb, hgl⟩ := HO.out.form (by omega)
          have he := HE.out
          rw [show 52 - j = (52 - (j + 1)) + 1 by omega] at he
          simp only [expL2] at he
          split at he
          case isFalse => cases he
          case isTrue h0 =>
          split at he
          case isFalse => cases he
          case isTrue h1 =>
          have HC := own_at HO.out ((j : Int) - 1) (by omega) (by omega)
          have HD := own_at HO.out ((j : Int) - 6) (by omega) (by omega)
          generalize hp : rd ys ((j : Int) - 1) = p at *
          generalize hq : rd ys ((j : Int) - 6) = q at *
          clear hp hq
          have hcell := HC.1
          have hcelq := HD.1
          have hjn : ((j : Int) - 1).toNat = j - 1 := by omega
          have hjq : ((j : Int) - 6).toNat = j - 6 := by omega
          rw [hjn] at hcell
          rw [hjq] at hcelq
          clear hjn hjq HC HD HE
          have hct := HT.out.cell 0 tb rfl
          have ho1 := bits_u32 .or (p * 256 % 4294967296) (p / 16777216)
          have HO1 := Aside0.mk ho1
          have HCT := Aside0.mk hct
          clear ho1 hct
          have HO2 : Aside0 (∀ m, (wr.drewN m).ownsRow w.heap.size 102 1 (.slice (some ⟨gw, 0, none⟩) j cap) ys.length (nums .u32 ys)) := ⟨fun m => by rw [HL.out]; exact HO.out⟩
          have HB2 : Aside0 (∀ m, Below w.heap.size w (wr.drewN m)) := ⟨fun m => pw_below_drewN HB.out m⟩
          have HZ : Aside0 (∀ m, w.heap.size ≤ (wr.drewN m).heap.size) := ⟨fun m => HB.out.size⟩
          have HT2 : Aside0 (∀ m, StrRow (wr.drewN m) tk [tb]) := ⟨fun m => HT.out⟩
          have HI : Aside0 ((Try.prog.info? 102).map (fun i => (i.zero, i.size, i.bytes)) = some (some (.int .u32 0), 1, 4)) := ⟨by kernel_rfl⟩
          clear HO HB HT
          by_cases hm : j % 6 = 0
          · rw [if_pos hm] at he
            replace he := Option.bind_eq_some_iff.1 he
            obtain ⟨c2, htw, he⟩ := he
            have HTW := Aside0.mk htw
            have HE1 := Aside0.mk he
            clear htw he
            go_wp2_with (first | (go_at_call 221; (with_reducible refine (subW_calls tk tb _ _ HCT.out HTS.out HO1.out.1 HO1.out.2).mono ?_); rintro e w5 ⟨rfl, hd⟩; obtain ⟨n5, rfl⟩ := hd.out; clear hd) | (go_at_call 41; (with_reducible refine (field_Twice.calls _ c2 _ HTW.out).mono ?_); rintro e w6 ⟨rfl, hd⟩; obtain ⟨n6, rfl⟩ := hd.out; clear hd) | (at_builtin; refine print_append_num (w0 := w) w.heap.size rfl _ _ 100 102 .u32 4 rfl Try.underlying100 HI.out (by decide) (.slice (some ⟨gw, 0, none⟩) j cap) ys (Go.bits .xor .u32 q (Go.bits .xor .u32 (subW tb (rotw p)) (c * 16777216 % 4294967296))) rfl rfl (HO2.out _) (HB2.out _) (HZ.out _) (by have := HL.out; omega) ?_))
            intro v1 w1 hown1 hB1 hgrow _
            have HT3 : Aside0 (StrRow w1 tk [tb]) := ⟨StrRow.grown (HT2.out _) (HO2.out _) hgrow⟩
            have HL3 : Aside0 ((ys ++ [Go.bits .xor .u32 q (Go.bits .xor .u32 (subW tb (rotw p)) (c * 16777216 % 4294967296))]).length = j + 1) := ⟨by have := HL.out; simp; omega⟩
            have HO3 : Aside0 (w1.ownsRow w.heap.size 102 1 v1 (j + 1) (nums32 (ys ++ [Go.bits .xor .u32 q (Go.bits .xor .u32 (subW tb (rotw p)) (c * 16777216 % 4294967296))]))) := ⟨by have h := hown1; rw [HL.out] at h; exact h⟩
            have HB3 := Aside0.mk hB1
            clear hown1 hB1 hgrow HO2 HB2 HT2 HI HZ HL
            go_wp2
            exact ⟨⟨j + 1, c2 % 4294967296, _, by omega, by omega, rfl, by go_num, by omega, by omega, HL3, HE1, HO3, HT3, HB3⟩, by simp [intOf]; omega⟩
          · rw [if_neg hm] at he
            by_cases h8 : 6 = 8 ∧ j % 8 = 4
            · exact absurd h8.1 (by decide)
            · rw [if_neg (by have h9 : ¬ (6 = 8 ∧ j % 8 = 4) := h8; first | (simp; done) | simpa using h9)] at he
              have HE1 := Aside0.mk he
              clear he
              have HO4 : Aside0 (wr.ownsRow w.heap.size 102 1 (.slice (some ⟨gw, 0, none⟩) j cap) ys.length (nums .u32 ys)) := ⟨HO2.out 0⟩
              have HB4 : Aside0 (Below w.heap.size w wr) := ⟨HB2.out 0⟩
              have HZ4 : Aside0 (w.heap.size ≤ wr.heap.size) := ⟨HZ.out 0⟩
              have HT4 : Aside0 (StrRow wr tk [tb]) := ⟨HT2.out 0⟩
              go_wp2_with ((at_builtin; refine print_append_num  (w0 := w) w.heap.size rfl _ _ 100 102 .u32 4 rfl Try.underlying100 HI.out (by decide) (.slice (some ⟨gw, 0, none⟩) j cap) ys (Go.bits .xor .u32 q p) rfl rfl HO4.out HB4.out HZ4.out (by have := HL.out; omega) ?_))
              intro v1 w1 hown1 hB1 hgrow _
              have HT3 : Aside0 (StrRow w1 tk [tb]) := ⟨StrRow.grown HT4.out HO4.out hgrow⟩
              have HL3 : Aside0 ((ys ++ [Go.bits .xor .u32 q p]).length = j + 1) := ⟨by have := HL.out; simp; omega⟩
              have HO3 : Aside0 (w1.ownsRow w.heap.size 102 1 v1 (j + 1) (nums32 (ys ++ [Go.bits .xor .u32 q p]))) := ⟨by have h := hown1; rw [HL.out] at h; exact h⟩
              have HB3 := Aside0.mk hB1
              clear hown1 hB1 hgrow HO2 HB2 HT2 HI HZ HL
              go_wp2
              exact ⟨⟨j + 1, c, _, by omega, by omega, rfl, by go_num, by omega, by omega, HL3, HE1, HO3, HT3, HB3⟩, by simp [intOf]; omega⟩
        · obtain rfl : j = 52 := by omega
          have he := HE.out
          rw [Nat.sub_self] at he
          have he2 : ys = r := by simpa [expL2] using he
          subst he2
          clear he HE
          go_wp2
          go_ret
          refine ⟨_, rfl, Kd.R_of_own (xs := ys) (by rw [HL.out]; exact HO.out) (fun _ _ => True.intro), HB.out⟩

set_option maxHeartbeats 2000000 in
set_option maxRecDepth 100000 in
theorem expand_32 (k : Nat) (a : ByteArray) (r : List Int) (w : World) (ha : a.size = 32) (h : expF k 8 a = some r) :
    Calls Try.prog 188 #[.string a] w fun e w' => ∃ v0_ : Value, e = .returned v0_ ∧ Kd.R (Kd.int .u32) 102 w' w.heap.size (fun _ => True) v0_ r ∧ Below w.heap.size w w' := by
  unfold expF at h
  replace h := Option.bind_eq_some_iff.1 h
  obtain ⟨tb, htb, h⟩ := h
  split at h
  case isFalse => cases h
  case isTrue hts =>
  replace h := Option.bind_eq_some_iff.1 h
  obtain ⟨ps, hps, h⟩ := h
  split at h
  case isFalse => cases h
  case isTrue hpl =>
  replace h := Option.bind_eq_some_iff.1 h
  obtain ⟨ws, hws, h⟩ := h
  split at h
  case isFalse => cases h
  case isTrue hwl =>
  have HTB := Aside0.mk htb
  have HTS := Aside0.mk hts
  have HPS := Aside0.mk hps
  have HPL := Aside0.mk hpl
  have HWS := Aside0.mk hws
  have HWL := Aside0.mk hwl
  have HX : Aside0 (expL2 tb 8 (60 - 8) 8 1 ws = some r) := ⟨(congrArg (fun z => expL2 tb 8 z 8 1 ws) (show 60 - 8 = 3 * 8 + 28 by decide)).trans h⟩
  have HR : Aside0 (sched_Rounds.f 32 = some 14) := ⟨by unfold sched_Rounds.f wrap64; rfl⟩
  clear htb hts hps hpl hws hwl h
  have hmf : ∀ (fn : Fn) (first cap : Array Value) (w : World), (Instr.makeFunc fn first cap).run Try.prog w = .ok (.func fn first cap) w := fun _ _ _ _ => rfl
  obtain ⟨i0, hi, hz0, hz1, hz2⟩ := info_parts (by kernel_rfl : (Try.prog.info? 102).map (fun i => (i.zero, i.size, i.bytes)) = some (some (.int .u32 0), 1, 4))
  have hmk : ∀ W : World, (Instr.makeSlice 100 (.int .i64 0) (.int .i64 60)).run Try.prog W = .ok (.slice (some ⟨W.heap.size, 0, none⟩) 0 60) (W.alloc (.cells (madeCells #[.int .u32 0] 60) 102)) := fun W => by
    have h := run_make (P := Try.prog) W 100 102 i0 (.int .u32 0) Try.underlying100 hi hz0 .i64 .i64 0 60 (by omega) (by omega) (by rw [hz2]; omega) (by omega)
    rw [hz1] at h
    exact h
  go_enter Try.func188, Try.ntmps188
  go_wp2_with (first | (go_at_call 88; (with_reducible refine (sched_Rounds.calls 32 14 _ HR.out).mono ?_); rintro e w1 ⟨rfl, hd⟩; obtain ⟨n1, rfl⟩ := hd.out; clear hd) | (go_at_call 70; (with_reducible refine (sbox_Table.calls k tb _ HTB.out).mono ?_); rintro e w2 ⟨rfl, hb2⟩))
  obtain ⟨W3, hW3⟩ : ∃ W3, W3 = (w2.alloc (.cells #[.string tb] 9)).alloc (.cells (madeCells #[.int .u32 0] 60) 102) := ⟨_, rfl⟩
  have hT : StrRow W3 w2.heap.size [tb] := by
    subst hW3
    refine ⟨#[.string tb], ?_, fun j x hj => ?_⟩
    · exact (heap_alloc_old _ _ (by simp)).trans (heap_alloc_new w2 _)
    · cases j with
      | zero => simpa using hj
      | succ j => simp at hj
  have hO : W3.ownsRow w.heap.size 102 1 (.slice (some ⟨w2.heap.size + 1, 0, none⟩) 0 60) 0 [] := by
    subst hW3
    have h := World.ownsRow_made (base := w.heap.size) (e := 102) (size := 1) (w2.alloc (.cells #[.string tb] 9)) (madeCells #[.int .u32 0] 60) 60 (by have := hb2.size; simp at this ⊢; omega) (by simp [maxLen]) (by simp [size_madeCells])
    simpa using h
  have hBW : Below w.heap.size w W3 := by
    subst hW3
    exact below_alloc (below_alloc ((pw_below_drewN (Below.refl _ _) n1).trans hb2) _) _
  rw [← hW3]
  have HT := Aside0.mk hT
  have HO := Aside0.mk hO
  have HB1 := Aside0.mk hBW
  clear hb2 hT hO hBW hW3 hmk hmf
  generalize w2.heap.size = tk at *
  go_wp2_with (go_at_call 186; (with_reducible refine (octets_Pieces.calls k a 4 ps _ HPS.out).mono ?_); rintro e w4 ⟨v0, rfl, hR, hb4⟩; obtain ⟨g, cap, rfl, hgb, hS⟩ := StrRow.of_R hR (by rw [HPL.out]; omega); have HO4 := Aside0.mk (own_move HO.out (fun q hq => hb4.block q (HO.out.lt q hq).2)); have HT4 := Aside0.mk (HT.out.below hb4); have HS4 := Aside0.mk hS; have HB4 := Aside0.mk (HB1.out.trans (hb4.mono HB1.out.size)); clear hR hb4 hgb hS)
  clear HT HO HB1 HPS HTB HR
  go_loopw [7, 32] (fun v i wr => ∃ (j : Nat) (xs : List Int), j ≤ ps.length ∧ xs.length ≤ j ∧ i = .int .i64 j ∧ Aside0 (expL1 k (ps.drop j) xs = some ws) ∧ Aside0 (wr.ownsRow w.heap.size 102 1 v xs.length (nums32 xs)) ∧ Aside0 (StrRow wr tk [tb]) ∧ Aside0 (StrRow wr g ps) ∧ Aside0 (Below w.heap.size w wr)) (fun _ i _ => ps.length - (intOf i).toNat)
  case atStart => exact ⟨0, [], Nat.zero_le _, by simp, rfl, HWS, HO4, HT4, HS4, HB4⟩
  case round =>
    clear HWS HO4 HT4 HS4 HB4
    obtain ⟨j, xs, hj, hxj, rfl, HE, HO, HT, HS, HB⟩ := hrel
    by_cases hlt : j < ps.length
    · have hj4 : j < 8 := by have := HPL.out; omega
      have he := HE.out
      rw [List.drop_eq_getElem_cons hlt] at he
      simp only [expL1] at he
      replace he := Option.bind_eq_some_iff.1 he
      obtain ⟨⟨b1, b2⟩, hg, he⟩ := he
      have HG := Aside0.mk hg
      have HE1 := Aside0.mk he
      have hc : wr.cell? ⟨g, j, none⟩ = some (.string (ps[j]'hlt)) := HS.out.cell j _ (List.getElem?_eq_getElem hlt)
      clear he hg HE
      go_wp2_with (go_at_call 195; (with_reducible refine (octets_Get.calls k _ b1 b2 _ HG.out).mono ?_))
      rintro e w5 rfl hd
      obtain ⟨n5, rfl⟩ := hd.out
      clear hd hc
      have hown : (wr.drewN n5).ownsRow w.heap.size 102 1 u7 xs.length (nums32 xs) := HO.out
      go_wp2_with (at_builtin; refine wpList_append_own _ rfl _ _ 100 rfl w.heap.size 102 i0 (.int .u32 0) 1 4 Try.underlying100 hi hz0 hz1 hz2 rfl (by decide) _ _ _ rfl (hown.alloc _) ⟨wr.heap.size, 0, none⟩ 1 1 [.int .u32 (b1 % 4294967296)] rfl rfl ?c1 ?c2 ?c3 ?c4 ?c5 ?_)
      case c1 => exact World.news_of_block (cs := #[.int .u32 (b1 % 4294967296)]) (t := 102) (fr := (0, 0)) (heap_alloc_new (wr.drewN n5) _)
      case c2 => intro u hu; simp at hu; subst hu; rfl
      case c3 => have := HPL.out; unfold maxLen; omega
      case c4 => have := HPL.out; omega
      case c5 => have := HB.out.size; simp; omega
      intro v6 w6 hown6 hgrow _
      have HO6 : Aside0 (w6.ownsRow w.heap.size 102 1 v6 (xs ++ [b1 % 4294967296]).length (nums32 (xs ++ [b1 % 4294967296]))) := ⟨by simpa [nums32] using hown6⟩
      have HT6 : Aside0 (StrRow w6 tk [tb]) := ⟨StrRow.grown (StrRow.alloc (StrRow.drewN HT.out n5) _) (hown.alloc _) hgrow⟩
      have HS6 : Aside0 (StrRow w6 g ps) := ⟨StrRow.grown (StrRow.alloc (StrRow.drewN HS.out n5) _) (hown.alloc _) hgrow⟩
      have HB6 : Aside0 (Below w.heap.size w w6) := ⟨((pw_below_drewN HB.out n5).alloc HB.out.size _).grown hgrow (by have := HB.out.size; simp; omega) (fun q hq => (HO.out.lt q hq).1)⟩
      clear hown6 hgrow hown HO HT HS HB HG
      go_wp2
      exact ⟨⟨j + 1, xs ++ [b1 % 4294967296], hlt, by simp; omega, by go_num, HE1, HO6, HT6, HS6, HB6⟩, by simp [intOf]; omega⟩
    · obtain rfl : j = ps.length := by omega
      have he := HE.out
      rw [List.drop_length] at he
      have he2 : xs = ws := by simpa [expL1] using he
      subst he2
      have hxl := HWL.out
      have HLEN := Aside0.mk hxl
      clear he HE hxj HWL HS
      have hpl := HPL.out
      rw [hxl] at HO
      go_wp2
      clear hlt hj hxl hpl HPL
      go_loopw [7, 12, 13] (fun v cv i wr => ∃ (j : Nat) (c : Int) (ys : List Int), 8 ≤ j ∧ j ≤ 60 ∧ cv = .int .u32 c ∧ i = .int .i64 j ∧ 0 ≤ c ∧ c < 4294967296 ∧ Aside0 (ys.length = j) ∧ Aside0 (expL2 tb 8 (60 - j) j c ys = some r) ∧ Aside0 (wr.ownsRow w.heap.size 102 1 v j (nums32 ys)) ∧ Aside0 (StrRow wr tk [tb]) ∧ Aside0 (Below w.heap.size w wr)) (fun _ _ i _ => 60 - (intOf i).toNat)
      case atStart => exact ⟨8, 1, xs, by omega, by omega, rfl, rfl, by omega, by omega, HLEN, HX, HO, HT, HB⟩
      case round =>
        clear HX HO HT HB HLEN
        obtain ⟨j, c, ys, hj1, hj2, rfl, rfl, hc0, hc1, HL, HE, HO, HT, HB⟩ := hrel
        by_cases hlt : j < 60
        · obtain ⟨gw, cap, rfl, hgb, hgl⟩ := HO.out.form (by omega)
          have he := HE.out
          rw [show 60 - j = (60 - (j + 1)) + 1 by omega] at he
          simp only [expL2] at he
          split at he
          case isFalse => cases he
          case isTrue h0 =>
          split at he
          case isFalse => cases he
          case isTrue h1 =>
          have HC := own_at HO.out ((j : Int) - 1) (by omega) (by omega)
          have HD := own_at HO.out ((j : Int) - 8) (by omega) (by omega)
          generalize hp : rd ys ((j : Int) - 1) = p at *
          generalize hq : rd ys ((j : Int) - 8) = q at *
          clear hp hq
          have hcell := HC.1
          have hcelq := HD.1
          have hjn : ((j : Int) - 1).toNat = j - 1 := by omega
          have hjq : ((j : Int) - 8).toNat = j - 8 := by omega
          rw [hjn] at hcell
          rw [hjq] at hcelq
          clear hjn hjq HC HD HE
          have hct := HT.out.cell 0 tb rfl
          have ho1 := bits_u32 .or (p * 256 % 4294967296) (p / 16777216)
          have HO1 := Aside0.mk ho1
          have HCT := Aside0.mk hct
          clear ho1 hct
          have HO2 : Aside0 (∀ m, (wr.drewN m).ownsRow w.heap.size 102 1 (.slice (some ⟨gw, 0, none⟩) j cap) ys.length (nums .u32 ys)) := ⟨fun m => by rw [HL.out]; exact HO.out⟩
          have HB2 : Aside0 (∀ m, Below w.heap.size w (wr.drewN m)) := ⟨fun m => pw_below_drewN HB.out m⟩
          have HZ : Aside0 (∀ m, w.heap.size ≤ (wr.drewN m).heap.size) := ⟨fun m => HB.out.size⟩
          have HT2 : Aside0 (∀ m, StrRow (wr.drewN m) tk [tb]) := ⟨fun m => HT.out⟩
          have HI : Aside0 ((Try.prog.info? 102).map (fun i => (i.zero, i.size, i.bytes)) = some (some (.int .u32 0), 1, 4)) := ⟨by kernel_rfl⟩
          clear HO HB HT
          by_cases hm : j % 8 = 0
          · rw [if_pos hm] at he
            replace he := Option.bind_eq_some_iff.1 he
            obtain ⟨c2, htw, he⟩ := he
            have HTW := Aside0.mk htw
            have HE1 := Aside0.mk he
            clear htw he
            go_wp2_with (first | (go_at_call 221; (with_reducible refine (subW_calls tk tb _ _ HCT.out HTS.out HO1.out.1 HO1.out.2).mono ?_); rintro e w5 ⟨rfl, hd⟩; obtain ⟨n5, rfl⟩ := hd.out; clear hd) | (go_at_call 41; (with_reducible refine (field_Twice.calls _ c2 _ HTW.out).mono ?_); rintro e w6 ⟨rfl, hd⟩; obtain ⟨n6, rfl⟩ := hd.out; clear hd) | (at_builtin; refine print_append_num (w0 := w) w.heap.size rfl _ _ 100 102 .u32 4 rfl Try.underlying100 HI.out (by decide) (.slice (some ⟨gw, 0, none⟩) j cap) ys (Go.bits .xor .u32 q (Go.bits .xor .u32 (subW tb (rotw p)) (c * 16777216 % 4294967296))) rfl rfl (HO2.out _) (HB2.out _) (HZ.out _) (by have := HL.out; omega) ?_))
            intro v1 w1 hown1 hB1 hgrow _
            have HT3 : Aside0 (StrRow w1 tk [tb]) := ⟨StrRow.grown (HT2.out _) (HO2.out _) hgrow⟩
            have HL3 : Aside0 ((ys ++ [Go.bits .xor .u32 q (Go.bits .xor .u32 (subW tb (rotw p)) (c * 16777216 % 4294967296))]).length = j + 1) := ⟨by have := HL.out; simp; omega⟩
            have HO3 : Aside0 (w1.ownsRow w.heap.size 102 1 v1 (j + 1) (nums32 (ys ++ [Go.bits .xor .u32 q (Go.bits .xor .u32 (subW tb (rotw p)) (c * 16777216 % 4294967296))]))) := ⟨by have h := hown1; rw [HL.out] at h; exact h⟩
            have HB3 := Aside0.mk hB1
            clear hown1 hB1 hgrow HO2 HB2 HT2 HI HZ HL
            go_wp2
            exact ⟨⟨j + 1, c2 % 4294967296, _, by omega, by omega, rfl, by go_num, by omega, by omega, HL3, HE1, HO3, HT3, HB3⟩, by simp [intOf]; omega⟩
          · rw [if_neg hm] at he
            by_cases h8 : 8 = 8 ∧ j % 8 = 4
            · rw [if_pos (by have h9 := h8.2; simp [h9])] at he
              have HE1 := Aside0.mk he
              have hj8 := h8.2
              clear he h8
              go_wp2_with (first | (go_at_call 221; (with_reducible refine (subW_calls tk tb _ _ HCT.out HTS.out h0 h1).mono ?_); rintro e w5 ⟨rfl, hd⟩; obtain ⟨n5, rfl⟩ := hd.out; clear hd) | (at_builtin; refine print_append_num (w0 := w) w.heap.size rfl _ _ 100 102 .u32 4 rfl Try.underlying100 HI.out (by decide) (.slice (some ⟨gw, 0, none⟩) j cap) ys (Go.bits .xor .u32 q (subW tb p)) rfl rfl (HO2.out _) (HB2.out _) (HZ.out _) (by have := HL.out; omega) ?_))
              intro v1 w1 hown1 hB1 hgrow _
              have HT3 : Aside0 (StrRow w1 tk [tb]) := ⟨StrRow.grown (HT2.out _) (HO2.out _) hgrow⟩
              have HL3 : Aside0 ((ys ++ [Go.bits .xor .u32 q (subW tb p)]).length = j + 1) := ⟨by have := HL.out; simp; omega⟩
              have HO3 : Aside0 (w1.ownsRow w.heap.size 102 1 v1 (j + 1) (nums32 (ys ++ [Go.bits .xor .u32 q (subW tb p)]))) := ⟨by have h := hown1; rw [HL.out] at h; exact h⟩
              have HB3 := Aside0.mk hB1
              clear hown1 hB1 hgrow HO2 HB2 HT2 HI HZ HL
              go_wp2
              exact ⟨⟨j + 1, c, _, by omega, by omega, rfl, by go_num, by omega, by omega, HL3, HE1, HO3, HT3, HB3⟩, by simp [intOf]; omega⟩
            · rw [if_neg (by have h9 : ¬ (8 = 8 ∧ j % 8 = 4) := h8; first | (simp; done) | simpa using h9)] at he
              have HE1 := Aside0.mk he
              clear he
              have HO4 : Aside0 (wr.ownsRow w.heap.size 102 1 (.slice (some ⟨gw, 0, none⟩) j cap) ys.length (nums .u32 ys)) := ⟨HO2.out 0⟩
              have HB4 : Aside0 (Below w.heap.size w wr) := ⟨HB2.out 0⟩
              have HZ4 : Aside0 (w.heap.size ≤ wr.heap.size) := ⟨HZ.out 0⟩
              have HT4 : Aside0 (StrRow wr tk [tb]) := ⟨HT2.out 0⟩
              go_wp2_with ((at_builtin; refine print_append_num  (w0 := w) w.heap.size rfl _ _ 100 102 .u32 4 rfl Try.underlying100 HI.out (by decide) (.slice (some ⟨gw, 0, none⟩) j cap) ys (Go.bits .xor .u32 q p) rfl rfl HO4.out HB4.out HZ4.out (by have := HL.out; omega) ?_))
              intro v1 w1 hown1 hB1 hgrow _
              have HT3 : Aside0 (StrRow w1 tk [tb]) := ⟨StrRow.grown HT4.out HO4.out hgrow⟩
              have HL3 : Aside0 ((ys ++ [Go.bits .xor .u32 q p]).length = j + 1) := ⟨by have := HL.out; simp; omega⟩
              have HO3 : Aside0 (w1.ownsRow w.heap.size 102 1 v1 (j + 1) (nums32 (ys ++ [Go.bits .xor .u32 q p]))) := ⟨by have h := hown1; rw [HL.out] at h; exact h⟩
              have HB3 := Aside0.mk hB1
              clear hown1 hB1 hgrow HO2 HB2 HT2 HI HZ HL
              go_wp2
              exact ⟨⟨j + 1, c, _, by omega, by omega, rfl, by go_num, by omega, by omega, HL3, HE1, HO3, HT3, HB3⟩, by simp [intOf]; omega⟩
        · obtain rfl : j = 60 := by omega
          have he := HE.out
          rw [Nat.sub_self] at he
          have he2 : ys = r := by simpa [expL2] using he
          subst he2
          clear he HE
          go_wp2
          go_ret
          refine ⟨_, rfl, Kd.R_of_own (xs := ys) (by rw [HL.out]; exact HO.out) (fun _ _ => True.intro), HB.out⟩

theorem expL1_mono (k : Nat) : ∀ (ps : List ByteArray) (ws : List Int), LeO (expL1 k ps ws) (expL1 (k + 1) ps ws)
  | [], _ => LeO.refl _
  | s :: ss, ws => by
    simp only [expL1]
    exact LeO.bind (octets_Get.mono _ _) (fun b => expL1_mono k ss _)
theorem expF_mono (k n : Nat) (a : ByteArray) : LeO (expF k n a) (expF (k + 1) n a) := by
  unfold expF
  exact LeO.bind (sbox_Table.mono k) (fun tb => LeO.ite (LeO.bind (octets_Pieces.mono _ _ k) (fun ps => LeO.ite (LeO.bind (expL1_mono k ps []) (fun ws => LeO.refl _)) (LeO.none _))) (LeO.none _))
def sched_expand.f (k : Nat) (a : ByteArray) : Option (List Int) := if a.size = 16 then expF k 4 a else if a.size = 24 then expF k 6 a else if a.size = 32 then expF k 8 a else some []
theorem sched_expand.mono : ∀ a k, LeO (sched_expand.f k a) (sched_expand.f (k + 1) a) := fun a k => LeO.ite (expF_mono k 4 a) (LeO.ite (expF_mono k 6 a) (LeO.ite (expF_mono k 8 a) (LeO.refl _)))
theorem expand_no (a : ByteArray) (w : World) (h1 : a.size ≠ 16) (h2 : a.size ≠ 24) (h3 : a.size ≠ 32) :
    Calls Try.prog 188 #[.string a] w fun e w' => ∃ v0_ : Value, e = .returned v0_ ∧ Kd.R (Kd.int .u32) 102 w' w.heap.size (fun _ => True) v0_ [] ∧ Below w.heap.size w w' := by
  have HR : Aside0 (sched_Rounds.f (a.size : Int) = some 0) := ⟨by unfold sched_Rounds.f; rw [if_neg (by omega), if_neg (by omega), if_neg (by omega)]⟩
  go_enter Try.func188, Try.ntmps188
  go_wp2_with (go_at_call 88; (with_reducible refine (sched_Rounds.calls _ 0 _ HR.out).mono ?_); rintro e w1 ⟨rfl, hd⟩; obtain ⟨n1, rfl⟩ := hd.out; clear hd)
  go_ret
  exact ⟨_, rfl, Kd.R_nil _ _ _ _ _, pw_below_drewN (Below.refl _ _) _⟩
theorem sched_expand.calls (k : Nat) (a : ByteArray) (r : List Int) (w : World) (h : sched_expand.f k a = some r) :
    Calls Try.prog 188 #[.string a] w fun e w' => ∃ v0_ : Value, e = .returned v0_ ∧ Kd.R (Kd.int .u32) 102 w' w.heap.size (fun _ => True) v0_ r ∧ Below w.heap.size w w' := by
  unfold sched_expand.f at h
  split at h
  case isTrue h1 => exact expand_16 k a r w h1 h
  case isFalse h1 =>
  split at h
  case isTrue h2 => exact expand_24 k a r w h2 h
  case isFalse h2 =>
  split at h
  case isTrue h3 => exact expand_32 k a r w h3 h
  case isFalse h3 =>
  obtain rfl := Option.some.inj h
  exact expand_no a w h1 h2 h3
end Go.Proofs.Ytokkhnjedmlbhaa.Pr
end
section
namespace Go.Proofs.Ytokkhnjedmlbhaa.Pr
open Go.RowKit Go.Proofs.YtokkhnjedmlbhaaW.PrintWords Go.Proofs.YtokkhnjedmlbhaaW.PrintLast Go.Proofs.YtokkhnjedmlbhaaW.PrintMore
theorem row_strings {w : World} {A : Option Addr} {n : Nat} {l : List ByteArray} (h : Kd.string.C w A n l) (hn : 0 < n) :
    ∃ bk o, A = some ⟨bk, o, none⟩ ∧ (∀ (j : Nat) x, l[j]? = some x → w.cell? ⟨bk, o + j, none⟩ = some (.string x)) ∧ bk < w.heap.size := by
  have hr := Kd.reads_of_C (enc := Value.string) (d := ByteArray.empty) (h1 := fun _ => rfl) h
  obtain ⟨hl, _, hc⟩ := hr
  obtain ⟨ad, e, hc⟩ := hc hn
  have h0 := hc 0 hn
  have e0 : ad.add 0 = ad := by simp [Addr.add]
  rw [e0] at h0
  obtain ⟨bk, o, sp⟩ := ad
  have hs : sp = none := by
    cases sp with
    | none => rfl
    | some x =>
      exfalso
      unfold World.cell? at h0
      split at h0 <;> simp at h0
  subst hs
  refine ⟨bk, o, e, fun j x hj => ?_, World.block_lt_of_cell? w _ h0⟩
  obtain ⟨hjl, hx⟩ := List.getElem?_eq_some_iff.1 hj
  have := hc j (by omega)
  rw [add_at] at this
  rw [this, List.getD_eq_getElem?_getD, hj]
  rfl
/-- The texts, one behind the other. -/
def joinB (l : List ByteArray) : ByteArray := ⟨(Lib.join (l.map (·.data.toList)) []).toArray⟩
def octets_Join.f (l : List ByteArray) : Option ByteArray := if l.length ≤ 140737488355328 then if (Lib.join (l.map (·.data.toList)) []).length ≤ 140737488355328 then some (joinB l) else none else none
theorem octets_Join.calls (A0 : Option Addr) (c0 : Nat) (l0 : List ByteArray) (r : ByteArray) (w : World) (hr0 : Kd.C Kd.string w A0 l0.length l0) (hc0 : l0.length ≤ c0) (h : octets_Join.f l0 = some r) :
    Calls Try.prog 89 #[.slice A0 l0.length c0] w fun e w' => e = .returned (.string r) ∧ Below w.heap.size w w' := by
  unfold octets_Join.f at h
  split at h
  case isFalse => cases h
  case isTrue hN =>
  split at h
  case isFalse => cases h
  case isTrue hlen =>
  obtain rfl := Option.some.inj h
  by_cases hn : 0 < l0.length
  · obtain ⟨bk, o, rfl, hcells, hbk⟩ := row_strings hr0 hn
    have H := Try.strings_Join bk o c0 l0 ⟨#[]⟩ w hcells hbk hN hc0 hlen
    have HH := Aside0.mk H
    clear H hcells h hr0
    go_enter Try.func89, Try.ntmps89
    go_wp2_with (go_at_call 187; refine HH.out.mono ?_; rintro e w1 ⟨rfl, hb⟩)
    go_ret
    exact ⟨rfl, hb⟩
  · obtain rfl : l0 = [] := List.eq_nil_of_length_eq_zero (by omega)
    go_enter Try.func89, Try.ntmps89
    go_wp2_with (go_at_call 187; refine (Try.strings_Join_none A0 c0 ⟨#[]⟩ _).mono ?_; rintro e w1 ⟨rfl, rfl⟩)
    go_ret
    exact ⟨rfl, Below.refl _ _⟩
end Go.Proofs.Ytokkhnjedmlbhaa.Pr
end
