-- several texts in one (by the session's program shake.py)
import Derived.Test.YtmcpfkgahmdkgaaZSpanA
import Derived.Test.YtmcpfkgahmdkgaaZPlain
import Derived.Deep.RegionHeld3
import Derived.Deep.DrawnRows
import Derived.Below
import Derived.Deep.RegionLaw
import Derived.Laws.OwnMore
import Derived.Test.YtmcpfkgahmdkgaaRows
import Derived.JoinedOf
import Derived.KernelRfl
import Derived.OpenShut
import Derived.Deep.Slices
import Derived.Lib.SmallJoins
section
namespace Go.Proofs.Ytmcpfkgahmdkgaa.M
open Go
/-- Those of a row that are spans. -/
def good (l : List (Int × Int)) : List (Int × Int) := l.filter fun p => decide (mayP p.1 p.2)
/-- A row of arrays of two numbers in memory. -/
def PairRow (w : World) (A : Option Addr) (l : List (Int × Int)) : Prop := 0 < l.length → ∃ b o, A = some ⟨b, o, none⟩ ∧ b < w.heap.size ∧ ∀ (j : Nat) p, l[j]? = some p → w.cell? ⟨b, o + j * 2, none⟩ = some (.int .i64 p.1) ∧ w.cell? ⟨b, o + j * 2 + 1, none⟩ = some (.int .i64 p.2)
theorem good_snoc (l : List (Int × Int)) (p : Int × Int) : good (l ++ [p]) = if mayP p.1 p.2 then good l ++ [p] else good l := by
  unfold good
  rw [List.filter_append]
  by_cases h : mayP p.1 p.2
  · simp [h]
  · simp [h]
theorem good_may (l : List (Int × Int)) : ∀ p ∈ good l, mayP p.1 p.2 := fun _ hp => of_decide_eq_true (List.mem_filter.1 hp).2
theorem good_len (l : List (Int × Int)) : (good l).length ≤ l.length := List.length_filter_le _ _
end Go.Proofs.Ytmcpfkgahmdkgaa.M
namespace Go.Proofs.Ytmcpfkgahmdkgaa.Pr
open Go.RowKit Go.Proofs.YtmcpfkgahmdkgaaW.PrintWords Go.Proofs.YtmcpfkgahmdkgaaW.PrintLast Go.Proofs.YtmcpfkgahmdkgaaW.PrintMore
theorem span_row {w : World} {base : Nat} {v : Value} {l : List (Int × Int)} (h : w.ownsRow base 23 1 v l.length (l.map fun p => Value.complex .f64 (M.fl p.1) (M.fl p.2))) : ∃ A c, v = .slice A l.length c ∧ SpanRow w A l := by
  by_cases hl : l.length = 0
  · rcases h.2 with ⟨rfl, h0⟩ | ⟨g, cap, cur, rfl, _⟩
    · exact ⟨none, 0, by rw [hl], fun hp => absurd hl (by omega)⟩
    · exact ⟨_, _, rfl, fun hp => absurd hl (by omega)⟩
  · rcases h.2 with ⟨rfl, h0⟩ | ⟨g, cap, cur, rfl, _⟩
    · exact absurd h0 hl
    · refine ⟨_, _, rfl, fun _ => ⟨_, rfl, fun j p hp => ?_⟩⟩
      exact h.cells (g := g) rfl j _ (by rw [List.getElem?_map, hp]; rfl)
section
variable {P : Program} {Q : Exit → Act → World → Prop} {md : Region.Mode} {S : World → Prop}
theorem of_drop {ops : List Oper} {i : Nat} {o : Oper} {rest : List Oper} (h : ops.drop i = o :: rest) : ops.toArray[i]? = some o := by
  rw [List.getElem?_toArray, ← List.head?_drop, h]; rfl
/-- An operation that is taken, by its place in the list. -/
theorem take_yes (i : Nat) {ops : List Oper} {o : Oper} {rest : List Oper} {v : Value} {fuel : Nat} {listed : Array Bool} {a : Act} {w : World} (hi : ops.drop i = o :: rest)
    (hs : Region.noSelect ops.toArray = true) (hf : Region.free md ops.toArray listed i = true) (hr : (Region.ready md ops.toArray listed).contains i = true)
    (hQ : ∀ c a w, Q (.panic c) (a.put o.dst v) w → Q (.panic c) a w) (hw : Region.wanted o (yielded ops.toArray a.tmps) = true) (hy : ∀ w, S w → (execOp a.eval o).run P w = .ok (.value v) w) (hS : S w)
    (h : wpAnyH P md ops.toArray Q S fuel (listed.setIfInBounds i true) (a.put o.dst v) w) : wpAnyH P md ops.toArray Q S (fuel + 1) listed a w := wpAnyH_take (of_drop hi) hs hf hr hQ (.inl ⟨hw, hy⟩) hS h
/-- An operation that its guard leaves out. -/
theorem take_no (i : Nat) {ops : List Oper} {o : Oper} {rest : List Oper} {fuel : Nat} {listed : Array Bool} {a : Act} {w : World} (hi : ops.drop i = o :: rest)
    (hs : Region.noSelect ops.toArray = true) (hf : Region.free md ops.toArray listed i = true) (hr : (Region.ready md ops.toArray listed).contains i = true)
    (hQ : ∀ c a w, Q (.panic c) (a.put o.dst undef) w → Q (.panic c) a w) (hw : Region.wanted o (yielded ops.toArray a.tmps) = false) (hS : S w)
    (h : wpAnyH P md ops.toArray Q S fuel (listed.setIfInBounds i true) (a.put o.dst undef) w) : wpAnyH P md ops.toArray Q S (fuel + 1) listed a w := wpAnyH_take (of_drop hi) hs hf hr hQ (.inr ⟨hw, rfl⟩) hS h
theorem ready_yes (i : Nat) {ops : List Oper} {o : Oper} {rest : List Oper} {fuel : Nat} {listed : Array Bool} {a : Act} {w : World} (hi : ops.drop i = o :: rest)
    (h : ∀ K' : Act → World → Prop, Shut (∀ a w, S w → (S w → wpAnyH P md ops.toArray Q S fuel (listed.setIfInBounds i true) a w) → K' a w) → if Region.wanted o (yielded ops.toArray a.tmps) = true then Oper.wp P o a w K' Q else K' (a.put o.dst undef) w) :
    AllReadyH P md ops.toArray Q S fuel listed a w [i] := AllReadyH.cons (of_drop hi) h AllReadyH.nil
theorem ready_no (i : Nat) {ops : List Oper} {o : Oper} {rest : List Oper} {fuel : Nat} {listed : Array Bool} {a : Act} {w : World} (hi : ops.drop i = o :: rest)
    (hw : Region.wanted o (yielded ops.toArray a.tmps) = false) (hS : S w) (h : wpAnyH P md ops.toArray Q S fuel (listed.setIfInBounds i true) (a.put o.dst undef) w) :
    AllReadyH P md ops.toArray Q S fuel listed a w [i] := AllReadyH.cons (of_drop hi) (fun _ hK => by rw [if_neg (by rw [hw]; decide)]; exact hK.out _ _ hS (fun _ => h)) AllReadyH.nil
end
theorem alloc_size (w : World) (o : Obj) : (w.alloc o).heap.size = w.heap.size + 1 := by show (w.heap.push _).size = _; simp
set_option maxHeartbeats 4000000 in
set_option maxRecDepth 100000 in
theorem spanP_x (A : Option Addr) (c : Nat) (l : List (Int × Int)) (w : World) (hl : l.length ≤ 30) (hA : M.PairRow w A l) :
    Calls Try.prog 4 #[.slice A l.length c] w fun e w' => e = .returned (.bool true) ∧ Below w.heap.size w w' := by
  obtain ⟨i0, hi, hz0, hz1, hz2⟩ := info_parts (by kernel_rfl : (Try.prog.info? 23).map (fun i => (i.zero, i.size, i.bytes)) = some (some (.complex .f64 0 0), 1, 16))
  have HA := Aside0.mk hA
  generalize hn : l.length = n at *
  have HN := Aside0.mk hn
  have e1 : decide (30 < (n : Int)) = false := decide_eq_false (by omega)
  have HL := Aside0.mk hl
  clear hA hn hl
  go_enter Try.func4, Try.ntmps4
  go_wp2
  go_loopw [3, 4, 5, 18] (fun v x s i wr => ∃ (j : Nat), j ≤ n ∧ i = .int .i64 j ∧ x = .int .i64 (M.good (l.take j)).length ∧ s = .int .i64 (M.sumL (M.good (l.take j))) ∧ Aside0 (wr.ownsRow w.heap.size 23 1 v (M.good (l.take j)).length ((M.good (l.take j)).map fun p => Value.complex .f64 (M.fl p.1) (M.fl p.2))) ∧ Aside0 (Below w.heap.size w wr)) (fun _ _ _ i _ => n - (intOf i).toNat)
  case atStart => exact ⟨0, Nat.zero_le _, rfl, rfl, rfl, ⟨World.ownsRow_nil w w.heap.size 23 1⟩, ⟨Below.refl _ _⟩⟩
  case round =>
    obtain ⟨j, hj, rfl, rfl, rfl, HO, HB⟩ := hrel
    by_cases hlt : j < n
    · obtain ⟨b, o, rfl, hbl, hcells⟩ := HA.out (by rw [HN.out]; omega)
      have hjl : j < l.length := by rw [HN.out]; exact hlt
      have hp := List.getElem?_eq_getElem hjl
      have ht : l.take (j + 1) = l.take j ++ [l[j]] := (List.take_append_getElem hjl).symm
      generalize l[j] = p at *
      obtain ⟨p0, p1⟩ := p
      have hc := hcells j _ hp
      have c1 : wr.cell? ⟨b, o + j * 2, none⟩ = some (.int .i64 p0) := by rw [HB.out.cell hbl]; exact hc.1
      have c2 : wr.cell? ⟨b, o + j * 2 + 1, none⟩ = some (.int .i64 p1) := by rw [HB.out.cell hbl]; exact hc.2
      have HC := Aside0.mk hcells
      clear hcells hc
      have hgl := M.good_len (l.take j)
      have hgs := M.sumL_range _ (M.good_may (l.take j))
      have hln := HL.out
      have hlt2 : (l.take j).length = j := by rw [List.length_take, HN.out]; omega
      have hr := M.rmay_c p0 p1
      have hgn := M.good_snoc (l.take j) (p0, p1)
      rw [← ht] at hgn
      by_cases hm : M.mayP p0 p1
      · rw [decide_eq_true hm] at hr
        rw [if_pos hm] at hgn
        have HF := Aside0.mk (of_t hm)
        have HR := Aside0.mk hr
        have HM := Aside0.mk hm
        have hw1 : wrap64 (((M.good (l.take j)).length : Int) + 1) = ((M.good (l.take (j + 1))).length : Int) := by rw [hgn, List.length_append, List.length_singleton]; rw [M.wrap_id (by omega) (by omega)]; omega
        have hw2 : wrap64 (wrap64 (M.sumL (M.good (l.take j)) + p1) - p0) = M.sumL (M.good (l.take (j + 1))) := by
          obtain ⟨h0, h1, h2⟩ := hm
          rw [hgn, M.sumL_snoc, M.wrap_id (x := M.sumL (M.good (l.take j)) + p1) (by omega) (by omega), M.wrap_id (by omega) (by omega)]
          show _ = _ + (p1 - p0)
          omega
        have HO1 : Aside0 ((wr.alloc (.cells #[.int .i64 p0, .int .i64 p1] 36)).ownsRow w.heap.size 23 1 u3 (M.good (l.take j)).length ((M.good (l.take j)).map fun p => Value.complex .f64 (M.fl p.1) (M.fl p.2))) := ⟨HO.out.alloc _⟩
        have HB1 := Aside0.mk (below_alloc HB.out (.cells #[.int .i64 p0, .int .i64 p1] 36))
        have hsz : (wr.alloc (.cells #[.int .i64 p0, .int .i64 p1] 36)).heap.size = wr.heap.size + 1 := by show (wr.heap.push _).size = _; simp
        have HGN := Aside0.mk hgn
        have HGL := Aside0.mk (show (M.good (l.take j)).length < 30 by omega)
        have HO0 := HO
        clear hr hm HB HO ht hp hjl hlt2 hgl hgs hgn
        go_wp2_with (first
          | (go_at_call 15; (with_reducible refine (HF.out _).mono ?_); rintro e w' ⟨rfl, hw'⟩; have hw2 := hw'.symm; subst hw2)
          | (go_at_call 16; (with_reducible refine (clavigerref03_May.calls _ _ _ _ HR.out).mono ?_)))
        rintro e w2 ⟨rfl, hd⟩
        obtain ⟨n1, rfl⟩ := hd.out
        clear hd
        have hown : ((wr.alloc (.cells #[.int .i64 p0, .int .i64 p1] 36)).drewN n1).ownsRow w.heap.size 23 1 u3 (M.good (l.take j)).length ((M.good (l.take j)).map fun p => Value.complex .f64 (M.fl p.1) (M.fl p.2)) := HO1.out
        have hnb : (((wr.alloc (.cells #[.int .i64 p0, .int .i64 p1] 36)).drewN n1).alloc (.cells #[.complex .f64 (M.fl p0) (M.fl p1)] 23)).heap[wr.heap.size + 1]? = some (.cells #[.complex .f64 (M.fl p0) (M.fl p1)] 23 (0, 0)) := by
          have := heap_alloc_new ((wr.alloc (.cells #[.int .i64 p0, .int .i64 p1] 36)).drewN n1) (.cells #[.complex .f64 (M.fl p0) (M.fl p1)] 23)
          rwa [show ((wr.alloc (.cells #[.int .i64 p0, .int .i64 p1] 36)).drewN n1).heap.size = wr.heap.size + 1 from hsz] at this
        go_wp2_with (at_builtin; refine wpList_append_own _ rfl _ _ 35 rfl w.heap.size 23 i0 (.complex .f64 0 0) 1 16 Try.underlying35 hi hz0 hz1 hz2 rfl (by decide) _ _ _ rfl (hown.alloc _) ⟨wr.heap.size + 1, 0, none⟩ 1 1 [.complex .f64 (M.fl p0) (M.fl p1)] rfl rfl ?c1 ?c2 ?c3 ?c4 ?c5 ?_)
        case c1 => exact World.news_of_block (cs := #[.complex .f64 (M.fl p0) (M.fl p1)]) (t := 23) (fr := (0, 0)) hnb
        case c2 => intro u hu; simp at hu; subst hu; rfl
        case c3 => have := HGL.out; unfold maxLen; omega
        case c4 => have := HGL.out; omega
        case c5 => have := HB1.out.size; have e := alloc_size ((wr.alloc (.cells #[.int .i64 p0, .int .i64 p1] 36)).drewN n1) (.cells #[.complex .f64 (M.fl p0) (M.fl p1)] 23); rw [e]; exact Nat.le_succ_of_le this
        intro v6 w6 hown6 hgrow _
        have hne : some wr.heap.size ≠ u3.ownBlock := fun e => by have := (HO0.out.lt _ e.symm).2; omega
        have hbk : (((wr.alloc (.cells #[.int .i64 p0, .int .i64 p1] 36)).drewN n1).alloc (.cells #[.complex .f64 (M.fl p0) (M.fl p1)] 23)).heap[wr.heap.size]? = some (.cells #[.int .i64 p0, .int .i64 p1] 36 (0, 0)) := by
          rw [heap_alloc_old _ _ (by show wr.heap.size < (wr.alloc (.cells #[.int .i64 p0, .int .i64 p1] 36)).heap.size; omega)]
          exact heap_alloc_new wr _
        have HK := Aside0.mk (blk_grown hbk hgrow hne)
        have HO6 : Aside0 (w6.ownsRow w.heap.size 23 1 v6 (M.good (l.take (j + 1))).length ((M.good (l.take (j + 1))).map fun p => Value.complex .f64 (M.fl p.1) (M.fl p.2))) := ⟨by rw [HGN.out]; simpa using hown6⟩
        have HB6 : Aside0 (Below w.heap.size w w6) := ⟨((pw_below_drewN HB1.out n1).alloc (pw_below_drewN HB1.out n1).size _).grown hgrow (by rw [alloc_size]; exact Nat.le_succ_of_le HB1.out.size) (fun q hq => (HO1.out.lt q hq).1)⟩
        have d1 := blk_cell HK.out 0
        have d2 := blk_cell HK.out 1
        have HLT := Aside0.mk (blk_lt HK.out)
        clear hown6 hgrow hne hbk hnb hown HO0 HO1 HB1 HR HF hsz
        generalize hbn : wr.heap.size = bk at *
        clear hbn
        go_wp2
        simp only [hw1, hw2]
        go_loopw [48] (fun i wr => ∃ m : Nat, m ≤ n ∧ i = .int .i64 (m : Int) ∧ Aside0 (Below w6.heap.size w6 wr)) (fun i _ => n - (intOf i).toNat)
        case atStart => exact ⟨0, Nat.zero_le _, rfl, ⟨Below.refl _ _⟩⟩
        case round =>
          obtain ⟨m, hmn, rfl, HB7⟩ := hrel
          by_cases hlm : m < n
          · have hml : m < l.length := by rw [HN.out]; exact hlm
            have hq := List.getElem?_eq_getElem hml
            generalize l[m] = q at *
            obtain ⟨q0, q1⟩ := q
            have hc := HC.out m _ hq
            have k1 : wr.cell? ⟨b, o + m * 2, none⟩ = some (.int .i64 q0) := by rw [HB7.out.cell (Nat.lt_of_lt_of_le hbl HB6.out.size), HB6.out.cell hbl]; exact hc.1
            have k2 : wr.cell? ⟨b, o + m * 2 + 1, none⟩ = some (.int .i64 q1) := by rw [HB7.out.cell (Nat.lt_of_lt_of_le hbl HB6.out.size), HB6.out.cell hbl]; exact hc.2
            have hkb : wr.heap[bk]? = some (.cells #[.int .i64 p0, .int .i64 p1] 36 (0, 0)) := (HB7.out.block _ HLT.out).trans HK.out
            have hbw : bk < wr.heap.size := blk_lt hkb
            clear hq hc c1 c2 d1 d2 HO6 HB6 HK HLT
            have hbn : wr.heap.size ≠ bk := by omega
            obtain ⟨W, hW⟩ : ∃ W, W = wr.alloc (.cells #[.int .i64 q0, .int .i64 q1] 36) := ⟨_, rfl⟩
            have d1 : W.cell? ⟨bk, 0, none⟩ = some (.int .i64 p0) := by rw [hW]; exact blk_cell ((heap_alloc_old _ _ hbw).trans hkb) 0
            have d2 : W.cell? ⟨bk, 1, none⟩ = some (.int .i64 p1) := by rw [hW]; exact blk_cell ((heap_alloc_old _ _ hbw).trans hkb) 1
            have d3 : W.cell? ⟨wr.heap.size, 0, none⟩ = some (.int .i64 q0) := by rw [hW]; exact World.cell?_alloc_new _ _ _ _
            have d4 : W.cell? ⟨wr.heap.size, 1, none⟩ = some (.int .i64 q1) := by rw [hW]; exact World.cell?_alloc_new _ _ _ _
            have HB8 := Aside0.mk (show Below w6.heap.size w6 W by rw [hW]; exact below_alloc HB7.out _)
            clear hkb HB7
            by_cases hq : M.mayP q0 q1
            · have HF := Aside0.mk (of_t hq)
              have hr := M.rmay_c q0 q1
              rw [decide_eq_true hq] at hr
              have HR := Aside0.mk hr
              have hi := M.rinside_c HM.out hq
              have ha := M.rapart_c HM.out hq
              have hi2 := inside_c HM.out hq _ rfl
              have ha2 := apart_c HM.out hq _ rfl
              generalize decide (q0 ≤ p0 ∧ p1 ≤ q1) = x at hi hi2
              generalize decide (p1 ≤ q0 ∨ q1 ≤ p0) = y at ha ha2
              have HI := Aside0.mk hi
              have HI2 := Aside0.mk hi2
              have HAP := Aside0.mk ha
              have HAP2 := Aside0.mk ha2
              have x1 : (x != x) = false := bne_self_eq_false _
              have y1 : (y != y) = false := bne_self_eq_false _
              clear hr hi ha hi2 ha2 hq
              go_wp2_with (go_at_call 15; (with_reducible refine (HF.out _).mono ?_); rintro e w' ⟨rfl, hw'⟩; have hw2 := hw'.symm; subst hw2)
              rw [← hW]
              clear hW
              go_region_held3 (fun W => W.cell? ⟨bk, 0, none⟩ = some (.int .i64 p0) ∧ W.cell? ⟨bk, 1, none⟩ = some (.int .i64 p1) ∧ W.cell? ⟨wr.heap.size, 0, none⟩ = some (.int .i64 q0) ∧ W.cell? ⟨wr.heap.size, 1, none⟩ = some (.int .i64 q1)) (first | exact ⟨d1, d2, d3, d4⟩ | go_keep)
                (first
                  | (go_at_call 16; (with_reducible refine (clavigerref03_May.calls _ _ _ _ HR.out).mono ?_); rintro e w2 ⟨rfl, hd⟩; obtain ⟨nMay, rfl⟩ := hd.out; clear hd)
                  | (go_at_call 25; (with_reducible refine (clavigerref03_Inside.calls _ _ _ _ _ _ HI.out).mono ?_); rintro e w2 ⟨rfl, hd⟩; obtain ⟨nInside, rfl⟩ := hd.out; clear hd)
                  | (go_at_call 27; (with_reducible refine (clavigerref03_Apart.calls _ _ _ _ _ _ HAP.out).mono ?_); rintro e w2 ⟨rfl, hd⟩; obtain ⟨nApart, rfl⟩ := hd.out; clear hd)
                  | (go_at_call 24; (with_reducible refine (HI2.out _).mono ?_); rintro e w' ⟨rfl, hw'⟩; have hw2 := hw'.symm; subst hw2)
                  | (go_at_call 26; (with_reducible refine (HAP2.out _).mono ?_); rintro e w' ⟨rfl, hw'⟩; have hw2 := hw'.symm; subst hw2))
              all_goals
                go_wp2
                exact ⟨⟨m + 1, hlm, by go_num, ⟨pw_below_drewN HB8.out _⟩⟩, by simp [intOf]; omega⟩
            · have HF := Aside0.mk (of_f hq)
              have hr := M.rmay_c q0 q1
              rw [decide_eq_false hq] at hr
              have HR := Aside0.mk hr
              clear hr hq
              go_wp2_with (go_at_call 15; (with_reducible refine (HF.out _).mono ?_); rintro e w' ⟨rfl, hw'⟩; have hw2 := hw'.symm; subst hw2)
              rw [← hW]
              clear hW
              refine wp_region_held_drew (S := (fun W => W.cell? ⟨bk, 0, none⟩ = some (.int .i64 p0) ∧ W.cell? ⟨bk, 1, none⟩ = some (.int .i64 p1) ∧ W.cell? ⟨wr.heap.size, 0, none⟩ = some (.int .i64 q0) ∧ W.cell? ⟨wr.heap.size, 1, none⟩ = some (.int .i64 q1))) (by kernel_rfl) ⟨d1, d2, d3, d4⟩ (fun hHeld => ?_)
              refine take_yes 0 (v := .pointer (some ⟨wr.heap.size, 0, none⟩)) rfl (by kernel_rfl) (by kernel_rfl) (by kernel_rfl) (fun _ _ _ h => h) (by kernel_rfl) ?_ (by assumption) ?_
              · intro w hSw
                obtain ⟨z1, z2, z3, z4⟩ := hSw
                go_simp
              try simp only [Act.put, List.setIfInBounds_toArray, List.set_cons_zero, List.set_cons_succ]
              refine take_yes 1 (v := .int .i64 q0) rfl (by kernel_rfl) (by kernel_rfl) (by kernel_rfl) (fun _ _ _ h => h) (by kernel_rfl) ?_ (by assumption) ?_
              · intro w hSw
                obtain ⟨z1, z2, z3, z4⟩ := hSw
                go_simp
              try simp only [Act.put, List.setIfInBounds_toArray, List.set_cons_zero, List.set_cons_succ]
              refine take_yes 2 (v := .pointer (some ⟨wr.heap.size, 1, none⟩)) rfl (by kernel_rfl) (by kernel_rfl) (by kernel_rfl) (fun _ _ _ h => h) (by kernel_rfl) ?_ (by assumption) ?_
              · intro w hSw
                obtain ⟨z1, z2, z3, z4⟩ := hSw
                go_simp
              try simp only [Act.put, List.setIfInBounds_toArray, List.set_cons_zero, List.set_cons_succ]
              refine take_yes 3 (v := .int .i64 q1) rfl (by kernel_rfl) (by kernel_rfl) (by kernel_rfl) (fun _ _ _ h => h) (by kernel_rfl) ?_ (by assumption) ?_
              · intro w hSw
                obtain ⟨z1, z2, z3, z4⟩ := hSw
                go_simp
              try simp only [Act.put, List.setIfInBounds_toArray, List.set_cons_zero, List.set_cons_succ]
              refine wpAnyH_ready (rs := [4]) (by kernel_rfl) (by simp) ?_
              refine ready_yes 4 rfl (fun K hK => ?_)
              go_simp
              go_at_call 16; (with_reducible refine (clavigerref03_May.calls _ _ _ _ HR.out).mono ?_); rintro e w2 ⟨rfl, hd⟩; obtain ⟨nMay, rfl⟩ := hd.out; clear hd
              refine hK.out _ _ ⟨d1, d2, d3, d4⟩ (fun hHeld => ?_)
              clear hK
              try simp only [Act.put, List.setIfInBounds_toArray, List.set_cons_zero, List.set_cons_succ]
              refine take_yes 5 (v := .bool false) rfl (by kernel_rfl) (by kernel_rfl) (by kernel_rfl) (fun _ _ _ h => h) (by kernel_rfl) ?_ (by assumption) ?_
              · intro w hSw
                obtain ⟨z1, z2, z3, z4⟩ := hSw
                go_simp
              try simp only [Act.put, List.setIfInBounds_toArray, List.set_cons_zero, List.set_cons_succ]
              refine take_no 6 rfl (by kernel_rfl) (by kernel_rfl) (by kernel_rfl) (fun _ _ _ h => h) (by kernel_rfl) (by assumption) ?_
              try simp only [Act.put, List.setIfInBounds_toArray, List.set_cons_zero, List.set_cons_succ]
              refine take_no 7 rfl (by kernel_rfl) (by kernel_rfl) (by kernel_rfl) (fun _ _ _ h => h) (by kernel_rfl) (by assumption) ?_
              try simp only [Act.put, List.setIfInBounds_toArray, List.set_cons_zero, List.set_cons_succ]
              refine take_no 9 rfl (by kernel_rfl) (by kernel_rfl) (by kernel_rfl) (fun _ _ _ h => h) (by kernel_rfl) (by assumption) ?_
              try simp only [Act.put, List.setIfInBounds_toArray, List.set_cons_zero, List.set_cons_succ]
              refine take_no 10 rfl (by kernel_rfl) (by kernel_rfl) (by kernel_rfl) (fun _ _ _ h => h) (by kernel_rfl) (by assumption) ?_
              try simp only [Act.put, List.setIfInBounds_toArray, List.set_cons_zero, List.set_cons_succ]
              refine take_no 11 rfl (by kernel_rfl) (by kernel_rfl) (by kernel_rfl) (fun _ _ _ h => h) (by kernel_rfl) (by assumption) ?_
              try simp only [Act.put, List.setIfInBounds_toArray, List.set_cons_zero, List.set_cons_succ]
              refine take_no 12 rfl (by kernel_rfl) (by kernel_rfl) (by kernel_rfl) (fun _ _ _ h => h) (by kernel_rfl) (by assumption) ?_
              try simp only [Act.put, List.setIfInBounds_toArray, List.set_cons_zero, List.set_cons_succ]
              refine take_no 13 rfl (by kernel_rfl) (by kernel_rfl) (by kernel_rfl) (fun _ _ _ h => h) (by kernel_rfl) (by assumption) ?_
              try simp only [Act.put, List.setIfInBounds_toArray, List.set_cons_zero, List.set_cons_succ]
              refine take_no 14 rfl (by kernel_rfl) (by kernel_rfl) (by kernel_rfl) (fun _ _ _ h => h) (by kernel_rfl) (by assumption) ?_
              try simp only [Act.put, List.setIfInBounds_toArray, List.set_cons_zero, List.set_cons_succ]
              refine take_no 15 rfl (by kernel_rfl) (by kernel_rfl) (by kernel_rfl) (fun _ _ _ h => h) (by kernel_rfl) (by assumption) ?_
              try simp only [Act.put, List.setIfInBounds_toArray, List.set_cons_zero, List.set_cons_succ]
              refine take_no 16 rfl (by kernel_rfl) (by kernel_rfl) (by kernel_rfl) (fun _ _ _ h => h) (by kernel_rfl) (by assumption) ?_
              try simp only [Act.put, List.setIfInBounds_toArray, List.set_cons_zero, List.set_cons_succ]
              refine wpAnyH_ready (rs := [8]) (by kernel_rfl) (by simp) ?_
              refine ready_no 8 rfl (by kernel_rfl) hHeld ?_
              try simp only [Act.put, List.setIfInBounds_toArray, List.set_cons_zero, List.set_cons_succ]
              refine wpAnyH_ready (rs := [17]) (by kernel_rfl) (by simp) ?_
              refine ready_no 17 rfl (by kernel_rfl) hHeld ?_
              try simp only [Act.put, List.setIfInBounds_toArray, List.set_cons_zero, List.set_cons_succ]
              refine take_no 18 rfl (by kernel_rfl) (by kernel_rfl) (by kernel_rfl) (fun _ _ _ h => h) (by kernel_rfl) (by assumption) ?_
              try simp only [Act.put, List.setIfInBounds_toArray, List.set_cons_zero, List.set_cons_succ]
              refine take_no 19 rfl (by kernel_rfl) (by kernel_rfl) (by kernel_rfl) (fun _ _ _ h => h) (by kernel_rfl) (by assumption) ?_
              try simp only [Act.put, List.setIfInBounds_toArray, List.set_cons_zero, List.set_cons_succ]
              refine take_no 20 rfl (by kernel_rfl) (by kernel_rfl) (by kernel_rfl) (fun _ _ _ h => h) (by kernel_rfl) (by assumption) ?_
              try simp only [Act.put, List.setIfInBounds_toArray, List.set_cons_zero, List.set_cons_succ]
              refine take_no 21 rfl (by kernel_rfl) (by kernel_rfl) (by kernel_rfl) (fun _ _ _ h => h) (by kernel_rfl) (by assumption) ?_
              try simp only [Act.put, List.setIfInBounds_toArray, List.set_cons_zero, List.set_cons_succ]
              refine take_no 23 rfl (by kernel_rfl) (by kernel_rfl) (by kernel_rfl) (fun _ _ _ h => h) (by kernel_rfl) (by assumption) ?_
              try simp only [Act.put, List.setIfInBounds_toArray, List.set_cons_zero, List.set_cons_succ]
              refine take_no 24 rfl (by kernel_rfl) (by kernel_rfl) (by kernel_rfl) (fun _ _ _ h => h) (by kernel_rfl) (by assumption) ?_
              try simp only [Act.put, List.setIfInBounds_toArray, List.set_cons_zero, List.set_cons_succ]
              refine take_no 25 rfl (by kernel_rfl) (by kernel_rfl) (by kernel_rfl) (fun _ _ _ h => h) (by kernel_rfl) (by assumption) ?_
              try simp only [Act.put, List.setIfInBounds_toArray, List.set_cons_zero, List.set_cons_succ]
              refine take_no 26 rfl (by kernel_rfl) (by kernel_rfl) (by kernel_rfl) (fun _ _ _ h => h) (by kernel_rfl) (by assumption) ?_
              try simp only [Act.put, List.setIfInBounds_toArray, List.set_cons_zero, List.set_cons_succ]
              refine take_no 27 rfl (by kernel_rfl) (by kernel_rfl) (by kernel_rfl) (fun _ _ _ h => h) (by kernel_rfl) (by assumption) ?_
              try simp only [Act.put, List.setIfInBounds_toArray, List.set_cons_zero, List.set_cons_succ]
              refine take_no 28 rfl (by kernel_rfl) (by kernel_rfl) (by kernel_rfl) (fun _ _ _ h => h) (by kernel_rfl) (by assumption) ?_
              try simp only [Act.put, List.setIfInBounds_toArray, List.set_cons_zero, List.set_cons_succ]
              refine take_no 29 rfl (by kernel_rfl) (by kernel_rfl) (by kernel_rfl) (fun _ _ _ h => h) (by kernel_rfl) (by assumption) ?_
              try simp only [Act.put, List.setIfInBounds_toArray, List.set_cons_zero, List.set_cons_succ]
              refine take_no 30 rfl (by kernel_rfl) (by kernel_rfl) (by kernel_rfl) (fun _ _ _ h => h) (by kernel_rfl) (by assumption) ?_
              try simp only [Act.put, List.setIfInBounds_toArray, List.set_cons_zero, List.set_cons_succ]
              refine wpAnyH_ready (rs := [22]) (by kernel_rfl) (by simp) ?_
              refine ready_no 22 rfl (by kernel_rfl) hHeld ?_
              try simp only [Act.put, List.setIfInBounds_toArray, List.set_cons_zero, List.set_cons_succ]
              refine wpAnyH_ready (rs := [31]) (by kernel_rfl) (by simp) ?_
              refine ready_no 31 rfl (by kernel_rfl) hHeld ?_
              try simp only [Act.put, List.setIfInBounds_toArray, List.set_cons_zero, List.set_cons_succ]
              refine take_no 32 rfl (by kernel_rfl) (by kernel_rfl) (by kernel_rfl) (fun _ _ _ h => h) (by kernel_rfl) (by assumption) ?_
              try simp only [Act.put, List.setIfInBounds_toArray, List.set_cons_zero, List.set_cons_succ]
              refine take_no 33 rfl (by kernel_rfl) (by kernel_rfl) (by kernel_rfl) (fun _ _ _ h => h) (by kernel_rfl) (by assumption) ?_
              try simp only [Act.put, List.setIfInBounds_toArray, List.set_cons_zero, List.set_cons_succ]
              refine take_yes 34 (v := .bool false) rfl (by kernel_rfl) (by kernel_rfl) (by kernel_rfl) (fun _ _ _ h => h) (by kernel_rfl) ?_ (by assumption) ?_
              · intro w hSw
                obtain ⟨z1, z2, z3, z4⟩ := hSw
                go_simp
              try simp only [Act.put, List.setIfInBounds_toArray, List.set_cons_zero, List.set_cons_succ]
              refine wpAnyH_done (by kernel_rfl) ?_ _
              all_goals
                go_wp2
                exact ⟨⟨m + 1, hlm, by go_num, ⟨pw_below_drewN HB8.out _⟩⟩, by simp [intOf]; omega⟩
          · obtain rfl : m = n := by omega
            have HO7 : Aside0 (wr.ownsRow w.heap.size 23 1 v6 (M.good (l.take (j + 1))).length ((M.good (l.take (j + 1))).map fun p => Value.complex .f64 (M.fl p.1) (M.fl p.2))) := ⟨own_move HO6.out (fun q hq => HB7.out.block q (HO6.out.lt q hq).2)⟩
            have HB8 : Aside0 (Below w.heap.size w wr) := ⟨below_then HB6.out HB6.out.size HB7.out⟩
            clear HO6 HB6 HB7
            go_wp2
            exact ⟨⟨j + 1, hlt, by go_num, by first | rfl | rw [hw1], by first | rfl | rw [hw2], HO7, HB8⟩, by simp [intOf]; omega⟩
      · rw [decide_eq_false hm] at hr
        rw [if_neg hm] at hgn
        have HF := Aside0.mk (of_f hm)
        have HR := Aside0.mk hr
        have HO1 : Aside0 ((wr.alloc (.cells #[.int .i64 p0, .int .i64 p1] 36)).ownsRow w.heap.size 23 1 u3 (M.good (l.take (j + 1))).length ((M.good (l.take (j + 1))).map fun p => Value.complex .f64 (M.fl p.1) (M.fl p.2))) := ⟨by rw [hgn]; exact HO.out.alloc _⟩
        have HB1 := Aside0.mk (below_alloc HB.out (.cells #[.int .i64 p0, .int .i64 p1] 36))
        have HGN := Aside0.mk hgn
        clear hr hm HB HO ht hp hjl hlt2 hgl hgs hgn
        go_wp2_with (first
          | (go_at_call 15; (with_reducible refine (HF.out _).mono ?_); rintro e w' ⟨rfl, hw'⟩; have hw2 := hw'.symm; subst hw2)
          | (go_at_call 16; (with_reducible refine (clavigerref03_May.calls _ _ _ _ HR.out).mono ?_); rintro e w2 ⟨rfl, hd⟩; obtain ⟨n1, rfl⟩ := hd.out; clear hd))
        exact ⟨⟨j + 1, hlt, by go_num, by rw [HGN.out], by rw [HGN.out], HO1, ⟨pw_below_drewN HB1.out n1⟩⟩, by simp [intOf]; omega⟩
    · obtain rfl : j = n := by omega
      have e : l.take j = l := by rw [← HN.out, List.take_length]
      rw [e] at HO
      rw [e]
      have hgl := M.good_len l
      have hgs := M.sumL_range _ (M.good_may l)
      have hll := HL.out
      have hln := HN.out
      obtain ⟨A', c', rfl, hS⟩ := span_row HO.out
      have HC := Aside0.mk (count_c A' c' (M.good l) wr hS (M.good_may l) (by omega))
      have q1 := M.same_fl ((M.good l).length : Int) (by omega)
      have q2 := M.same_fl (M.sumL (M.good l)) (by omega)
      have g1 := toF ((M.good l).length : Int)
      have g2 := toF (M.sumL (M.good l))
      clear hgl hgs hln hS e hlt hj
      generalize M.fl ((M.good l).length : Int) = f1 at *
      generalize M.fl (M.sumL (M.good l)) = f2 at *
      go_wp2_with (first
        | (go_at_call 28; (with_reducible refine HC.out.mono ?_); rintro e w' ⟨rfl, hw'⟩; have hw2 := hw'.symm; subst hw2)
        | (go_at_call 14; (with_reducible refine (awake03 _).mono ?_); rintro e w3 ⟨rfl, hb3⟩; have HB3 := Aside0.mk (below_then HB.out HB.out.size hb3); clear hb3))
      go_ret
      exact ⟨rfl, HB3.out⟩
theorem spanP_walk (A : Option Addr) (c : Nat) (l : List (Int × Int)) (w : World) (hA : M.PairRow w A l) : Calls Try.prog 4 #[.slice A l.length c] w fun e w' => e = .returned (.bool true) ∧ Below w.heap.size w w' := by
  by_cases h : l.length > 30
  · have e1 : decide (30 < (l.length : Int)) = true := decide_eq_true (by omega)
    clear h hA
    go_enter Try.func4, Try.ntmps4
    go_wp2_with (go_at_call 14; (with_reducible refine (awake03 _).mono ?_); rintro e w3 ⟨rfl, hb3⟩; have HB3 := Aside0.mk hb3; clear hb3)
    go_ret
    exact ⟨rfl, HB3.out⟩
  · exact spanP_x A c l w (by omega) hA
end Go.Proofs.Ytmcpfkgahmdkgaa.Pr
end
section
namespace Go.Proofs.Ytmcpfkgahmdkgaa.RowAid
set_option maxRecDepth 100000
def c (n : Nat) : Char := Char.ofNat n
def L : List Char := [c 104, c 97, c 114, c 110, c 101, c 115, c 115, c 32, c 52, c 51, c 50, c 56, c 48, c 98, c 101, c 100, c 50, c 51, c 98, c 48, c 100, c 55, c 50, c 52, c 101, c 53, c 56, c 49, c 56, c 53, c 102, c 51, c 102, c 97, c 101, c 51, c 99, c 101, c 98, c 51, c 100, c 49, c 49, c 53, c 99, c 51, c 98, c 57, c 97, c 50, c 102, c 99, c 100, c 56, c 50, c 99, c 97, c 54, c 50, c 57, c 102, c 57, c 97, c 49, c 50, c 56, c 51, c 56, c 99, c 52, c 49, c 97, c 32, c 99, c 117, c 116, c 32, c 97, c 116, c 32, c 99, c 108, c 97, c 118, c 105, c 103, c 101, c 114, c 47, c 99, c 108, c 97, c 118, c 105, c 103, c 101, c 114, c 108, c 97, c 119, c 48, c 51, c 46, c 83, c 112, c 97, c 110, c 84, c 101, c 108, c 108, c 115, c 32, c 99, c 108, c 97, c 118, c 105, c 103, c 101, c 114, c 47, c 99, c 108, c 97, c 118, c 105, c 103, c 101, c 114, c 108, c 97, c 119, c 48, c 51, c 46, c 83, c 112, c 97, c 110, c 80, c 97, c 105, c 114, c 115, c 32, c 99, c 108, c 97, c 118, c 105, c 103, c 101, c 114, c 47, c 99, c 108, c 97, c 118, c 105, c 103, c 101, c 114, c 108, c 97, c 119, c 48, c 51, c 46, c 83, c 112, c 97, c 110, c 66, c 97, c 99, c 107, c 32, c 99, c 108, c 97, c 118, c 105, c 103, c 101, c 114, c 47, c 99, c 108, c 97, c 118, c 105, c 103, c 101, c 114, c 108, c 97, c 119, c 48, c 52, c 46, c 69, c 113, c 117, c 97, c 108, c 84, c 117, c 114, c 110, c 115, c 32, c 99, c 108, c 97, c 118, c 105, c 103, c 101, c 114, c 47, c 99, c 108, c 97, c 118, c 105, c 103, c 101, c 114, c 108, c 97, c 119, c 48, c 52, c 46, c 69, c 113, c 117, c 97, c 108, c 84, c 101, c 108, c 108, c 115, c 32, c 99, c 108, c 97, c 118, c 105, c 103, c 101, c 114, c 47, c 99, c 108, c 97, c 118, c 105, c 103, c 101, c 114, c 108, c 97, c 119, c 49, c 53, c 46, c 72, c 101, c 97, c 100, c 66, c 97, c 99, c 107, c 32, c 99, c 108, c 97, c 118, c 105, c 103, c 101, c 114, c 47, c 99, c 108, c 97, c 118, c 105, c 103, c 101, c 114, c 108, c 97, c 119, c 49, c 53, c 46, c 72, c 101, c 97, c 100, c 83, c 104, c 111, c 114, c 116, c 32, c 99, c 108, c 97, c 118, c 105, c 103, c 101, c 114, c 47, c 99, c 108, c 97, c 118, c 105, c 103, c 101, c 114, c 108, c 97, c 119, c 49, c 53, c 46, c 72, c 101, c 97, c 100, c 84, c 101, c 108, c 108, c 115, c 32, c 99, c 108, c 97, c 118, c 105, c 103, c 101, c 114, c 47, c 99, c 108, c 97, c 118, c 105, c 103, c 101, c 114, c 108, c 97, c 119, c 51, c 51, c 46, c 84, c 101, c 109, c 112, c 108, c 84, c 101, c 108, c 108, c 115, c 32, c 99, c 108, c 97, c 118, c 105, c 103, c 101, c 114, c 47, c 99, c 108, c 97, c 118, c 105, c 103, c 101, c 114, c 108, c 97, c 119, c 51, c 51, c 46, c 84, c 101, c 109, c 112, c 108, c 79, c 112, c 116, c 105, c 111, c 110, c 115, c 32, c 99, c 108, c 97, c 118, c 105, c 103, c 101, c 114, c 47, c 99, c 108, c 97, c 118, c 105, c 103, c 101, c 114, c 108, c 97, c 119, c 51, c 51, c 46, c 84, c 101, c 109, c 112, c 108, c 66, c 97, c 99, c 107]
def WL : List (List Char) := [[c 97, c 116], [c 99, c 108, c 97, c 118, c 105, c 103, c 101, c 114, c 47, c 99, c 108, c 97, c 118, c 105, c 103, c 101, c 114, c 108, c 97, c 119, c 48, c 51, c 46, c 83, c 112, c 97, c 110, c 84, c 101, c 108, c 108, c 115], [c 99, c 108, c 97, c 118, c 105, c 103, c 101, c 114, c 47, c 99, c 108, c 97, c 118, c 105, c 103, c 101, c 114, c 108, c 97, c 119, c 48, c 51, c 46, c 83, c 112, c 97, c 110, c 80, c 97, c 105, c 114, c 115], [c 99, c 108, c 97, c 118, c 105, c 103, c 101, c 114, c 47, c 99, c 108, c 97, c 118, c 105, c 103, c 101, c 114, c 108, c 97, c 119, c 48, c 51, c 46, c 83, c 112, c 97, c 110, c 66, c 97, c 99, c 107], [c 99, c 108, c 97, c 118, c 105, c 103, c 101, c 114, c 47, c 99, c 108, c 97, c 118, c 105, c 103, c 101, c 114, c 108, c 97, c 119, c 48, c 52, c 46, c 69, c 113, c 117, c 97, c 108, c 84, c 117, c 114, c 110, c 115], [c 99, c 108, c 97, c 118, c 105, c 103, c 101, c 114, c 47, c 99, c 108, c 97, c 118, c 105, c 103, c 101, c 114, c 108, c 97, c 119, c 48, c 52, c 46, c 69, c 113, c 117, c 97, c 108, c 84, c 101, c 108, c 108, c 115], [c 99, c 108, c 97, c 118, c 105, c 103, c 101, c 114, c 47, c 99, c 108, c 97, c 118, c 105, c 103, c 101, c 114, c 108, c 97, c 119, c 49, c 53, c 46, c 72, c 101, c 97, c 100, c 66, c 97, c 99, c 107], [c 99, c 108, c 97, c 118, c 105, c 103, c 101, c 114, c 47, c 99, c 108, c 97, c 118, c 105, c 103, c 101, c 114, c 108, c 97, c 119, c 49, c 53, c 46, c 72, c 101, c 97, c 100, c 83, c 104, c 111, c 114, c 116], [c 99, c 108, c 97, c 118, c 105, c 103, c 101, c 114, c 47, c 99, c 108, c 97, c 118, c 105, c 103, c 101, c 114, c 108, c 97, c 119, c 49, c 53, c 46, c 72, c 101, c 97, c 100, c 84, c 101, c 108, c 108, c 115], [c 99, c 108, c 97, c 118, c 105, c 103, c 101, c 114, c 47, c 99, c 108, c 97, c 118, c 105, c 103, c 101, c 114, c 108, c 97, c 119, c 51, c 51, c 46, c 84, c 101, c 109, c 112, c 108, c 84, c 101, c 108, c 108, c 115], [c 99, c 108, c 97, c 118, c 105, c 103, c 101, c 114, c 47, c 99, c 108, c 97, c 118, c 105, c 103, c 101, c 114, c 108, c 97, c 119, c 51, c 51, c 46, c 84, c 101, c 109, c 112, c 108, c 79, c 112, c 116, c 105, c 111, c 110, c 115], [c 99, c 108, c 97, c 118, c 105, c 103, c 101, c 114, c 47, c 99, c 108, c 97, c 118, c 105, c 103, c 101, c 114, c 108, c 97, c 119, c 51, c 51, c 46, c 84, c 101, c 109, c 112, c 108, c 66, c 97, c 99, c 107]]
theorem z0 : Try.prog.initOrder = String.ofList L := by kernel_rfl
theorem z1 : Try.prog.initOrder.toList = L := by rw [z0]; exact String.toList_ofList
theorem z2 : behindMainWord (wordsSigns L) = "cut".toList :: WL := by kernel_rfl
theorem z3 : behindMainWord (wordsSigns Try.prog.initOrder.toList) = "cut".toList :: WL := (congrArg (fun x => behindMainWord (wordsSigns x)) z1).trans z2
theorem strip_cut (r : List (List Char)) : stripLifts liftWords ("cut".toList :: r) = ([], "cut".toList :: r) := by
  unfold liftWords
  simp [stripLifts]
theorem make_cut {P : Program} {r : List (List Char)} (h : behindMainWord (wordsSigns P.initOrder.toList) = "cut".toList :: r) : P.make = some .cut := by
  unfold Program.make
  rw [h]
  simp
theorem lifts_cut {P : Program} {r : List (List Char)} (h : behindMainWord (wordsSigns P.initOrder.toList) = "cut".toList :: r) : P.headLifts = [] := by
  unfold Program.headLifts
  rw [h, strip_cut]
  simp
theorem final_cut {P : Program} {r : List (List Char)} (h : behindMainWord (wordsSigns P.initOrder.toList) = "cut".toList :: r) : P.liftsFinal = false := by
  unfold Program.liftsFinal
  rw [lifts_cut h, h]
  simp
theorem enter_cut {P : Program} {r : List (List Char)} (h : behindMainWord (wordsSigns P.initOrder.toList) = "cut".toList :: r) (h1 : P.laysLater = false) (h2 : P.bearsReflect = false) (h3 : P.doorFits [] = true) : P.mayEnter = true := by
  unfold Program.mayEnter
  rw [h]
  simp only [strip_cut]
  simp [h1, h2, h3]
theorem enter : Try.prog.mayEnter = true := enter_cut z3 (by as_aux_lemma => kernel_rfl) (by as_aux_lemma => kernel_rfl) (by as_aux_lemma => kernel_rfl)
theorem final : Try.prog.liftsFinal = false := final_cut z3
theorem make : Try.prog.make = some .cut := make_cut z3
theorem laid : laidOutB Try.prog = true := by kernel_rfl
theorem rowed : mapsRowed Try.prog = true := by kernel_rfl
theorem heard : Try.prog.stopsHeard = true := by kernel_rfl
theorem plain : Try.prog.plainKeys = true := by kernel_rfl
theorem and_mk {a b : Bool} (h : a = true) (k : b = true) : (a && b) = true := by rw [h, k]; rfl
end Go.Proofs.Ytmcpfkgahmdkgaa.RowAid
end
section
namespace Go.Proofs.Ytmcpfkgahmdkgaa.RowMem
open Go Go.ChangeShapes Go.WideShapes Go.RowKit
set_option linter.unusedVariables false
set_option linter.constructorNameAsVariable false
set_option maxRecDepth 10000
variable {H : Type} {enc : TypeId × Value → H} {W : World} {r : Reach} {b0 base : Nat} {spare : Nat → Bool} {held : Bool} {v : Value} {d : DataW H} {p : List MemPlace}
theorem list2 {α : Type} : ∀ {l : List α}, l.length = 2 → ∃ a b, l = [a, b]
  | [a, b], _ => ⟨a, b, rfl⟩
theorem arr2_cells {fuel : Nat} {cs : List Value} {x : DataW H × List MemPlace} (h : DataW.trod enc Try.prog W base spare held fuel 36 cs = some x) : ∃ a b, cs = [.int .i64 a, .int .i64 b] ∧ (Lit.int .i64 a).wf = true ∧ (Lit.int .i64 b).wf = true := by
  obtain ⟨xs, m, rfl, rfl, hl, hn, hf⟩ := DataW.trod_array Try.underlying36 h
  have e1 : Try.prog.cellsOf 36 = 2 := by kernel_rfl
  have e2 : Try.prog.cellsOf 3 = 1 := by kernel_rfl
  rw [e1] at hl
  obtain ⟨y0, y1, rfl⟩ := list2 hn
  obtain ⟨c0, c1, rfl⟩ := list2 hl
  have h0 := hf 0 (by omega)
  have h1 := hf 1 (by omega)
  rw [e2] at h0 h1
  simp only [Nat.zero_mul, Nat.one_mul, List.drop_zero, List.drop_succ_cons, List.take_succ_cons, List.take_zero, List.getElem?_cons_zero, List.getElem?_cons_succ] at h0 h1
  obtain ⟨a, ha, _, wa⟩ := DataW.trod_int Try.underlying3 h0
  obtain ⟨b, hb, _, wb⟩ := DataW.trod_int Try.underlying3 h1
  exact ⟨a, b, by rw [List.singleton_inj.1 ha, List.singleton_inj.1 hb], wa, wb⟩
/-- Two cells of a row, as numbers. -/
def pairAt (W : World) (a : Addr) (i : Nat) : Int × Int := match W.cell? (a.add (i * 2)), W.cell? (a.add (i * 2 + 1)) with
  | some (.int _ x), some (.int _ y) => (x, y)
  | _, _ => (0, 0)
theorem cells_two {a : Addr} {x y : Value} (h : W.cells? base a 2 = some [x, y]) : W.cell? a = some x ∧ W.cell? (a.add 1) = some y := by
  obtain ⟨_, hl, hc⟩ := World.cells?_some h
  have h0 := hc 0 (by omega)
  have h1 := hc 1 (by omega)
  exact ⟨by simpa [Addr.add] using h0, by simpa using h1⟩
theorem open_sarr2 (hv : Value.okWide Try.prog W r b0 34 v) (h : DataW.Trod enc Try.prog W base (fun _ => true) held 34 v d p) : ∃ (A : Option Addr) (l : List (Int × Int)) (c : Nat), v = .slice A l.length c ∧ M.PairRow W A l := by
  obtain ⟨a0, len, cap, rfl⟩ := okWide_slice Try.underlying34 hv
  obtain ⟨fuel, hf⟩ := h
  have e1 : Try.prog.cellsOf 36 = 2 := by kernel_rfl
  rcases Go.Deep.open_slice Try.underlying34 hf with ⟨hcs, hx⟩ | ⟨a, len', cap', m, n, D, Pl, hcs, hb, hl, hm, hmm, hx, hcell⟩
  · have hcs2 : Value.slice a0 len cap = .slice none 0 0 := List.singleton_inj.1 hcs
    injection hcs2 with g0 g1 g2
    subst g0 g1 g2
    exact ⟨none, [], 0, rfl, fun hp => absurd hp (by simp)⟩
  · have hcs2 : Value.slice a0 len cap = .slice (some a) len' cap' := List.singleton_inj.1 hcs
    injection hcs2 with g0 g1 g2
    subst g0 g1 g2
    have hlm : len ≤ m := by rw [hmm]; split <;> omega
    have each : ∀ i, i < len → W.cell? (a.add (i * 2)) = some (.int .i64 (pairAt W a i).1) ∧ W.cell? (a.add (i * 2 + 1)) = some (.int .i64 (pairAt W a i).2) := by
      intro i hi
      obtain ⟨cs', h1, h2⟩ := hcell i (by omega)
      obtain ⟨x, y, rfl, _, _⟩ := arr2_cells h2
      rw [e1] at h1
      obtain ⟨k0, k1⟩ := cells_two h1
      rw [Addr.add_add] at k1
      unfold pairAt
      rw [k0, k1]
      exact ⟨rfl, rfl⟩
    refine ⟨some a, (List.range len).map (pairAt W a), cap, by rw [List.length_map, List.length_range], fun hp => ?_⟩
    rw [List.length_map, List.length_range] at hp
    obtain ⟨k0, _⟩ := each 0 hp
    have hs : a = ⟨a.block, a.off, none⟩ := by
      obtain ⟨ab, ao, asp⟩ := a
      have : asp = none := by simpa [Addr.add] using World.cell?_spot k0
      subst this
      rfl
    refine ⟨a.block, a.off, by rw [← hs], ?_, fun j q hq => ?_⟩
    · have := World.block_lt_of_cell? W _ k0
      simpa [Addr.add] using this
    · rw [List.getElem?_map] at hq
      have hj : j < len := by
        rcases Nat.lt_or_ge j len with h | h
        · exact h
        · rw [List.getElem?_eq_none (by simpa using h)] at hq
          cases hq
      rw [List.getElem?_range hj] at hq
      obtain rfl : pairAt W a j = q := by simpa using hq
      obtain ⟨k1, k2⟩ := each j hj
      generalize pairAt W a j = z at k1 k2 ⊢
      rw [hs] at k1 k2
      rw [add_plain] at k1 k2
      exact ⟨k1, by rw [Nat.add_assoc]; exact k2⟩
end Go.Proofs.Ytmcpfkgahmdkgaa.RowMem
end
