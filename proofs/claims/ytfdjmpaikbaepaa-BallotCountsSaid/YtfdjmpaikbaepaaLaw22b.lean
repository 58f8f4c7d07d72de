/-
  Layer 22: what any votes of any members weigh, on both sides.
-/
import Derived.Test.YtfdjmpaikbaepaaLaw22
import Derived.Test.YtfdjmpaikbaepaaBallot3
import Derived.Laws.StructEq
namespace Go.Proofs.Ytfdjmpaikbaepaa
open Go.RowKit
set_option linter.unusedVariables false

def RetPl (ms : List Mb) (w : World) (e : Ending) (w' : World) : Prop := ∃ A c, e = .returned (.slice A ms.length c) ∧ SliceOf 6 Mb.cells w' A ms ∧ Below w.heap.size w w'
set_option maxRecDepth 100000 in
set_option maxHeartbeats 4000000 in
theorem plainL_any (A : Option Addr) (n c : Nat) (ms : List Mb) (hn : ms.length = n) (hm : n ≤ 50000) (w : World) (hU : SliceOf 6 Mb.cells w A ms) : Calls Try.prog 55 #[.slice A n c] w (RetPl ms w) := by
  have HU := Lib.hid hU
  have HN := Lib.hid hn
  clear hU hn
  go_enter Try.func55, Try.ntmps55
  go_wp2_with fail
  go_loopw [8, 3] (fun i v wr => ∃ (j : Nat) (u : Value), i = .int .i64 j ∧ u = v ∧ j ≤ n ∧ Hid (OwnM wr w.heap.size u (ms.take j)) ∧ Hid (Below w.heap.size w wr)) (fun i _ _ => n - (intOf i).toNat)
  case atStart => exact ⟨0, _, rfl, rfl, by omega, Lib.hid (OwnC.nil _ _), Lib.hid (Below.refl _ _)⟩
  case round =>
    obtain ⟨j, u, rfl, rfl, hj, hO, hB⟩ := hrel
    by_cases hlt : j < n
    · obtain ⟨b, off, rfl, hbb, hcell⟩ := HU.out (by rw [HN.out]; omega)
      obtain ⟨m, hxj⟩ : ∃ m, ms[j]? = some m := ⟨_, List.getElem?_eq_getElem (by rw [HN.out]; omega)⟩
      obtain ⟨k0, k1, k2, k3, k4, k5⟩ := mb_range (range_below (hcell j _ hxj) hB.out hbb)
      have HS : Hid (ms.take (j + 1) = ms.take j ++ [m]) := Lib.hid (by
        have hj' : j < ms.length := by rw [HN.out]; exact hlt
        have : ms[j] = m := by rw [List.getElem?_eq_getElem hj'] at hxj; exact Option.some.inj hxj
        rw [List.take_succ_eq_append_getElem hj', this])
      have HLen : Hid ((ms.take j).length = j) := Lib.hid (by rw [List.length_take, HN.out]; omega)
      have z1 : (0 : Int) ≤ (j : Int) := by omega
      have z2 : (j : Int) < (n : Int) := by omega
      have HC := Lib.hid (fun W => plain19_any m W)
      have B1 : Hid (Below wr.heap.size wr (wr.alloc (.cells m.cells 73))) := Lib.hid (by (repeat (first | exact Below.refl _ _ | assumption | (refine Below.allocT ?_ _) | refine Below.drew ?_ | refine below_drewN ?_ _ | (refine Below.then ?_ (by assumption)) | (refine Below.setRow ?_ ?_ _; rotate_left; (focus (first | exact Nat.lt_succ_self _ | ((repeat rw [World.size_alloc]); omega) | (simp; done) | (simp; omega) | omega))) | (refine Below.setCell ?_ ?_ _; rotate_left; (focus (first | exact Nat.lt_succ_self _ | ((repeat rw [World.size_alloc]); omega) | (simp; done) | (simp; omega) | omega))) | (refine Below.then' ?_ (by assumption) ?_; rotate_left; (focus (first | exact Nat.lt_succ_self _ | ((repeat rw [World.size_alloc]); omega) | (simp; done) | (simp; omega) | omega))) | fail)); (first | done | fail))
      clear hcell hxj
      go_wp2_with fail
      refine (HC.out _).mono ?_
      rintro e w3 ⟨rfl, hb3⟩
      have B3 := Lib.hid (B1.out.trans (hb3.mono B1.out.size))
      have B3w := Lib.hid (hB.out.trans (B3.out.mono hB.out.size))
      have O3 := Lib.hid (hO.out.stay B3.out)
      clear hb3 B1
      go_wp2_with (at_builtin; refine wpList_append_c rmbs_under rmb_three rfl (by decide) (by decide) Mb.cells_size Mb.cells_one rfl _ _ rfl w.heap.size u (ms.take j) rfl (O3.out.stay ((Below.refl _ _).alloc (Nat.le_refl _) _)) _ 1 m rfl (row_at _ _ _ _ rfl) j HLen.out (by rw [HLen.out]; omega) (by have := B3w.out.size; simp only [World.size_alloc]; omega) ?_; intro A' cap w4 hO4 hg4; have HO4 := Lib.hid hO4; have B4 := Lib.hid (below_grown_c (B3w.out.alloc B3w.out.size _) (Nat.le_refl _) (O3.out.stay ((Below.refl _ _).alloc (Nat.le_refl _) _)) hg4); clear hO4 hg4)
      exact ⟨⟨j + 1, _, by go_num, rfl, by omega, by rw [HS.out]; exact HO4, B4⟩, by simp [intOf]; omega⟩
    · obtain rfl : n = j := by omega
      have hO' := hO.out
      rw [List.take_of_length_le (by rw [HN.out]; exact Nat.le_refl _)] at hO'
      obtain ⟨A', c', rfl, h1, _, _⟩ := hO'.form Mb.cells_size
      have H1 := Lib.hid h1
      clear hO hO' h1 HU
      go_wp2_with fail
      go_ret
      exact ⟨A', c', rfl, H1.out, hB.out⟩
theorem tal_noguard : Try.prog.eqGuardType Try.prog.depth 68 = false := by kernel_rfl
theorem tal_unheld : Try.prog.stoodInHeld 68 = false := by kernel_rfl
theorem run_eql_tal (a b c : Int) (w : World) : (binOp .eql 68 (.agg #[.int .u64 a, .int .u64 b, .int .u64 c]) (.agg #[.int .u64 a, .int .u64 b, .int .u64 c])).run Try.prog w = .ok (.bool true) w := by
  rw [run_eql_struct, run_equalIn_struct w _ _ _ _ tal_under tal_unheld]
  simp [Program.fieldsOf, Try.underlying68, Op.eqFields, part, go_sem]
attribute [go_sem ↓] run_eql_tal
attribute [go_sem] tal_noguard
set_option maxRecDepth 100000 in
set_option maxHeartbeats 8000000 in
theorem counts_few (A A1 A2 : Option Addr) (n c n1 c1 n2 c2 : Nat) (ms : List Mb) (ys ns : List Nat) (hn : ms.length = n) (hok : ∀ m ∈ ms, m.s.eff < 18446744073709551616) (h1 : ys.length = n1) (hb1 : bytesOk ys) (h2 : ns.length = n2) (hb2 : bytesOk ns) (hfew : few22B n n1 n2 = true) (w : World) (hU : SliceOf 6 Mb.cells w A ms) (hV : Bys w A1 ys) (hX : Bys w A2 ns) :
    Calls Try.prog 14 #[.slice A n c, .slice A1 n1 c1, .slice A2 n2 c2] w fun e w' => e = .returned (.bool true) ∧ Below w.heap.size w w' := by
  obtain ⟨f1, f2, f3⟩ := few22_of hfew
  have HF := Lib.hid (fun W => few22_any A A1 A2 n c n1 c1 n2 c2 W)
  rw [hfew] at HF
  have HW := Lib.hid (fun W (h : Below w.heap.size w W) => bweigh_any A A1 n c n1 c1 ms ys hn (by omega) hok h1 hb1 W (hU.below h (Nat.le_refl _)) (hV.below h (Nat.le_refl _)))
  have HPl := Lib.hid (fun W (h : Below w.heap.size w W) => plainL_any A n c ms hn (by omega) W (hU.below h (Nat.le_refl _)))
  unfold RetPl at HPl
  rw [hn] at HPl
  have HRy := Lib.hid (fun W B d (h : Below w.heap.size w W) (hB : SliceOf 6 Mb.cells W B ms) => rweigh22_any B n d ms A1 n1 c1 ys h1 (by omega) hb1 hn (by omega) hok W hB (hV.below h (Nat.le_refl _)))
  have HRn := Lib.hid (fun W B d (h : Below w.heap.size w W) (hB : SliceOf 6 Mb.cells W B ms) => rweigh22_any B n d ms A2 n2 c2 ns h2 (by omega) hb2 hn (by omega) hok W hB (hX.below h (Nat.le_refl _)))
  have HRa := Lib.hid (fun W B d (hB : SliceOf 6 Mb.cells W B ms) => ractive22_any B n d ms hn (by omega) hok W hB)
  unfold RetNat at HRy HRn HRa
  have HC := Lib.hid (fun W (h : Below w.heap.size w W) => bcount_any A A1 A2 n c n1 c1 n2 c2 ms ys ns hn (by omega) hok h1 hb1 h2 hb2 W (hU.below h (Nat.le_refl _)) (hV.below h (Nat.le_refl _)) (hX.below h (Nat.le_refl _)))
  have ly := selL_le ms (fun k => getB ys k) n
  have ln := selL_le ms (fun k => getB ns k) n
  have dy := selL_total hok (fun k => getB ys k) n (by omega)
  have dn := selL_total hok (fun k => getB ns k) n (by omega)
  have da := selL_total hok (fun _ => true) n (by omega)
  unfold cntT at HC
  generalize total (selL ms (fun _ => true) n) = ta at *
  generalize total (selL ms (fun k => getB ys k) n) = ty at *
  generalize total (selL ms (fun k => getB ns k) n) = tn at *
  have HTy := Lib.hid (fun W A c (h : NatV W A (dg ty).length ty) => told_any A _ c ty W h (by omega))
  have HUy := Lib.hid (fun W A c (h : NatV W A (dg ty).length ty) => uint_any A _ c ty W h (by omega))
  have HUn := Lib.hid (fun W A c (h : NatV W A (dg tn).length tn) => uint_any A _ c tn W h (by omega))
  have HUa := Lib.hid (fun W A c (h : NatV W A (dg ta).length ta) => uint_any A _ c ta W h (by omega))
  clear hn hok h1 hb1 h2 hb2 hU hV hX dy dn da hfew
  by_cases hbig : ta ≤ 18446744073709551615
  · rw [if_pos hbig] at HC
    rw [fit_le hbig, fitB_le hbig] at HUa
    rw [told_le hbig] at HC
    rw [fit_le (show ty ≤ 18446744073709551615 by omega), fit_le (show tn ≤ 18446744073709551615 by omega)] at HC
    rw [fit_le (show ty ≤ 18446744073709551615 by omega)] at HUy HW HTy
    rw [fit_le (show tn ≤ 18446744073709551615 by omega)] at HUn
    have e1 : (ty : Int) ≤ (ta : Int) := by omega
    have e2 : (tn : Int) ≤ (ta : Int) := by omega
    generalize fitB ty = fy at *
    generalize fitB tn = fn at *
    generalize toldE ty = oy at *
    clear ly ln hbig
    go_enter Try.func14, Try.ntmps14
    go_wp2_with fail
    refine (awake22_any _).mono ?_
    rintro e w1 ⟨rfl, hb1⟩
    go_wp2_with fail
    refine (HF.out _).mono ?_
    rintro e w2 ⟨rfl, hb2⟩
    have B2 := Lib.hid (Below.then hb1 hb2)
    clear hb1 hb2
    go_wp2_with fail
    refine (HW.out _ B2.out).mono ?_
    rintro e w3 ⟨rfl, hb3⟩
    have B3 := Lib.hid (Below.then B2.out hb3)
    clear B2 hb3
    go_wp2_with fail
    refine (HPl.out _ B3.out).mono ?_
    rintro e w4 ⟨A4, c4, rfl, hS4, hb4⟩
    have B4 := Lib.hid (Below.then B3.out hb4)
    have S4 := Lib.hid hS4
    clear B3 hb4 hS4
    go_wp2_with fail
    refine (HRy.out _ _ _ B4.out S4.out).mono ?_
    rintro e w5 ⟨A5, c5, rfl, hN5, hb5, _⟩
    have B5 := Lib.hid (Below.then B4.out hb5)
    have N5 := Lib.hid hN5
    clear B4 hb5 hN5
    go_wp2_with fail
    refine (HTy.out _ _ _ N5.out).mono ?_
    rintro e w6 ⟨rfl, hb6⟩
    have B6 := Lib.hid (Below.then B5.out hb6)
    clear B5 hb6
    go_wp2_with fail
    refine (HC.out _ B6.out).mono ?_
    rintro e w7 ⟨rfl, hb7⟩
    have B7 := Below.then B6.out hb7
    have r8 : row (w7.alloc (.cells #[.int .u64 (ty : Int), .int .u64 (tn : Int), .int .u64 (ta : Int)] 68)) w7.heap.size = some #[.int .u64 (ty : Int), .int .u64 (tn : Int), .int .u64 (ta : Int)] := row_at _ _ _ _ rfl
    have B8 := Lib.hid (Below.allocT B7 (.cells #[.int .u64 (ty : Int), .int .u64 (tn : Int), .int .u64 (ta : Int)] 68))
    clear B6 hb7 B7
    go_wp2_with fail
    generalize hg7 : w7.heap.size = g7 at *
    generalize w7.alloc (.cells #[.int .u64 (ty : Int), .int .u64 (tn : Int), .int .u64 (ta : Int)] 68) = w8 at *
    clear hg7
    refine (HPl.out _ B8.out).mono ?_
    rintro e w9 ⟨A9, c9, rfl, hS9, hb9⟩
    have r9 := (row_below hb9 (row_lt r8)).trans r8
    have B9 := Lib.hid (Below.then B8.out hb9)
    have S9 := Lib.hid hS9
    clear B8 hb9 hS9 r8
    go_wp2_with fail
    refine (HRa.out _ _ _ S9.out).mono ?_
    rintro e w10 ⟨A10, c10, rfl, hN10, hb10, _⟩
    have r10 := (row_below hb10 (row_lt r9)).trans r9
    have B10 := Lib.hid (Below.then B9.out hb10)
    have N10 := Lib.hid hN10
    clear B9 hb10 hN10 r9
    go_wp2_with fail
    refine (HUa.out _ _ _ N10.out).mono ?_
    rintro e w11 ⟨rfl, hb11⟩
    have r11 := (row_below hb11 (row_lt r10)).trans r10
    have B11 := Lib.hid (Below.then B10.out hb11)
    clear B10 hb11 r10
    go_wp2_with fail
    refine (HPl.out _ B11.out).mono ?_
    rintro e w12 ⟨A12, c12, rfl, hS12, hb12⟩
    have r12 := (row_below hb12 (row_lt r11)).trans r11
    have B12 := Lib.hid (Below.then B11.out hb12)
    have S12 := Lib.hid hS12
    clear B11 hb12 hS12 r11
    go_wp2_with fail
    refine (HRy.out _ _ _ B12.out S12.out).mono ?_
    rintro e w13 ⟨A13, c13, rfl, hN13, hb13, _⟩
    have r13 := (row_below hb13 (row_lt r12)).trans r12
    have B13 := Lib.hid (Below.then B12.out hb13)
    have N13 := Lib.hid hN13
    clear B12 hb13 hN13 r12
    go_wp2_with fail
    refine (HUy.out _ _ _ N13.out).mono ?_
    rintro e w14 ⟨rfl, hb14⟩
    have r14 := (row_below hb14 (row_lt r13)).trans r13
    have B14 := Lib.hid (Below.then B13.out hb14)
    clear B13 hb14 r13
    go_wp2_with fail
    refine (HPl.out _ B14.out).mono ?_
    rintro e w15 ⟨A15, c15, rfl, hS15, hb15⟩
    have r15 := (row_below hb15 (row_lt r14)).trans r14
    have B15 := Lib.hid (Below.then B14.out hb15)
    have S15 := Lib.hid hS15
    clear B14 hb15 hS15 r14
    go_wp2_with fail
    refine (HRn.out _ _ _ B15.out S15.out).mono ?_
    rintro e w16 ⟨A16, c16, rfl, hN16, hb16, _⟩
    have r16 := (row_below hb16 (row_lt r15)).trans r15
    have B16 := Lib.hid (Below.then B15.out hb16)
    have N16 := Lib.hid hN16
    clear B15 hb16 hN16 r15
    go_wp2_with fail
    refine (HUn.out _ _ _ N16.out).mono ?_
    rintro e w17 ⟨rfl, hb17⟩
    have r17 := (row_below hb17 (row_lt r16)).trans r16
    have B17 := Lib.hid (Below.then B16.out hb17)
    clear B16 hb17 r16
    go_wp2_with fail
    go_ret
    exact ⟨rfl, B17.out⟩
  · rw [if_neg hbig] at HC
    rw [fit_gt hbig, show fitB ta = false by unfold fitB; rw [mostN_eq]; simpa using hbig] at HUa
    rw [told_gt hbig] at HC
    generalize fit ty = gy at *
    generalize toldE ty = oy at *
    clear ly ln hbig
    go_enter Try.func14, Try.ntmps14
    go_wp2_with fail
    refine (awake22_any _).mono ?_
    rintro e w1 ⟨rfl, hb1⟩
    go_wp2_with fail
    refine (HF.out _).mono ?_
    rintro e w2 ⟨rfl, hb2⟩
    have B2 := Lib.hid (Below.then hb1 hb2)
    clear hb1 hb2
    go_wp2_with fail
    refine (HW.out _ B2.out).mono ?_
    rintro e w3 ⟨rfl, hb3⟩
    have B3 := Lib.hid (Below.then B2.out hb3)
    clear B2 hb3
    go_wp2_with fail
    refine (HPl.out _ B3.out).mono ?_
    rintro e w4 ⟨A4, c4, rfl, hS4, hb4⟩
    have B4 := Lib.hid (Below.then B3.out hb4)
    have S4 := Lib.hid hS4
    clear B3 hb4 hS4
    go_wp2_with fail
    refine (HRy.out _ _ _ B4.out S4.out).mono ?_
    rintro e w5 ⟨A5, c5, rfl, hN5, hb5, _⟩
    have B5 := Lib.hid (Below.then B4.out hb5)
    have N5 := Lib.hid hN5
    clear B4 hb5 hN5
    go_wp2_with fail
    refine (HTy.out _ _ _ N5.out).mono ?_
    rintro e w6 ⟨rfl, hb6⟩
    have B6 := Lib.hid (Below.then B5.out hb6)
    clear B5 hb6
    go_wp2_with fail
    refine (HC.out _ B6.out).mono ?_
    rintro e w7 ⟨rfl, hb7⟩
    have B7 := Below.then B6.out hb7
    have r8 : row (w7.alloc (.cells #[.int .u64 0, .int .u64 0, .int .u64 0] 68)) w7.heap.size = some #[.int .u64 0, .int .u64 0, .int .u64 0] := row_at _ _ _ _ rfl
    have B8 := Lib.hid (Below.allocT B7 (.cells #[.int .u64 0, .int .u64 0, .int .u64 0] 68))
    clear B6 hb7 B7
    go_wp2_with fail
    generalize hg7 : w7.heap.size = g7 at *
    generalize w7.alloc (.cells #[.int .u64 0, .int .u64 0, .int .u64 0] 68) = w8 at *
    clear hg7
    refine (HPl.out _ B8.out).mono ?_
    rintro e w9 ⟨A9, c9, rfl, hS9, hb9⟩
    have r9 := (row_below hb9 (row_lt r8)).trans r8
    have B9 := Lib.hid (Below.then B8.out hb9)
    have S9 := Lib.hid hS9
    clear B8 hb9 hS9 r8
    go_wp2_with fail
    refine (HRa.out _ _ _ S9.out).mono ?_
    rintro e w10 ⟨A10, c10, rfl, hN10, hb10, _⟩
    have r10 := (row_below hb10 (row_lt r9)).trans r9
    have B10 := Lib.hid (Below.then B9.out hb10)
    have N10 := Lib.hid hN10
    clear B9 hb10 hN10 r9
    go_wp2_with fail
    refine (HUa.out _ _ _ N10.out).mono ?_
    rintro e w11 ⟨rfl, hb11⟩
    have r11 := (row_below hb11 (row_lt r10)).trans r10
    have B11 := Lib.hid (Below.then B10.out hb11)
    clear B10 hb11 r10
    go_wp2_with fail
    go_ret
    exact ⟨rfl, B11.out⟩
theorem ballotCounts_any (A A1 A2 : Option Addr) (n c n1 c1 n2 c2 : Nat) (ms : List Mb) (ys ns : List Nat) (hn : ms.length = n) (hok : ∀ m ∈ ms, m.Ok) (h1 : ys.length = n1) (hb1 : bytesOk ys) (h2 : ns.length = n2) (hb2 : bytesOk ns) (w : World) (hU : SliceOf 6 Mb.cells w A ms) (hV : Bys w A1 ys) (hX : Bys w A2 ns) :
    Calls Try.prog 14 #[.slice A n c, .slice A1 n1 c1, .slice A2 n2 c2] w fun e w' => e = .returned (.bool true) ∧ Below w.heap.size w w' := by
  cases hfew : few22B n n1 n2
  · have HF := Lib.hid (fun W => few22_any A A1 A2 n c n1 c1 n2 c2 W)
    rw [hfew] at HF
    clear hn hok h1 hb1 h2 hb2 hU hV hX hfew
    go_enter Try.func14, Try.ntmps14
    go_wp2_with fail
    refine (awake22_any _).mono ?_
    rintro e w1 ⟨rfl, hb1⟩
    go_wp2_with fail
    refine (HF.out _).mono ?_
    rintro e w2 ⟨rfl, hb2⟩
    have B2 := Lib.hid (Below.then hb1 hb2)
    clear hb1 hb2
    go_wp2_with fail
    go_ret
    exact ⟨rfl, B2.out⟩
  · exact counts_few A A1 A2 n c n1 c1 n2 c2 ms ys ns hn (fun m h => (hok m h).s.eff) h1 hb1 h2 hb2 hfew w hU hV hX
end Go.Proofs.Ytfdjmpaikbaepaa
