/-
  What package ballot's functions answer: Weigh, Count and Passes.
-/
import Derived.Test.YtfdjmpaikbaepaaBallot
import Derived.Test.YtfdjmpaikbaepaaRatio
namespace Go.Proofs.Ytfdjmpaikbaepaa
open Go.RowKit
set_option linter.unusedVariables false

theorem allOne3 (k k' k'' : IntKind) (a b c : Int) : allOne #[.int k a, .int k' b, .int k'' c] = true := by simp [allOne, Value.oneCell']
theorem room3 (a b c : Value) : roomy 0 3 #[a, b, c] = true := rfl
theorem ext3 (a b c : Value) : #[a, b, c].extract 0 3 = #[a, b, c] := rfl
attribute [go_sem] allOne3 room3 ext3
theorem tal_under : Try.prog.underlying 68 = some (.struct (Try.prog.fieldsOf 68)) := by kernel_rfl
theorem tal_info : (Try.prog.info? 68).map (·.size) = some 3 := by kernel_rfl
theorem tal_load {dst : Option Tmp} {x : Operand} {ty : TypeId} {pos : String} {after : Array Edge} {gd : Option (Nat × Bool)} {a : Act} {w : World} {K : Act → World → Prop} {Q : Exit → Act → World → Prop} (h1 : a.eval x = .pointer (some ⟨blk (a.eval x), ofs (a.eval x), none⟩)) (h2 : (row w (blk (a.eval x))).map (roomy (ofs (a.eval x)) 3) = some true) : Oper.wp Try.prog ⟨dst, .load 68 x, ty, pos, after, gd⟩ a w K Q = K (a.put dst (.agg (((row w (blk (a.eval x))).getD #[]).extract (ofs (a.eval x)) (ofs (a.eval x) + 3)))) w := wp_load_part _ 3 _ tal_under rfl tal_info h1 h2
theorem tal_store {dst : Option Tmp} {x : Operand} {ty : TypeId} {pos : String} {after : Array Edge} {gd : Option (Nat × Bool)} {y : Operand} {a : Act} {w : World} {K : Act → World → Prop} {Q : Exit → Act → World → Prop} (h1 : a.eval x = .pointer (some ⟨blk (a.eval x), 0, none⟩)) (h2 : (row w (blk (a.eval x))).map (·.size) = some 3) (h3 : a.eval y = .agg (aggOf (a.eval y))) (h4 : (aggOf (a.eval y)).size = 3) (h5 : allOne (aggOf (a.eval y)) = true) : Oper.wp Try.prog ⟨dst, .store 68 x y, ty, pos, after, gd⟩ a w K Q = K (a.put dst undef) (w.setRow (blk (a.eval x)) (aggOf (a.eval y))) := wp_store_agg _ 3 tal_info h1 h2 h3 h4 h5
theorem tal_run_load {ρ : Operand → Value} {dst : Option Tmp} {x : Operand} {ty : TypeId} {pos : String} {after : Array Edge} {gd : Option (Nat × Bool)} {w : World} (h1 : ρ x = .pointer (some ⟨blk (ρ x), ofs (ρ x), none⟩)) (h2 : (row w (blk (ρ x))).map (roomy (ofs (ρ x)) 3) = some true) : (execOp ρ ⟨dst, .load 68 x, ty, pos, after, gd⟩).run Try.prog w = .ok (.value (.agg (((row w (blk (ρ x))).getD #[]).extract (ofs (ρ x)) (ofs (ρ x) + 3)))) w := run_load_part _ 3 _ tal_under rfl tal_info h1 h2
theorem tal_quiet {C : World → Prop} {dst : Option Tmp} {x : Operand} {ty : TypeId} {pos : String} {after : Array Edge} {gd : Option (Nat × Bool)} {a : Act} {w : World} {g o : Nat} {cs : Array Value} (h1 : a.eval x = .pointer (some ⟨g, o, none⟩)) (h2 : row w g = some cs) (hs : roomy o 3 cs = true) : Oper.quietAt Try.prog ⟨dst, .load 68 x, ty, pos, after, gd⟩ a C w (.agg (cs.extract o (o + 3))) := quiet_load_part _ 3 _ tal_under rfl tal_info h1 h2 hs
attribute [go_sem ↓] tal_load tal_store tal_run_load
set_option maxHeartbeats 2000000 in
theorem bweigh_any (A A1 : Option Addr) (n c n1 c1 : Nat) (ms : List Mb) (bs : List Nat) (hn : ms.length = n) (hm : n ≤ 50000) (hok : ∀ m ∈ ms, m.s.eff < 18446744073709551616) (h1 : bs.length = n1) (hb : bytesOk bs) (w : World) (hU : SliceOf 6 Mb.cells w A ms) (hV : Bys w A1 bs) :
    Calls Try.prog 51 #[.slice A n c, .slice A1 n1 c1] w fun e w' => e = .returned (.tuple #[.int .u64 ((fit (total (selL ms (fun k => getB bs k) n)) : Nat) : Int), .int .i64 (toldE (total (selL ms (fun k => getB bs k) n)))]) ∧ Below w.heap.size w w' := by
  have r0 : row (w.alloc (.cells #[.slice A1 n1 c1] 75)) w.heap.size = some #[.slice A1 n1 c1] := row_at _ _ _ _ rfl
  have hB0 : Below w.heap.size w (w.alloc (.cells #[.slice A1 n1 c1] 75)) := (by (repeat (first | exact Below.refl _ _ | assumption | (refine Below.allocT ?_ _) | refine Below.drew ?_ | refine below_drewN ?_ _ | (refine Below.then ?_ (by assumption)) | (refine Below.setRow ?_ ?_ _; rotate_left; (focus (first | exact Nat.lt_succ_self _ | ((repeat rw [World.size_alloc]); omega) | (simp; done) | (simp; omega) | omega))) | (refine Below.setCell ?_ ?_ _; rotate_left; (focus (first | exact Nat.lt_succ_self _ | ((repeat rw [World.size_alloc]); omega) | (simp; done) | (simp; omega) | omega))) | (refine Below.then' ?_ (by assumption) ?_; rotate_left; (focus (first | exact Nat.lt_succ_self _ | ((repeat rw [World.size_alloc]); omega) | (simp; done) | (simp; omega) | omega))) | fail)); (first | done | fail))
  have HS := Lib.hid (stakesW_any A n c ms w.heap.size A1 n1 c1 bs h1 hb hn hm _ (hU.below hB0 (Nat.le_refl _)) r0 (hV.below hB0 (Nat.le_refl _)))
  have HSum := Lib.hid (fun W A c (h : U64s W A (selL ms (fun k => getB bs k) n)) (hl : (selL ms (fun k => getB bs k) n).length ≤ 9223372036854775807) => msum_any A (selL ms (fun k => getB bs k) n) (selL ms (fun k => getB bs k) n).length c rfl (fun i => selL_getD hok _ n i) hl W h)
  unfold RetU at HS
  generalize selL ms (fun k => getB bs k) n = L at *
  clear hU hV hn hb hok h1 r0
  go_enter Try.func51, Try.ntmps51
  go_wp2_with fail
  refine HS.out.mono ?_
  rintro e w1 ⟨A2, c2, rfl, hO, hb1⟩
  obtain ⟨A3, c3, e3, h3, _, h4⟩ := hO.form u64C_size
  simp only [Value.slice.injEq, true_and] at e3
  obtain ⟨rfl, rfl⟩ := e3
  have HX := Lib.hid (HSum.out w1 A2 c2 (u64s_slice h3) h4)
  have B1 := Lib.hid (Below.then hB0 hb1)
  clear hO h3 h4 hb1 HSum HS hB0
  go_wp2_with fail
  refine (HX.out).mono ?_
  rintro e w2 ⟨rfl, rfl⟩
  go_wp2_with fail
  go_ret2
  exact ⟨rfl, B1.out⟩
def cntT (ms : List Mb) (ys ns : List Nat) (n : Nat) : Array Value := if total (selL ms (fun _ => true) n) ≤ 18446744073709551615 then #[.int .u64 ((fit (total (selL ms (fun k => getB ys k) n)) : Nat) : Int), .int .u64 ((fit (total (selL ms (fun k => getB ns k) n)) : Nat) : Int), .int .u64 ((total (selL ms (fun _ => true) n) : Nat) : Int)] else #[.int .u64 0, .int .u64 0, .int .u64 0]
set_option maxRecDepth 100000 in
set_option maxHeartbeats 2000000 in
theorem bcount_any (A A1 A2 : Option Addr) (n c n1 c1 n2 c2 : Nat) (ms : List Mb) (ys ns : List Nat) (hn : ms.length = n) (hm : n ≤ 50000) (hok : ∀ m ∈ ms, m.s.eff < 18446744073709551616) (h1 : ys.length = n1) (hb1 : bytesOk ys) (h2 : ns.length = n2) (hb2 : bytesOk ns) (w : World) (hU : SliceOf 6 Mb.cells w A ms) (hV : Bys w A1 ys) (hX : Bys w A2 ns) :
    Calls Try.prog 56 #[.slice A n c, .slice A1 n1 c1, .slice A2 n2 c2] w fun e w' => e = .returned (.tuple #[.agg (cntT ms ys ns n), .int .i64 (toldE (total (selL ms (fun _ => true) n)))]) ∧ Below w.heap.size w w' := by
  have r0 : row (w.alloc (.cells #[.int .u64 0, .int .u64 0, .int .u64 0] 68)) w.heap.size = some #[.int .u64 0, .int .u64 0, .int .u64 0] := row_at _ _ _ _ rfl
  have hB0 : Below w.heap.size w (w.alloc (.cells #[.int .u64 0, .int .u64 0, .int .u64 0] 68)) := (by (repeat (first | exact Below.refl _ _ | assumption | (refine Below.allocT ?_ _) | refine Below.drew ?_ | refine below_drewN ?_ _ | (refine Below.then ?_ (by assumption)) | (refine Below.setRow ?_ ?_ _; rotate_left; (focus (first | exact Nat.lt_succ_self _ | ((repeat rw [World.size_alloc]); omega) | (simp; done) | (simp; omega) | omega))) | (refine Below.setCell ?_ ?_ _; rotate_left; (focus (first | exact Nat.lt_succ_self _ | ((repeat rw [World.size_alloc]); omega) | (simp; done) | (simp; omega) | omega))) | (refine Below.then' ?_ (by assumption) ?_; rotate_left; (focus (first | exact Nat.lt_succ_self _ | ((repeat rw [World.size_alloc]); omega) | (simp; done) | (simp; omega) | omega))) | fail)); (first | done | fail))
  have HS := Lib.hid (stakesC_any A n c ms hn hm _ (hU.below hB0 (Nat.le_refl _)))
  have HSum := Lib.hid (fun W A c (h : U64s W A (selL ms (fun _ => true) n)) (hl : (selL ms (fun _ => true) n).length ≤ 9223372036854775807) => msum_any A (selL ms (fun _ => true) n) (selL ms (fun _ => true) n).length c rfl (fun i => selL_getD hok _ n i) hl W h)
  have HWy := Lib.hid (fun W (h : Below w.heap.size w W) => bweigh_any A A1 n c n1 c1 ms ys hn hm hok h1 hb1 W (hU.below h (Nat.le_refl _)) (hV.below h (Nat.le_refl _)))
  have HWn := Lib.hid (fun W (h : Below w.heap.size w W) => bweigh_any A A2 n c n2 c2 ms ns hn hm hok h2 hb2 W (hU.below h (Nat.le_refl _)) (hX.below h (Nat.le_refl _)))
  have HCnt : Hid (cntT ms ys ns n = if total (selL ms (fun _ => true) n) ≤ 18446744073709551615 then #[.int .u64 ((fit (total (selL ms (fun k => getB ys k) n)) : Nat) : Int), .int .u64 ((fit (total (selL ms (fun k => getB ns k) n)) : Nat) : Int), .int .u64 ((total (selL ms (fun _ => true) n) : Nat) : Int)] else #[.int .u64 0, .int .u64 0, .int .u64 0]) := Lib.hid rfl
  unfold RetU at HS
  generalize cntT ms ys ns n = cnt at *
  generalize selL ms (fun _ => true) n = L at *
  generalize fit (total (selL ms (fun k => getB ys k) n)) = ty at *
  generalize fit (total (selL ms (fun k => getB ns k) n)) = tn at *
  generalize toldE (total (selL ms (fun k => getB ys k) n)) = ey at *
  generalize toldE (total (selL ms (fun k => getB ns k) n)) = en at *
  clear hU hV hX hn hb1 hb2 hok h1 h2
  by_cases hle : total L ≤ 18446744073709551615
  · rw [if_pos hle] at HCnt
    rw [fit_le hle, told_le hle] at HSum
    rw [told_le hle]
    generalize total L = tl at *
    clear hle
    go_enter Try.func56, Try.ntmps56
    go_wp2_with fail
    generalize w.alloc (.cells #[.int .u64 0, .int .u64 0, .int .u64 0] 68) = w0 at *
    refine HS.out.mono ?_
    rintro e w1 ⟨A2', c2', rfl, hO, hb1⟩
    obtain ⟨A3, c3, e3, h3, _, h4⟩ := hO.form u64C_size
    simp only [Value.slice.injEq, true_and] at e3
    obtain ⟨rfl, rfl⟩ := e3
    have HX := Lib.hid (HSum.out w1 A2' c2' (u64s_slice h3) h4)
    have r1 := (row_below hb1 (row_lt r0)).trans r0
    have B1 := Lib.hid (Below.then hB0 hb1)
    clear hO h3 h4 hb1 HSum HS hB0 r0
    go_wp2_with fail
    refine (HX.out).mono ?_
    rintro e w2 ⟨rfl, rfl⟩
    go_wp2_with fail
    refine (HWy.out _ B1.out).mono ?_
    rintro e w2 ⟨rfl, hb2⟩
    have r2 := (row_below hb2 (row_lt r1)).trans r1
    have B2 := Lib.hid (Below.then B1.out hb2)
    clear r1 B1 hb2 HX
    go_wp2_with fail
    refine (HWn.out _ B2.out).mono ?_
    rintro e w3 ⟨rfl, hb3⟩
    have r3 := (row_below hb3 (row_lt r2)).trans r2
    have B3 := Lib.hid (Below.then B2.out hb3)
    clear r2 B2 hb3
    obtain ⟨t3, ht3⟩ := row_heap (row_setRow (new := #[.int .u64 (ty : Int), .int .u64 (tn : Int), .int .u64 (tl : Int)]) r3)
    have HT3 := Lib.hid ht3
    clear ht3
    go_wp2_with fail
    exact bodyPost_ret (v := .tuple #[.agg #[.int .u64 (ty : Int), .int .u64 (tn : Int), .int .u64 (tl : Int)], .int .i64 0]) (results_cell_tmp Try.results56 _ _ w.heap.size _ _ (0, 0) _ rfl HT3.out tal_under rfl tal_info) rfl ⟨by rw [HCnt.out], Below.setRow B3.out (Nat.le_refl _) _⟩
  · rw [if_neg hle] at HCnt
    rw [fit_gt hle, told_gt hle] at HSum
    rw [told_gt hle]
    generalize total L = tl at *
    clear hle
    go_enter Try.func56, Try.ntmps56
    go_wp2_with fail
    generalize w.alloc (.cells #[.int .u64 0, .int .u64 0, .int .u64 0] 68) = w0 at *
    refine HS.out.mono ?_
    rintro e w1 ⟨A2', c2', rfl, hO, hb1⟩
    obtain ⟨A3, c3, e3, h3, _, h4⟩ := hO.form u64C_size
    simp only [Value.slice.injEq, true_and] at e3
    obtain ⟨rfl, rfl⟩ := e3
    have HX := Lib.hid (HSum.out w1 A2' c2' (u64s_slice h3) h4)
    have r1 := (row_below hb1 (row_lt r0)).trans r0
    have B1 := Lib.hid (Below.then hB0 hb1)
    clear hO h3 h4 hb1 HSum HS hB0 r0
    go_wp2_with fail
    refine (HX.out).mono ?_
    rintro e w2 ⟨rfl, rfl⟩
    obtain ⟨t3, ht3⟩ := row_heap (row_setRow (new := #[.int .u64 0, .int .u64 0, .int .u64 0]) r1)
    have HT3 := Lib.hid ht3
    clear ht3
    go_wp2_with fail
    exact bodyPost_ret (v := .tuple #[.agg #[.int .u64 0, .int .u64 0, .int .u64 0], .int .i64 10]) (results_cell_tmp Try.results56 _ _ w.heap.size _ _ (0, 0) _ rfl HT3.out tal_under rfl tal_info) rfl ⟨by rw [HCnt.out], Below.setRow B1.out (Nat.le_refl _) _⟩
/-- Are enough for it? -/
def passB (q : Int) (y n a : Nat) : Bool := decide (y + n ≤ 18446744073709551615) && (decide (a ≠ 0) && (decide (n < y) && (decide (0 ≤ q) && decide (q.toNat * a ≤ (y + n) * 10000))))
set_option maxRecDepth 100000 in
set_option maxHeartbeats 2000000 in
theorem bpasses_any (P : Par) (y n a : Nat) (hy : y < 18446744073709551616) (hn : n < 18446744073709551616) (ha : a < 18446744073709551616) (hq : i64ok P.quorum) (w : World) :
    Calls Try.prog 52 #[.agg P.cells, .agg #[.int .u64 (y : Int), .int .u64 (n : Int), .int .u64 (a : Int)]] w fun e w' => e = .returned (.bool (passB P.quorum y n a)) ∧ Below w.heap.size w w' := by
  have r0 : row ((w.alloc (.cells P.cells 24)).alloc (.cells #[.int .u64 (y : Int), .int .u64 (n : Int), .int .u64 (a : Int)] 68)) w.heap.size = some P.cells := (by (repeat (first | assumption | (refine row_at _ _ _ _ ?_; first | rfl | (simp only [World.size_alloc]; done) | (simp only [World.size_alloc]; omega)) | (refine (row_past _ _ _ ?_).trans ?_; (focus (first | exact Nat.lt_succ_self _ | ((repeat rw [World.size_alloc]); omega) | (simp; done) | (simp; omega) | omega))) | rw [row_drewN] | rw [row_drew])); (first | done | fail))
  have s0 : row ((w.alloc (.cells P.cells 24)).alloc (.cells #[.int .u64 (y : Int), .int .u64 (n : Int), .int .u64 (a : Int)] 68)) (w.heap.size + 1) = some #[.int .u64 (y : Int), .int .u64 (n : Int), .int .u64 (a : Int)] := (by (repeat (first | assumption | (refine row_at _ _ _ _ ?_; first | rfl | (simp only [World.size_alloc]; done) | (simp only [World.size_alloc]; omega)) | (refine (row_past _ _ _ ?_).trans ?_; (focus (first | exact Nat.lt_succ_self _ | ((repeat rw [World.size_alloc]); omega) | (simp; done) | (simp; omega) | omega))) | rw [row_drewN] | rw [row_drew])); (first | done | fail))
  have hB0 : Below w.heap.size w ((w.alloc (.cells P.cells 24)).alloc (.cells #[.int .u64 (y : Int), .int .u64 (n : Int), .int .u64 (a : Int)] 68)) := (by (repeat (first | exact Below.refl _ _ | assumption | (refine Below.allocT ?_ _) | refine Below.drew ?_ | refine below_drewN ?_ _ | (refine Below.then ?_ (by assumption)) | (refine Below.setRow ?_ ?_ _; rotate_left; (focus (first | exact Nat.lt_succ_self _ | ((repeat rw [World.size_alloc]); omega) | (simp; done) | (simp; omega) | omega))) | (refine Below.setCell ?_ ?_ _; rotate_left; (focus (first | exact Nat.lt_succ_self _ | ((repeat rw [World.size_alloc]); omega) | (simp; done) | (simp; omega) | omega))) | (refine Below.then' ?_ (by assumption) ?_; rotate_left; (focus (first | exact Nat.lt_succ_self _ | ((repeat rw [World.size_alloc]); omega) | (simp; done) | (simp; omega) | omega))) | fail)); (first | done | fail))
  have HA := Lib.hid (fun W => madd_any y n hy hn W)
  have c1 := fun i => row_cell r0 i
  have c2 := fun i => row_cell s0 i
  by_cases h1 : y + n ≤ 18446744073709551615
  · rw [fit_le h1, told_le h1] at HA
    by_cases h2 : a = 0
    · have HV : Hid (passB P.quorum y n a = false) := Lib.hid (by simp [passB, h2])
      have d2 : ((a : Int) == 0) = true := by rw [h2]; rfl
      clear h1 h2
      go_enter Try.func52, Try.ntmps52
      go_wp2_with fail
      generalize (w.alloc (.cells P.cells 24)).alloc (.cells #[.int .u64 (y : Int), .int .u64 (n : Int), .int .u64 (a : Int)] 68) = w0 at *
      go_wp2_with fail
      refine (HA.out _).mono ?_
      rintro e w1 ⟨rfl, rfl⟩
      go_wp2_with fail
      go_ret
      exact ⟨by rw [HV.out]; rfl, hB0⟩
    · have d2 : ((a : Int) == 0) = false := beq_eq_false_iff_ne.2 (by omega)
      by_cases h3 : n < y
      · have d3 : ¬ (y : Int) ≤ (n : Int) := by omega
        by_cases h4 : 0 ≤ P.quorum
        · obtain ⟨k, hk⟩ := Int.eq_ofNat_of_zero_le h4
          have hk' : P.quorum = (k : Int) := hk
          have hkl : k < 18446744073709551616 := by unfold i64ok at hq; omega
          have HL := Lib.hid (fun W => less_any (y + n) 10000 k a (by omega) (by omega) hkl ha W)
          have HV : Hid (passB P.quorum y n a = !lessB (y + n) 10000 k a) := Lib.hid (by
            unfold passB lessB
            rw [hk', decide_eq_true h1, decide_eq_true h2, decide_eq_true h3, decide_eq_true (show (0 : Int) ≤ (k : Int) by omega)]
            simp only [Bool.true_and, Int.toNat_natCast]
            rw [Bool.eq_iff_iff]; simp)
          have E1 : IntKind.u64.wrap P.quorum = (k : Int) := by rw [hk']; exact Bits.wrapN _ hkl
          have d4 : ¬ P.quorum < 0 := by omega
          generalize lessB (y + n) 10000 k a = lb at *
          clear h1 h2 h3 h4 hk hk' hq
          go_enter Try.func52, Try.ntmps52
          go_wp2_with fail
          generalize (w.alloc (.cells P.cells 24)).alloc (.cells #[.int .u64 (y : Int), .int .u64 (n : Int), .int .u64 (a : Int)] 68) = w0 at *
          go_wp2_with fail
          refine (HA.out _).mono ?_
          rintro e w1 ⟨rfl, rfl⟩
          go_wp2_with fail
          refine (HL.out _).mono ?_
          rintro e w2 ⟨rfl, hb2⟩
          have B2 := Lib.hid (Below.then hB0 hb2)
          clear hb2
          go_wp2_with fail
          go_ret
          exact ⟨by rw [HV.out]; rfl, B2.out⟩
        · have d4 : P.quorum < 0 := by omega
          have HV : Hid (passB P.quorum y n a = false) := Lib.hid (by unfold passB; rw [decide_eq_false h4]; simp)
          clear h1 h2 h3 h4 hq
          go_enter Try.func52, Try.ntmps52
          go_wp2_with fail
          generalize (w.alloc (.cells P.cells 24)).alloc (.cells #[.int .u64 (y : Int), .int .u64 (n : Int), .int .u64 (a : Int)] 68) = w0 at *
          go_wp2_with fail
          refine (HA.out _).mono ?_
          rintro e w1 ⟨rfl, rfl⟩
          go_wp2_with fail
          go_ret
          exact ⟨by rw [HV.out]; rfl, hB0⟩
      · have d3 : (y : Int) ≤ (n : Int) := by omega
        have HV : Hid (passB P.quorum y n a = false) := Lib.hid (by unfold passB; rw [decide_eq_false h3]; simp)
        clear h1 h2 h3 hq
        go_enter Try.func52, Try.ntmps52
        go_wp2_with fail
        generalize (w.alloc (.cells P.cells 24)).alloc (.cells #[.int .u64 (y : Int), .int .u64 (n : Int), .int .u64 (a : Int)] 68) = w0 at *
        go_wp2_with fail
        refine (HA.out _).mono ?_
        rintro e w1 ⟨rfl, rfl⟩
        go_wp2_with fail
        go_ret
        exact ⟨by rw [HV.out]; rfl, hB0⟩
  · rw [fit_gt h1, told_gt h1] at HA
    have HV : Hid (passB P.quorum y n a = false) := Lib.hid (by unfold passB; rw [decide_eq_false h1]; simp)
    clear h1 hq
    go_enter Try.func52, Try.ntmps52
    go_wp2_with fail
    generalize (w.alloc (.cells P.cells 24)).alloc (.cells #[.int .u64 (y : Int), .int .u64 (n : Int), .int .u64 (a : Int)] 68) = w0 at *
    go_wp2_with fail
    refine (HA.out _).mono ?_
    rintro e w1 ⟨rfl, rfl⟩
    go_wp2_with fail
    go_ret
    exact ⟨by rw [HV.out]; rfl, hB0⟩
end Go.Proofs.Ytfdjmpaikbaepaa
