/-
  What package ballot's functions answer: what votes weigh.
  What package ballot's functions answer: Weigh, Count and Passes.
-/
import Derived.Test.YtnakkjgnjffkpaaSel
import Derived.Test.YtnakkjgnjffkpaaRatio
namespace Go.Proofs.Ytnakkjgnjffkpaa
open Go.RowKit
set_option linter.unusedVariables false

/-- A call that answers a list of numbers of its own. -/
def RetU (w : World) (l : List Nat) (e : Ending) (w' : World) : Prop := ∃ A c, e = .returned (.slice A l.length c) ∧ OwnU w' w.heap.size (.slice A l.length c) l ∧ Below w.heap.size w w'
theorem votes_any (i : Nat) (gV : Nat) (A1 : Option Addr) (n1 c1 : Nat) (bs : List Nat) (hi : i ≤ 1000000) (h1 : bs.length = n1) (hb : bytesOk bs) (w : World) (hV : row w gV = some #[.slice A1 n1 c1]) (hU : Bys w A1 bs) :
    Calls Try.prog 163 #[.int .i64 (i : Int), .pointer (some ⟨gV, 0, none⟩)] w fun e w' => e = .returned (.bool (getB bs i)) ∧ Below w.heap.size w w' := by
  have HG := Lib.hid (fun W (h : Bys W A1 bs) => get_any A1 n1 c1 bs i h1 hb (by omega) W h)
  have c1' := fun k => row_cell hV k
  have HU := Lib.hid hU
  generalize getB bs (i : Int) = q at *
  clear h1 hb hU
  go_enter Try.func163, Try.ntmps163
  go_wp2_with fail
  refine (HG.out _ HU.out).mono ?_
  rintro e w1 ⟨rfl, hb1⟩
  go_wp2_with fail
  go_ret
  exact ⟨rfl, hb1⟩
theorem every_any (i : Nat) (w : World) : Calls Try.prog 148 #[.int .i64 (i : Int)] w fun e w' => e = .returned (.bool true) ∧ Below w.heap.size w w' := by
  go_enter Try.func148, Try.ntmps148
  go_wp2_with fail
  go_ret
  exact ⟨rfl, Below.refl _ _⟩
set_option maxRecDepth 100000 in
set_option maxHeartbeats 4000000 in
theorem stakesW_any (A : Option Addr) (n c : Nat) (ms : List Mb) (gV : Nat) (A1 : Option Addr) (n1 c1 : Nat) (bs : List Nat) (h1 : bs.length = n1) (hb : bytesOk bs) (hn : ms.length = n) (hm : n ≤ 50000) (w : World) (hU : SliceOf 6 Mb.cells w A ms) (hV : row w gV = some #[.slice A1 n1 c1]) (hW : Bys w A1 bs) :
    Calls Try.prog 147 #[.slice A n c, .func (.func 163) #[] #[.pointer (some ⟨gV, 0, none⟩)]] w (RetU w (selL ms (fun k => getB bs k) n)) := by
  have HU := Lib.hid hU
  have HN := Lib.hid hn
  have HLen := Lib.hid (fun k => selL_len ms (fun k => getB bs k) k)
  have HV := Lib.hid hV
  have HW := Lib.hid hW
  have HVt := Lib.hid (fun (i : Nat) (hi : i ≤ 1000000) W h k => votes_any i gV A1 n1 c1 bs hi h1 hb W h k)
  clear hV hW h1 hb
  clear hU hn
  go_enter Try.func147, Try.ntmps147
  go_wp2_with fail
  go_loopw [10, 5] (fun i u wr => ∃ (j : Nat) (U : Value), i = .int .i64 j ∧ U = u ∧ j ≤ n ∧ Hid (OwnU wr w.heap.size U (selL ms (fun k => getB bs k) j)) ∧ Hid (Below w.heap.size w wr)) (fun i _ _ => n - (intOf i).toNat)
  case atStart => exact ⟨0, _, rfl, rfl, by omega, Lib.hid (OwnC.nil _ _), Lib.hid (Below.refl _ _)⟩
  case round =>
    obtain ⟨j, U, rfl, rfl, hj, hOU, hB⟩ := hrel
    by_cases hlt : j < n
    · obtain ⟨b, off, rfl, hbb, hcell⟩ := HU.out (by rw [HN.out]; omega)
      obtain ⟨m, hxj⟩ : ∃ m, ms[j]? = some m := ⟨_, List.getElem?_eq_getElem (by rw [HN.out]; omega)⟩
      obtain ⟨k0, k1, k2, k3, k4, k5⟩ := mb_range (range_below (hcell j _ hxj) hB.out hbb)
      have z1 : (0 : Int) ≤ (j : Int) := by omega
      have z2 : (j : Int) < (n : Int) := by omega
      have HX := Lib.hid hxj
      have r1 : Hid (row (wr.alloc (.cells m.cells 197)) wr.heap.size = some m.cells) := Lib.hid (row_at _ _ _ _ rfl)
      have B1 : Hid (Below wr.heap.size wr (wr.alloc (.cells m.cells 197))) := Lib.hid (by (repeat (first | exact Below.refl _ _ | assumption | (refine Below.allocT ?_ _) | refine Below.drew ?_ | refine below_drewN ?_ _ | (refine Below.then ?_ (by assumption)) | (refine Below.setRow ?_ ?_ _; rotate_left; (focus (first | exact Nat.lt_succ_self _ | ((repeat rw [World.size_alloc]); omega) | (simp; done) | (simp; omega) | omega))) | (refine Below.setCell ?_ ?_ _; rotate_left; (focus (first | exact Nat.lt_succ_self _ | ((repeat rw [World.size_alloc]); omega) | (simp; done) | (simp; omega) | omega))) | (refine Below.then' ?_ (by assumption) ?_; rotate_left; (focus (first | exact Nat.lt_succ_self _ | ((repeat rw [World.size_alloc]); omega) | (simp; done) | (simp; omega) | omega))) | fail)); (first | done | fail))
      have HC := Lib.hid (fun W => counts_any m W)
      clear hcell hxj
      cases hc : countsB m.status
      · have S1 : Hid (selL ms (fun k => getB bs k) (j + 1) = selL ms (fun k => getB bs k) j) := Lib.hid (by rw [selL, oneS_no HX.out hc, List.append_nil])
        rw [hc] at HC
        clear hc
        go_wp2_with fail
        refine (HC.out _).mono ?_
        rintro e w1 ⟨rfl, hb1⟩
        have B2 := Lib.hid (B1.out.trans (hb1.mono B1.out.size))
        clear hb1
        go_wp2_with fail
        exact ⟨⟨j + 1, _, by go_num, rfl, by omega, by rw [S1.out]; exact Lib.hid (hOU.out.stay B2.out), Lib.hid (hB.out.trans (B2.out.mono hB.out.size))⟩, by simp [intOf]; omega⟩
      · rw [hc] at HC
        have HF := Lib.hid (HVt.out j (by omega))
        have S1y : Hid ((getB bs (j : Int)) = true → selL ms (fun k => getB bs k) (j + 1) = selL ms (fun k => getB bs k) j ++ [m.s.eff]) := Lib.hid (fun h => by rw [selL, oneS_yes HX.out hc h])
        have S1n : Hid ((getB bs (j : Int)) = false → selL ms (fun k => getB bs k) (j + 1) = selL ms (fun k => getB bs k) j) := Lib.hid (fun h => by rw [selL, oneS_not HX.out h, List.append_nil])
        have lu := HLen.out j
        generalize hLU : selL ms (fun k => getB bs k) j = LU at *
        obtain ⟨pu, hpu⟩ : ∃ p, p = LU.length := ⟨_, rfl⟩
        rw [← hpu] at lu
        have HPU : Hid (LU.length = pu) := Lib.hid hpu.symm
        clear hc hLU hpu
        go_wp2_with fail
        refine (HC.out _).mono ?_
        rintro e w1 ⟨rfl, hb1⟩
        have r2 := Lib.hid ((row_below hb1 (row_lt r1.out)).trans r1.out)
        have B2 := Lib.hid (B1.out.trans (hb1.mono B1.out.size))
        have B2w := Lib.hid (hB.out.trans (B2.out.mono hB.out.size))
        clear hb1 B1
        go_wp2_with fail
        refine (HF.out _ ((row_below B2w.out (row_lt HV.out)).trans HV.out) (HW.out.stay B2w.out)).mono ?_
        rintro e w2 ⟨rfl, hb2⟩
        have r3 := (row_below hb2 (row_lt r2.out)).trans r2.out
        have c3 := fun i => row_cell r3 i
        have B3 := Lib.hid (B2.out.trans (hb2.mono B2.out.size))
        have B3w := Lib.hid (hB.out.trans (B3.out.mono hB.out.size))
        have OU3 := Lib.hid (hOU.out.stay B3.out)
        clear hb2
        generalize hsel : (getB bs (j : Int)) = sj at *
        clear hsel
        cases sj
        · go_wp2_with fail
          exact ⟨⟨j + 1, _, by go_num, rfl, by omega, by rw [S1n.out (by simp)]; exact OU3, B3w⟩, by simp [intOf]; omega⟩
        · go_wp2_with (at_builtin; refine wpList_append_c u64s_under u64_three rfl (by decide) (by decide) u64C_size u64C_one rfl _ _ rfl w.heap.size U LU rfl (OU3.out.stay ((Below.refl _ _).alloc (Nat.le_refl _) _)) _ 1 m.s.eff rfl (row_at _ _ _ _ rfl) pu HPU.out (by rw [HPU.out]; omega) (by have := B3w.out.size; simp only [World.size_alloc]; omega) ?_; intro A' cap w4 hO4 hg4; have HO4 := Lib.hid hO4; have B4 := Lib.hid (below_grown_c (B3w.out.alloc B3w.out.size _) (Nat.le_refl _) (OU3.out.stay ((Below.refl _ _).alloc (Nat.le_refl _) _)) hg4); clear hO4 hg4)
          exact ⟨⟨j + 1, _, by go_num, rfl, by omega, by rw [S1y.out (by simp)]; exact HO4, B4⟩, by simp [intOf]; omega⟩
    · obtain rfl : n = j := by omega
      have hO' := hOU.out
      obtain ⟨A', c', rfl, h⟩ := hO'.form u64C_size
      clear h
      have HO' := Lib.hid hO'
      clear hO' hOU HU
      go_wp2_with fail
      go_ret
      exact ⟨A', c', rfl, HO'.out, hB.out⟩
set_option maxRecDepth 100000 in
set_option maxHeartbeats 4000000 in
theorem stakesC_any (A : Option Addr) (n c : Nat) (ms : List Mb)  (hn : ms.length = n) (hm : n ≤ 50000) (w : World) (hU : SliceOf 6 Mb.cells w A ms)  :
    Calls Try.prog 147 #[.slice A n c, .func (.func 148) #[] #[]] w (RetU w (selL ms (fun k => true) n)) := by
  have HU := Lib.hid hU
  have HN := Lib.hid hn
  have HLen := Lib.hid (fun k => selL_len ms (fun k => true) k)

  clear hU hn
  go_enter Try.func147, Try.ntmps147
  go_wp2_with fail
  go_loopw [10, 5] (fun i u wr => ∃ (j : Nat) (U : Value), i = .int .i64 j ∧ U = u ∧ j ≤ n ∧ Hid (OwnU wr w.heap.size U (selL ms (fun k => true) j)) ∧ Hid (Below w.heap.size w wr)) (fun i _ _ => n - (intOf i).toNat)
  case atStart => exact ⟨0, _, rfl, rfl, by omega, Lib.hid (OwnC.nil _ _), Lib.hid (Below.refl _ _)⟩
  case round =>
    obtain ⟨j, U, rfl, rfl, hj, hOU, hB⟩ := hrel
    by_cases hlt : j < n
    · obtain ⟨b, off, rfl, hbb, hcell⟩ := HU.out (by rw [HN.out]; omega)
      obtain ⟨m, hxj⟩ : ∃ m, ms[j]? = some m := ⟨_, List.getElem?_eq_getElem (by rw [HN.out]; omega)⟩
      obtain ⟨k0, k1, k2, k3, k4, k5⟩ := mb_range (range_below (hcell j _ hxj) hB.out hbb)
      have z1 : (0 : Int) ≤ (j : Int) := by omega
      have z2 : (j : Int) < (n : Int) := by omega
      have HX := Lib.hid hxj
      have r1 : Hid (row (wr.alloc (.cells m.cells 197)) wr.heap.size = some m.cells) := Lib.hid (row_at _ _ _ _ rfl)
      have B1 : Hid (Below wr.heap.size wr (wr.alloc (.cells m.cells 197))) := Lib.hid (by (repeat (first | exact Below.refl _ _ | assumption | (refine Below.allocT ?_ _) | refine Below.drew ?_ | refine below_drewN ?_ _ | (refine Below.then ?_ (by assumption)) | (refine Below.setRow ?_ ?_ _; rotate_left; (focus (first | exact Nat.lt_succ_self _ | ((repeat rw [World.size_alloc]); omega) | (simp; done) | (simp; omega) | omega))) | (refine Below.setCell ?_ ?_ _; rotate_left; (focus (first | exact Nat.lt_succ_self _ | ((repeat rw [World.size_alloc]); omega) | (simp; done) | (simp; omega) | omega))) | (refine Below.then' ?_ (by assumption) ?_; rotate_left; (focus (first | exact Nat.lt_succ_self _ | ((repeat rw [World.size_alloc]); omega) | (simp; done) | (simp; omega) | omega))) | fail)); (first | done | fail))
      have HC := Lib.hid (fun W => counts_any m W)
      clear hcell hxj
      cases hc : countsB m.status
      · have S1 : Hid (selL ms (fun k => true) (j + 1) = selL ms (fun k => true) j) := Lib.hid (by rw [selL, oneS_no HX.out hc, List.append_nil])
        rw [hc] at HC
        clear hc
        go_wp2_with fail
        refine (HC.out _).mono ?_
        rintro e w1 ⟨rfl, hb1⟩
        have B2 := Lib.hid (B1.out.trans (hb1.mono B1.out.size))
        clear hb1
        go_wp2_with fail
        exact ⟨⟨j + 1, _, by go_num, rfl, by omega, by rw [S1.out]; exact Lib.hid (hOU.out.stay B2.out), Lib.hid (hB.out.trans (B2.out.mono hB.out.size))⟩, by simp [intOf]; omega⟩
      · rw [hc] at HC
        have HF := Lib.hid (fun W => every_any j W)
        have S1y : Hid ((true) = true → selL ms (fun k => true) (j + 1) = selL ms (fun k => true) j ++ [m.s.eff]) := Lib.hid (fun h => by rw [selL, oneS_yes HX.out hc h])
        have S1n : Hid ((true) = false → selL ms (fun k => true) (j + 1) = selL ms (fun k => true) j) := Lib.hid (fun h => by rw [selL, oneS_not HX.out h, List.append_nil])
        have lu := HLen.out j
        generalize hLU : selL ms (fun k => true) j = LU at *
        obtain ⟨pu, hpu⟩ : ∃ p, p = LU.length := ⟨_, rfl⟩
        rw [← hpu] at lu
        have HPU : Hid (LU.length = pu) := Lib.hid hpu.symm
        clear hc hLU hpu
        go_wp2_with fail
        refine (HC.out _).mono ?_
        rintro e w1 ⟨rfl, hb1⟩
        have r2 := Lib.hid ((row_below hb1 (row_lt r1.out)).trans r1.out)
        have B2 := Lib.hid (B1.out.trans (hb1.mono B1.out.size))
        have B2w := Lib.hid (hB.out.trans (B2.out.mono hB.out.size))
        clear hb1 B1
        go_wp2_with fail
        refine (HF.out _).mono ?_
        rintro e w2 ⟨rfl, hb2⟩
        have r3 := (row_below hb2 (row_lt r2.out)).trans r2.out
        have c3 := fun i => row_cell r3 i
        have B3 := Lib.hid (B2.out.trans (hb2.mono B2.out.size))
        have B3w := Lib.hid (hB.out.trans (B3.out.mono hB.out.size))
        have OU3 := Lib.hid (hOU.out.stay B3.out)
        clear hb2
        go_wp2_with (at_builtin; refine wpList_append_c u64s_under u64_three rfl (by decide) (by decide) u64C_size u64C_one rfl _ _ rfl w.heap.size U LU rfl (OU3.out.stay ((Below.refl _ _).alloc (Nat.le_refl _) _)) _ 1 m.s.eff rfl (row_at _ _ _ _ rfl) pu HPU.out (by rw [HPU.out]; omega) (by have := B3w.out.size; simp only [World.size_alloc]; omega) ?_; intro A' cap w4 hO4 hg4; have HO4 := Lib.hid hO4; have B4 := Lib.hid (below_grown_c (B3w.out.alloc B3w.out.size _) (Nat.le_refl _) (OU3.out.stay ((Below.refl _ _).alloc (Nat.le_refl _) _)) hg4); clear hO4 hg4)
        exact ⟨⟨j + 1, _, by go_num, rfl, by omega, by rw [S1y.out (by simp)]; exact HO4, B4⟩, by simp [intOf]; omega⟩
    · obtain rfl : n = j := by omega
      have hO' := hOU.out
      obtain ⟨A', c', rfl, h⟩ := hO'.form u64C_size
      clear h
      have HO' := Lib.hid hO'
      clear hO' hOU HU
      go_wp2_with fail
      go_ret
      exact ⟨A', c', rfl, HO'.out, hB.out⟩
end Go.Proofs.Ytnakkjgnjffkpaa

namespace Go.Proofs.Ytnakkjgnjffkpaa
open Go.RowKit
set_option linter.unusedVariables false

theorem allOne3 (k k' k'' : IntKind) (a b c : Int) : allOne #[.int k a, .int k' b, .int k'' c] = true := by simp [allOne, Value.oneCell']
theorem room3 (a b c : Value) : roomy 0 3 #[a, b, c] = true := rfl
theorem ext3 (a b c : Value) : #[a, b, c].extract 0 3 = #[a, b, c] := rfl
attribute [go_sem] allOne3 room3 ext3
theorem tal_under : Try.prog.underlying 183 = some (.struct (Try.prog.fieldsOf 183)) := by kernel_rfl
theorem tal_info : (Try.prog.info? 183).map (·.size) = some 3 := by kernel_rfl
theorem tal_load {dst : Option Tmp} {x : Operand} {ty : TypeId} {pos : String} {after : Array Edge} {gd : Option (Nat × Bool)} {a : Act} {w : World} {K : Act → World → Prop} {Q : Exit → Act → World → Prop} (h1 : a.eval x = .pointer (some ⟨blk (a.eval x), ofs (a.eval x), none⟩)) (h2 : (row w (blk (a.eval x))).map (roomy (ofs (a.eval x)) 3) = some true) : Oper.wp Try.prog ⟨dst, .load 183 x, ty, pos, after, gd⟩ a w K Q = K (a.put dst (.agg (((row w (blk (a.eval x))).getD #[]).extract (ofs (a.eval x)) (ofs (a.eval x) + 3)))) w := wp_load_part _ 3 _ tal_under rfl tal_info h1 h2
theorem tal_store {dst : Option Tmp} {x : Operand} {ty : TypeId} {pos : String} {after : Array Edge} {gd : Option (Nat × Bool)} {y : Operand} {a : Act} {w : World} {K : Act → World → Prop} {Q : Exit → Act → World → Prop} (h1 : a.eval x = .pointer (some ⟨blk (a.eval x), 0, none⟩)) (h2 : (row w (blk (a.eval x))).map (·.size) = some 3) (h3 : a.eval y = .agg (aggOf (a.eval y))) (h4 : (aggOf (a.eval y)).size = 3) (h5 : allOne (aggOf (a.eval y)) = true) : Oper.wp Try.prog ⟨dst, .store 183 x y, ty, pos, after, gd⟩ a w K Q = K (a.put dst undef) (w.setRow (blk (a.eval x)) (aggOf (a.eval y))) := wp_store_agg _ 3 tal_info h1 h2 h3 h4 h5
theorem tal_run_load {ρ : Operand → Value} {dst : Option Tmp} {x : Operand} {ty : TypeId} {pos : String} {after : Array Edge} {gd : Option (Nat × Bool)} {w : World} (h1 : ρ x = .pointer (some ⟨blk (ρ x), ofs (ρ x), none⟩)) (h2 : (row w (blk (ρ x))).map (roomy (ofs (ρ x)) 3) = some true) : (execOp ρ ⟨dst, .load 183 x, ty, pos, after, gd⟩).run Try.prog w = .ok (.value (.agg (((row w (blk (ρ x))).getD #[]).extract (ofs (ρ x)) (ofs (ρ x) + 3)))) w := run_load_part _ 3 _ tal_under rfl tal_info h1 h2
theorem tal_quiet {C : World → Prop} {dst : Option Tmp} {x : Operand} {ty : TypeId} {pos : String} {after : Array Edge} {gd : Option (Nat × Bool)} {a : Act} {w : World} {g o : Nat} {cs : Array Value} (h1 : a.eval x = .pointer (some ⟨g, o, none⟩)) (h2 : row w g = some cs) (hs : roomy o 3 cs = true) : Oper.quietAt Try.prog ⟨dst, .load 183 x, ty, pos, after, gd⟩ a C w (.agg (cs.extract o (o + 3))) := quiet_load_part _ 3 _ tal_under rfl tal_info h1 h2 hs
attribute [go_sem ↓] tal_load tal_store tal_run_load
set_option maxHeartbeats 2000000 in
theorem bweigh_any (A A1 : Option Addr) (n c n1 c1 : Nat) (ms : List Mb) (bs : List Nat) (hn : ms.length = n) (hm : n ≤ 50000) (hok : ∀ m ∈ ms, m.s.eff < 18446744073709551616) (h1 : bs.length = n1) (hb : bytesOk bs) (w : World) (hU : SliceOf 6 Mb.cells w A ms) (hV : Bys w A1 bs) :
    Calls Try.prog 149 #[.slice A n c, .slice A1 n1 c1] w fun e w' => e = .returned (.tuple #[.int .u64 ((fit (total (selL ms (fun k => getB bs k) n)) : Nat) : Int), .int .i64 (toldE (total (selL ms (fun k => getB bs k) n)))]) ∧ Below w.heap.size w w' := by
  have r0 : row (w.alloc (.cells #[.slice A1 n1 c1] 64)) w.heap.size = some #[.slice A1 n1 c1] := row_at _ _ _ _ rfl
  have hB0 : Below w.heap.size w (w.alloc (.cells #[.slice A1 n1 c1] 64)) := (by (repeat (first | exact Below.refl _ _ | assumption | (refine Below.allocT ?_ _) | refine Below.drew ?_ | refine below_drewN ?_ _ | (refine Below.then ?_ (by assumption)) | (refine Below.setRow ?_ ?_ _; rotate_left; (focus (first | exact Nat.lt_succ_self _ | ((repeat rw [World.size_alloc]); omega) | (simp; done) | (simp; omega) | omega))) | (refine Below.setCell ?_ ?_ _; rotate_left; (focus (first | exact Nat.lt_succ_self _ | ((repeat rw [World.size_alloc]); omega) | (simp; done) | (simp; omega) | omega))) | (refine Below.then' ?_ (by assumption) ?_; rotate_left; (focus (first | exact Nat.lt_succ_self _ | ((repeat rw [World.size_alloc]); omega) | (simp; done) | (simp; omega) | omega))) | fail)); (first | done | fail))
  have HS := Lib.hid (stakesW_any A n c ms w.heap.size A1 n1 c1 bs h1 hb hn hm _ (hU.below hB0 (Nat.le_refl _)) r0 (hV.below hB0 (Nat.le_refl _)))
  have HSum := Lib.hid (fun W A c (h : U64s W A (selL ms (fun k => getB bs k) n)) (hl : (selL ms (fun k => getB bs k) n).length ≤ 9223372036854775807) => msum_any A (selL ms (fun k => getB bs k) n) (selL ms (fun k => getB bs k) n).length c rfl (fun i => selL_getD hok _ n i) hl W h)
  unfold RetU at HS
  generalize selL ms (fun k => getB bs k) n = L at *
  clear hU hV hn hb hok h1 r0
  go_enter Try.func149, Try.ntmps149
  go_wp2_with fail
  refine HS.out.mono ?_
  rintro e w1 ⟨A2, c2, rfl, hO, hb1⟩
  obtain ⟨A3, c3, e3, h3, _, h4⟩ := hO.form u64C_size
  simp only [Value.slice.injEq, true_and] at e3
  obtain ⟨rfl, rfl⟩ := e3
  have HX := Lib.hid (HSum.out w1 A2 c2 (u64s_slice h3) h4)
  have B1 := Lib.hid (Below.then hB0 hb1)
  clear hO h3 h4 hb1 HSum HS hB0
  go_wp2_with fail
  refine (HX.out).mono ?_
  rintro e w2 ⟨rfl, rfl⟩
  go_wp2_with fail
  go_ret2
  exact ⟨rfl, B1.out⟩
def cntT (ms : List Mb) (ys ns : List Nat) (n : Nat) : Array Value := if total (selL ms (fun _ => true) n) ≤ 18446744073709551615 then #[.int .u64 ((fit (total (selL ms (fun k => getB ys k) n)) : Nat) : Int), .int .u64 ((fit (total (selL ms (fun k => getB ns k) n)) : Nat) : Int), .int .u64 ((total (selL ms (fun _ => true) n) : Nat) : Int)] else #[.int .u64 0, .int .u64 0, .int .u64 0]
set_option maxRecDepth 100000 in
set_option maxHeartbeats 2000000 in
theorem bcount_any (A A1 A2 : Option Addr) (n c n1 c1 n2 c2 : Nat) (ms : List Mb) (ys ns : List Nat) (hn : ms.length = n) (hm : n ≤ 50000) (hok : ∀ m ∈ ms, m.s.eff < 18446744073709551616) (h1 : ys.length = n1) (hb1 : bytesOk ys) (h2 : ns.length = n2) (hb2 : bytesOk ns) (w : World) (hU : SliceOf 6 Mb.cells w A ms) (hV : Bys w A1 ys) (hX : Bys w A2 ns) :
    Calls Try.prog 104 #[.slice A n c, .slice A1 n1 c1, .slice A2 n2 c2] w fun e w' => e = .returned (.tuple #[.agg (cntT ms ys ns n), .int .i64 (toldE (total (selL ms (fun _ => true) n)))]) ∧ Below w.heap.size w w' := by
  have r0 : row (w.alloc (.cells #[.int .u64 0, .int .u64 0, .int .u64 0] 183)) w.heap.size = some #[.int .u64 0, .int .u64 0, .int .u64 0] := row_at _ _ _ _ rfl
  have hB0 : Below w.heap.size w (w.alloc (.cells #[.int .u64 0, .int .u64 0, .int .u64 0] 183)) := (by (repeat (first | exact Below.refl _ _ | assumption | (refine Below.allocT ?_ _) | refine Below.drew ?_ | refine below_drewN ?_ _ | (refine Below.then ?_ (by assumption)) | (refine Below.setRow ?_ ?_ _; rotate_left; (focus (first | exact Nat.lt_succ_self _ | ((repeat rw [World.size_alloc]); omega) | (simp; done) | (simp; omega) | omega))) | (refine Below.setCell ?_ ?_ _; rotate_left; (focus (first | exact Nat.lt_succ_self _ | ((repeat rw [World.size_alloc]); omega) | (simp; done) | (simp; omega) | omega))) | (refine Below.then' ?_ (by assumption) ?_; rotate_left; (focus (first | exact Nat.lt_succ_self _ | ((repeat rw [World.size_alloc]); omega) | (simp; done) | (simp; omega) | omega))) | fail)); (first | done | fail))
  have HS := Lib.hid (stakesC_any A n c ms hn hm _ (hU.below hB0 (Nat.le_refl _)))
  have HSum := Lib.hid (fun W A c (h : U64s W A (selL ms (fun _ => true) n)) (hl : (selL ms (fun _ => true) n).length ≤ 9223372036854775807) => msum_any A (selL ms (fun _ => true) n) (selL ms (fun _ => true) n).length c rfl (fun i => selL_getD hok _ n i) hl W h)
  have HWy := Lib.hid (fun W (h : Below w.heap.size w W) => bweigh_any A A1 n c n1 c1 ms ys hn hm hok h1 hb1 W (hU.below h (Nat.le_refl _)) (hV.below h (Nat.le_refl _)))
  have HWn := Lib.hid (fun W (h : Below w.heap.size w W) => bweigh_any A A2 n c n2 c2 ms ns hn hm hok h2 hb2 W (hU.below h (Nat.le_refl _)) (hX.below h (Nat.le_refl _)))
  have HCnt : Hid (cntT ms ys ns n = if total (selL ms (fun _ => true) n) ≤ 18446744073709551615 then #[.int .u64 ((fit (total (selL ms (fun k => getB ys k) n)) : Nat) : Int), .int .u64 ((fit (total (selL ms (fun k => getB ns k) n)) : Nat) : Int), .int .u64 ((total (selL ms (fun _ => true) n) : Nat) : Int)] else #[.int .u64 0, .int .u64 0, .int .u64 0]) := Lib.hid rfl
  unfold RetU at HS
  generalize cntT ms ys ns n = cnt at *
  generalize selL ms (fun _ => true) n = L at *
  generalize fit (total (selL ms (fun k => getB ys k) n)) = ty at *
  generalize fit (total (selL ms (fun k => getB ns k) n)) = tn at *
  generalize toldE (total (selL ms (fun k => getB ys k) n)) = ey at *
  generalize toldE (total (selL ms (fun k => getB ns k) n)) = en at *
  clear hU hV hX hn hb1 hb2 hok h1 h2
  by_cases hle : total L ≤ 18446744073709551615
  · rw [if_pos hle] at HCnt
    rw [fit_le hle, told_le hle] at HSum
    rw [told_le hle]
    generalize total L = tl at *
    clear hle
    go_enter Try.func104, Try.ntmps104
    go_wp2_with fail
    generalize w.alloc (.cells #[.int .u64 0, .int .u64 0, .int .u64 0] 183) = w0 at *
    refine HS.out.mono ?_
    rintro e w1 ⟨A2', c2', rfl, hO, hb1⟩
    obtain ⟨A3, c3, e3, h3, _, h4⟩ := hO.form u64C_size
    simp only [Value.slice.injEq, true_and] at e3
    obtain ⟨rfl, rfl⟩ := e3
    have HX := Lib.hid (HSum.out w1 A2' c2' (u64s_slice h3) h4)
    have r1 := (row_below hb1 (row_lt r0)).trans r0
    have B1 := Lib.hid (Below.then hB0 hb1)
    clear hO h3 h4 hb1 HSum HS hB0 r0
    go_wp2_with fail
    refine (HX.out).mono ?_
    rintro e w2 ⟨rfl, rfl⟩
    go_wp2_with fail
    refine (HWy.out _ B1.out).mono ?_
    rintro e w2 ⟨rfl, hb2⟩
    have r2 := (row_below hb2 (row_lt r1)).trans r1
    have B2 := Lib.hid (Below.then B1.out hb2)
    clear r1 B1 hb2 HX
    go_wp2_with fail
    refine (HWn.out _ B2.out).mono ?_
    rintro e w3 ⟨rfl, hb3⟩
    have r3 := (row_below hb3 (row_lt r2)).trans r2
    have B3 := Lib.hid (Below.then B2.out hb3)
    clear r2 B2 hb3
    obtain ⟨t3, ht3⟩ := row_heap (row_setRow (new := #[.int .u64 (ty : Int), .int .u64 (tn : Int), .int .u64 (tl : Int)]) r3)
    have HT3 := Lib.hid ht3
    clear ht3
    go_wp2_with fail
    exact bodyPost_ret (v := .tuple #[.agg #[.int .u64 (ty : Int), .int .u64 (tn : Int), .int .u64 (tl : Int)], .int .i64 0]) (results_cell_tmp Try.results104 _ _ w.heap.size _ _ (0, 0) _ rfl HT3.out tal_under rfl tal_info) rfl ⟨by rw [HCnt.out], Below.setRow B3.out (Nat.le_refl _) _⟩
  · rw [if_neg hle] at HCnt
    rw [fit_gt hle, told_gt hle] at HSum
    rw [told_gt hle]
    generalize total L = tl at *
    clear hle
    go_enter Try.func104, Try.ntmps104
    go_wp2_with fail
    generalize w.alloc (.cells #[.int .u64 0, .int .u64 0, .int .u64 0] 183) = w0 at *
    refine HS.out.mono ?_
    rintro e w1 ⟨A2', c2', rfl, hO, hb1⟩
    obtain ⟨A3, c3, e3, h3, _, h4⟩ := hO.form u64C_size
    simp only [Value.slice.injEq, true_and] at e3
    obtain ⟨rfl, rfl⟩ := e3
    have HX := Lib.hid (HSum.out w1 A2' c2' (u64s_slice h3) h4)
    have r1 := (row_below hb1 (row_lt r0)).trans r0
    have B1 := Lib.hid (Below.then hB0 hb1)
    clear hO h3 h4 hb1 HSum HS hB0 r0
    go_wp2_with fail
    refine (HX.out).mono ?_
    rintro e w2 ⟨rfl, rfl⟩
    obtain ⟨t3, ht3⟩ := row_heap (row_setRow (new := #[.int .u64 0, .int .u64 0, .int .u64 0]) r1)
    have HT3 := Lib.hid ht3
    clear ht3
    go_wp2_with fail
    exact bodyPost_ret (v := .tuple #[.agg #[.int .u64 0, .int .u64 0, .int .u64 0], .int .i64 10]) (results_cell_tmp Try.results104 _ _ w.heap.size _ _ (0, 0) _ rfl HT3.out tal_under rfl tal_info) rfl ⟨by rw [HCnt.out], Below.setRow B1.out (Nat.le_refl _) _⟩
/-- Are enough for it? -/
def passB (q : Int) (y n a : Nat) : Bool := decide (y + n ≤ 18446744073709551615) && (decide (a ≠ 0) && (decide (n < y) && (decide (0 ≤ q) && decide (q.toNat * a ≤ (y + n) * 10000))))
set_option maxRecDepth 100000 in
set_option maxHeartbeats 2000000 in
theorem bpasses_any (P : Par) (y n a : Nat) (hy : y < 18446744073709551616) (hn : n < 18446744073709551616) (ha : a < 18446744073709551616) (hq : i64ok P.quorum) (w : World) :
    Calls Try.prog 105 #[.agg P.cells, .agg #[.int .u64 (y : Int), .int .u64 (n : Int), .int .u64 (a : Int)]] w fun e w' => e = .returned (.bool (passB P.quorum y n a)) ∧ Below w.heap.size w w' := by
  have r0 : row ((w.alloc (.cells P.cells 76)).alloc (.cells #[.int .u64 (y : Int), .int .u64 (n : Int), .int .u64 (a : Int)] 183)) w.heap.size = some P.cells := (by (repeat (first | assumption | (refine row_at _ _ _ _ ?_; first | rfl | (simp only [World.size_alloc]; done) | (simp only [World.size_alloc]; omega)) | (refine (row_past _ _ _ ?_).trans ?_; (focus (first | exact Nat.lt_succ_self _ | ((repeat rw [World.size_alloc]); omega) | (simp; done) | (simp; omega) | omega))) | rw [row_drewN] | rw [row_drew])); (first | done | fail))
  have s0 : row ((w.alloc (.cells P.cells 76)).alloc (.cells #[.int .u64 (y : Int), .int .u64 (n : Int), .int .u64 (a : Int)] 183)) (w.heap.size + 1) = some #[.int .u64 (y : Int), .int .u64 (n : Int), .int .u64 (a : Int)] := (by (repeat (first | assumption | (refine row_at _ _ _ _ ?_; first | rfl | (simp only [World.size_alloc]; done) | (simp only [World.size_alloc]; omega)) | (refine (row_past _ _ _ ?_).trans ?_; (focus (first | exact Nat.lt_succ_self _ | ((repeat rw [World.size_alloc]); omega) | (simp; done) | (simp; omega) | omega))) | rw [row_drewN] | rw [row_drew])); (first | done | fail))
  have hB0 : Below w.heap.size w ((w.alloc (.cells P.cells 76)).alloc (.cells #[.int .u64 (y : Int), .int .u64 (n : Int), .int .u64 (a : Int)] 183)) := (by (repeat (first | exact Below.refl _ _ | assumption | (refine Below.allocT ?_ _) | refine Below.drew ?_ | refine below_drewN ?_ _ | (refine Below.then ?_ (by assumption)) | (refine Below.setRow ?_ ?_ _; rotate_left; (focus (first | exact Nat.lt_succ_self _ | ((repeat rw [World.size_alloc]); omega) | (simp; done) | (simp; omega) | omega))) | (refine Below.setCell ?_ ?_ _; rotate_left; (focus (first | exact Nat.lt_succ_self _ | ((repeat rw [World.size_alloc]); omega) | (simp; done) | (simp; omega) | omega))) | (refine Below.then' ?_ (by assumption) ?_; rotate_left; (focus (first | exact Nat.lt_succ_self _ | ((repeat rw [World.size_alloc]); omega) | (simp; done) | (simp; omega) | omega))) | fail)); (first | done | fail))
  have HA := Lib.hid (fun W => madd_any y n hy hn W)
  have c1 := fun i => row_cell r0 i
  have c2 := fun i => row_cell s0 i
  by_cases h1 : y + n ≤ 18446744073709551615
  · rw [fit_le h1, told_le h1] at HA
    by_cases h2 : a = 0
    · have HV : Hid (passB P.quorum y n a = false) := Lib.hid (by simp [passB, h2])
      have d2 : ((a : Int) == 0) = true := by rw [h2]; rfl
      clear h1 h2
      go_enter Try.func105, Try.ntmps105
      go_wp2_with fail
      generalize (w.alloc (.cells P.cells 76)).alloc (.cells #[.int .u64 (y : Int), .int .u64 (n : Int), .int .u64 (a : Int)] 183) = w0 at *
      go_wp2_with fail
      refine (HA.out _).mono ?_
      rintro e w1 ⟨rfl, rfl⟩
      go_wp2_with fail
      go_ret
      exact ⟨by rw [HV.out]; rfl, hB0⟩
    · have d2 : ((a : Int) == 0) = false := beq_eq_false_iff_ne.2 (by omega)
      by_cases h3 : n < y
      · have d3 : ¬ (y : Int) ≤ (n : Int) := by omega
        by_cases h4 : 0 ≤ P.quorum
        · obtain ⟨k, hk⟩ := Int.eq_ofNat_of_zero_le h4
          have hk' : P.quorum = (k : Int) := hk
          have hkl : k < 18446744073709551616 := by unfold i64ok at hq; omega
          have HL := Lib.hid (fun W => less_any (y + n) 10000 k a (by omega) (by omega) hkl ha W)
          have HV : Hid (passB P.quorum y n a = !lessB (y + n) 10000 k a) := Lib.hid (by
            unfold passB lessB
            rw [hk', decide_eq_true h1, decide_eq_true h2, decide_eq_true h3, decide_eq_true (show (0 : Int) ≤ (k : Int) by omega)]
            simp only [Bool.true_and, Int.toNat_natCast]
            rw [Bool.eq_iff_iff]; simp)
          have E1 : IntKind.u64.wrap P.quorum = (k : Int) := by rw [hk']; exact Bits.wrapN _ hkl
          have d4 : ¬ P.quorum < 0 := by omega
          generalize lessB (y + n) 10000 k a = lb at *
          clear h1 h2 h3 h4 hk hk' hq
          go_enter Try.func105, Try.ntmps105
          go_wp2_with fail
          generalize (w.alloc (.cells P.cells 76)).alloc (.cells #[.int .u64 (y : Int), .int .u64 (n : Int), .int .u64 (a : Int)] 183) = w0 at *
          go_wp2_with fail
          refine (HA.out _).mono ?_
          rintro e w1 ⟨rfl, rfl⟩
          go_wp2_with fail
          refine (HL.out _).mono ?_
          rintro e w2 ⟨rfl, hb2⟩
          have B2 := Lib.hid (Below.then hB0 hb2)
          clear hb2
          go_wp2_with fail
          go_ret
          exact ⟨by rw [HV.out]; rfl, B2.out⟩
        · have d4 : P.quorum < 0 := by omega
          have HV : Hid (passB P.quorum y n a = false) := Lib.hid (by unfold passB; rw [decide_eq_false h4]; simp)
          clear h1 h2 h3 h4 hq
          go_enter Try.func105, Try.ntmps105
          go_wp2_with fail
          generalize (w.alloc (.cells P.cells 76)).alloc (.cells #[.int .u64 (y : Int), .int .u64 (n : Int), .int .u64 (a : Int)] 183) = w0 at *
          go_wp2_with fail
          refine (HA.out _).mono ?_
          rintro e w1 ⟨rfl, rfl⟩
          go_wp2_with fail
          go_ret
          exact ⟨by rw [HV.out]; rfl, hB0⟩
      · have d3 : (y : Int) ≤ (n : Int) := by omega
        have HV : Hid (passB P.quorum y n a = false) := Lib.hid (by unfold passB; rw [decide_eq_false h3]; simp)
        clear h1 h2 h3 hq
        go_enter Try.func105, Try.ntmps105
        go_wp2_with fail
        generalize (w.alloc (.cells P.cells 76)).alloc (.cells #[.int .u64 (y : Int), .int .u64 (n : Int), .int .u64 (a : Int)] 183) = w0 at *
        go_wp2_with fail
        refine (HA.out _).mono ?_
        rintro e w1 ⟨rfl, rfl⟩
        go_wp2_with fail
        go_ret
        exact ⟨by rw [HV.out]; rfl, hB0⟩
  · rw [fit_gt h1, told_gt h1] at HA
    have HV : Hid (passB P.quorum y n a = false) := Lib.hid (by unfold passB; rw [decide_eq_false h1]; simp)
    clear h1 hq
    go_enter Try.func105, Try.ntmps105
    go_wp2_with fail
    generalize (w.alloc (.cells P.cells 76)).alloc (.cells #[.int .u64 (y : Int), .int .u64 (n : Int), .int .u64 (a : Int)] 183) = w0 at *
    go_wp2_with fail
    refine (HA.out _).mono ?_
    rintro e w1 ⟨rfl, rfl⟩
    go_wp2_with fail
    go_ret
    exact ⟨by rw [HV.out]; rfl, hB0⟩
end Go.Proofs.Ytnakkjgnjffkpaa
