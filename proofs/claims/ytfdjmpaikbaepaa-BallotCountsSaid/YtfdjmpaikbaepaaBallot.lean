/-
  What package ballot's functions answer: what votes weigh.
-/
import Derived.Test.YtfdjmpaikbaepaaSel
namespace Go.Proofs.Ytfdjmpaikbaepaa
open Go.RowKit
set_option linter.unusedVariables false

/-- A call that answers a list of numbers of its own. -/
def RetU (w : World) (l : List Nat) (e : Ending) (w' : World) : Prop := ∃ A c, e = .returned (.slice A l.length c) ∧ OwnU w' w.heap.size (.slice A l.length c) l ∧ Below w.heap.size w w'
theorem votes_any (i : Nat) (gV : Nat) (A1 : Option Addr) (n1 c1 : Nat) (bs : List Nat) (hi : i ≤ 1000000) (h1 : bs.length = n1) (hb : bytesOk bs) (w : World) (hV : row w gV = some #[.slice A1 n1 c1]) (hU : Bys w A1 bs) :
    Calls Try.prog 70 #[.int .i64 (i : Int), .pointer (some ⟨gV, 0, none⟩)] w fun e w' => e = .returned (.bool (getB bs i)) ∧ Below w.heap.size w w' := by
  have HG := Lib.hid (fun W (h : Bys W A1 bs) => get_any A1 n1 c1 bs i h1 hb (by omega) W h)
  have c1' := fun k => row_cell hV k
  have HU := Lib.hid hU
  generalize getB bs (i : Int) = q at *
  clear h1 hb hU
  go_enter Try.func70, Try.ntmps70
  go_wp2_with fail
  refine (HG.out _ HU.out).mono ?_
  rintro e w1 ⟨rfl, hb1⟩
  go_wp2_with fail
  go_ret
  exact ⟨rfl, hb1⟩
theorem every_any (i : Nat) (w : World) : Calls Try.prog 75 #[.int .i64 (i : Int)] w fun e w' => e = .returned (.bool true) ∧ Below w.heap.size w w' := by
  go_enter Try.func75, Try.ntmps75
  go_wp2_with fail
  go_ret
  exact ⟨rfl, Below.refl _ _⟩
set_option maxRecDepth 100000 in
set_option maxHeartbeats 4000000 in
theorem stakesW_any (A : Option Addr) (n c : Nat) (ms : List Mb) (gV : Nat) (A1 : Option Addr) (n1 c1 : Nat) (bs : List Nat) (h1 : bs.length = n1) (hb : bytesOk bs) (hn : ms.length = n) (hm : n ≤ 50000) (w : World) (hU : SliceOf 6 Mb.cells w A ms) (hV : row w gV = some #[.slice A1 n1 c1]) (hW : Bys w A1 bs) :
    Calls Try.prog 69 #[.slice A n c, .func (.func 70) #[] #[.pointer (some ⟨gV, 0, none⟩)]] w (RetU w (selL ms (fun k => getB bs k) n)) := by
  have HU := Lib.hid hU
  have HN := Lib.hid hn
  have HLen := Lib.hid (fun k => selL_len ms (fun k => getB bs k) k)
  have HV := Lib.hid hV
  have HW := Lib.hid hW
  have HVt := Lib.hid (fun (i : Nat) (hi : i ≤ 1000000) W h k => votes_any i gV A1 n1 c1 bs hi h1 hb W h k)
  clear hV hW h1 hb
  clear hU hn
  go_enter Try.func69, Try.ntmps69
  go_wp2_with fail
  go_loopw [10, 5] (fun i u wr => ∃ (j : Nat) (U : Value), i = .int .i64 j ∧ U = u ∧ j ≤ n ∧ Hid (OwnU wr w.heap.size U (selL ms (fun k => getB bs k) j)) ∧ Hid (Below w.heap.size w wr)) (fun i _ _ => n - (intOf i).toNat)
  case atStart => exact ⟨0, _, rfl, rfl, by omega, Lib.hid (OwnC.nil _ _), Lib.hid (Below.refl _ _)⟩
  case round =>
    obtain ⟨j, U, rfl, rfl, hj, hOU, hB⟩ := hrel
    by_cases hlt : j < n
    · obtain ⟨b, off, rfl, hbb, hcell⟩ := HU.out (by rw [HN.out]; omega)
      obtain ⟨m, hxj⟩ : ∃ m, ms[j]? = some m := ⟨_, List.getElem?_eq_getElem (by rw [HN.out]; omega)⟩
      obtain ⟨k0, k1, k2, k3, k4, k5⟩ := mb_range (range_below (hcell j _ hxj) hB.out hbb)
      have z1 : (0 : Int) ≤ (j : Int) := by omega
      have z2 : (j : Int) < (n : Int) := by omega
      have HX := Lib.hid hxj
      have r1 : Hid (row (wr.alloc (.cells m.cells 73)) wr.heap.size = some m.cells) := Lib.hid (row_at _ _ _ _ rfl)
      have B1 : Hid (Below wr.heap.size wr (wr.alloc (.cells m.cells 73))) := Lib.hid (by (repeat (first | exact Below.refl _ _ | assumption | (refine Below.allocT ?_ _) | refine Below.drew ?_ | refine below_drewN ?_ _ | (refine Below.then ?_ (by assumption)) | (refine Below.setRow ?_ ?_ _; rotate_left; (focus (first | exact Nat.lt_succ_self _ | ((repeat rw [World.size_alloc]); omega) | (simp; done) | (simp; omega) | omega))) | (refine Below.setCell ?_ ?_ _; rotate_left; (focus (first | exact Nat.lt_succ_self _ | ((repeat rw [World.size_alloc]); omega) | (simp; done) | (simp; omega) | omega))) | (refine Below.then' ?_ (by assumption) ?_; rotate_left; (focus (first | exact Nat.lt_succ_self _ | ((repeat rw [World.size_alloc]); omega) | (simp; done) | (simp; omega) | omega))) | fail)); (first | done | fail))
      have HC := Lib.hid (fun W => counts_any m W)
      clear hcell hxj
      cases hc : countsB m.status
      · have S1 : Hid (selL ms (fun k => getB bs k) (j + 1) = selL ms (fun k => getB bs k) j) := Lib.hid (by rw [selL, oneS_no HX.out hc, List.append_nil])
        rw [hc] at HC
        clear hc
        go_wp2_with fail
        refine (HC.out _).mono ?_
        rintro e w1 ⟨rfl, hb1⟩
        have B2 := Lib.hid (B1.out.trans (hb1.mono B1.out.size))
        clear hb1
        go_wp2_with fail
        exact ⟨⟨j + 1, _, by go_num, rfl, by omega, by rw [S1.out]; exact Lib.hid (hOU.out.stay B2.out), Lib.hid (hB.out.trans (B2.out.mono hB.out.size))⟩, by simp [intOf]; omega⟩
      · rw [hc] at HC
        have HF := Lib.hid (HVt.out j (by omega))
        have S1y : Hid ((getB bs (j : Int)) = true → selL ms (fun k => getB bs k) (j + 1) = selL ms (fun k => getB bs k) j ++ [m.s.eff]) := Lib.hid (fun h => by rw [selL, oneS_yes HX.out hc h])
        have S1n : Hid ((getB bs (j : Int)) = false → selL ms (fun k => getB bs k) (j + 1) = selL ms (fun k => getB bs k) j) := Lib.hid (fun h => by rw [selL, oneS_not HX.out h, List.append_nil])
        have lu := HLen.out j
        generalize hLU : selL ms (fun k => getB bs k) j = LU at *
        obtain ⟨pu, hpu⟩ : ∃ p, p = LU.length := ⟨_, rfl⟩
        rw [← hpu] at lu
        have HPU : Hid (LU.length = pu) := Lib.hid hpu.symm
        clear hc hLU hpu
        go_wp2_with fail
        refine (HC.out _).mono ?_
        rintro e w1 ⟨rfl, hb1⟩
        have r2 := Lib.hid ((row_below hb1 (row_lt r1.out)).trans r1.out)
        have B2 := Lib.hid (B1.out.trans (hb1.mono B1.out.size))
        have B2w := Lib.hid (hB.out.trans (B2.out.mono hB.out.size))
        clear hb1 B1
        go_wp2_with fail
        refine (HF.out _ ((row_below B2w.out (row_lt HV.out)).trans HV.out) (HW.out.stay B2w.out)).mono ?_
        rintro e w2 ⟨rfl, hb2⟩
        have r3 := (row_below hb2 (row_lt r2.out)).trans r2.out
        have c3 := fun i => row_cell r3 i
        have B3 := Lib.hid (B2.out.trans (hb2.mono B2.out.size))
        have B3w := Lib.hid (hB.out.trans (B3.out.mono hB.out.size))
        have OU3 := Lib.hid (hOU.out.stay B3.out)
        clear hb2
        generalize hsel : (getB bs (j : Int)) = sj at *
        clear hsel
        cases sj
        · go_wp2_with fail
          exact ⟨⟨j + 1, _, by go_num, rfl, by omega, by rw [S1n.out (by simp)]; exact OU3, B3w⟩, by simp [intOf]; omega⟩
        · go_wp2_with (at_builtin; refine wpList_append_c u64s_under u64_three rfl (by decide) (by decide) u64C_size u64C_one rfl _ _ rfl w.heap.size U LU rfl (OU3.out.stay ((Below.refl _ _).alloc (Nat.le_refl _) _)) _ 1 m.s.eff rfl (row_at _ _ _ _ rfl) pu HPU.out (by rw [HPU.out]; omega) (by have := B3w.out.size; simp only [World.size_alloc]; omega) ?_; intro A' cap w4 hO4 hg4; have HO4 := Lib.hid hO4; have B4 := Lib.hid (below_grown_c (B3w.out.alloc B3w.out.size _) (Nat.le_refl _) (OU3.out.stay ((Below.refl _ _).alloc (Nat.le_refl _) _)) hg4); clear hO4 hg4)
          exact ⟨⟨j + 1, _, by go_num, rfl, by omega, by rw [S1y.out (by simp)]; exact HO4, B4⟩, by simp [intOf]; omega⟩
    · obtain rfl : n = j := by omega
      have hO' := hOU.out
      obtain ⟨A', c', rfl, h⟩ := hO'.form u64C_size
      clear h
      have HO' := Lib.hid hO'
      clear hO' hOU HU
      go_wp2_with fail
      go_ret
      exact ⟨A', c', rfl, HO'.out, hB.out⟩
set_option maxRecDepth 100000 in
set_option maxHeartbeats 4000000 in
theorem stakesC_any (A : Option Addr) (n c : Nat) (ms : List Mb)  (hn : ms.length = n) (hm : n ≤ 50000) (w : World) (hU : SliceOf 6 Mb.cells w A ms)  :
    Calls Try.prog 69 #[.slice A n c, .func (.func 75) #[] #[]] w (RetU w (selL ms (fun k => true) n)) := by
  have HU := Lib.hid hU
  have HN := Lib.hid hn
  have HLen := Lib.hid (fun k => selL_len ms (fun k => true) k)

  clear hU hn
  go_enter Try.func69, Try.ntmps69
  go_wp2_with fail
  go_loopw [10, 5] (fun i u wr => ∃ (j : Nat) (U : Value), i = .int .i64 j ∧ U = u ∧ j ≤ n ∧ Hid (OwnU wr w.heap.size U (selL ms (fun k => true) j)) ∧ Hid (Below w.heap.size w wr)) (fun i _ _ => n - (intOf i).toNat)
  case atStart => exact ⟨0, _, rfl, rfl, by omega, Lib.hid (OwnC.nil _ _), Lib.hid (Below.refl _ _)⟩
  case round =>
    obtain ⟨j, U, rfl, rfl, hj, hOU, hB⟩ := hrel
    by_cases hlt : j < n
    · obtain ⟨b, off, rfl, hbb, hcell⟩ := HU.out (by rw [HN.out]; omega)
      obtain ⟨m, hxj⟩ : ∃ m, ms[j]? = some m := ⟨_, List.getElem?_eq_getElem (by rw [HN.out]; omega)⟩
      obtain ⟨k0, k1, k2, k3, k4, k5⟩ := mb_range (range_below (hcell j _ hxj) hB.out hbb)
      have z1 : (0 : Int) ≤ (j : Int) := by omega
      have z2 : (j : Int) < (n : Int) := by omega
      have HX := Lib.hid hxj
      have r1 : Hid (row (wr.alloc (.cells m.cells 73)) wr.heap.size = some m.cells) := Lib.hid (row_at _ _ _ _ rfl)
      have B1 : Hid (Below wr.heap.size wr (wr.alloc (.cells m.cells 73))) := Lib.hid (by (repeat (first | exact Below.refl _ _ | assumption | (refine Below.allocT ?_ _) | refine Below.drew ?_ | refine below_drewN ?_ _ | (refine Below.then ?_ (by assumption)) | (refine Below.setRow ?_ ?_ _; rotate_left; (focus (first | exact Nat.lt_succ_self _ | ((repeat rw [World.size_alloc]); omega) | (simp; done) | (simp; omega) | omega))) | (refine Below.setCell ?_ ?_ _; rotate_left; (focus (first | exact Nat.lt_succ_self _ | ((repeat rw [World.size_alloc]); omega) | (simp; done) | (simp; omega) | omega))) | (refine Below.then' ?_ (by assumption) ?_; rotate_left; (focus (first | exact Nat.lt_succ_self _ | ((repeat rw [World.size_alloc]); omega) | (simp; done) | (simp; omega) | omega))) | fail)); (first | done | fail))
      have HC := Lib.hid (fun W => counts_any m W)
      clear hcell hxj
      cases hc : countsB m.status
      · have S1 : Hid (selL ms (fun k => true) (j + 1) = selL ms (fun k => true) j) := Lib.hid (by rw [selL, oneS_no HX.out hc, List.append_nil])
        rw [hc] at HC
        clear hc
        go_wp2_with fail
        refine (HC.out _).mono ?_
        rintro e w1 ⟨rfl, hb1⟩
        have B2 := Lib.hid (B1.out.trans (hb1.mono B1.out.size))
        clear hb1
        go_wp2_with fail
        exact ⟨⟨j + 1, _, by go_num, rfl, by omega, by rw [S1.out]; exact Lib.hid (hOU.out.stay B2.out), Lib.hid (hB.out.trans (B2.out.mono hB.out.size))⟩, by simp [intOf]; omega⟩
      · rw [hc] at HC
        have HF := Lib.hid (fun W => every_any j W)
        have S1y : Hid ((true) = true → selL ms (fun k => true) (j + 1) = selL ms (fun k => true) j ++ [m.s.eff]) := Lib.hid (fun h => by rw [selL, oneS_yes HX.out hc h])
        have S1n : Hid ((true) = false → selL ms (fun k => true) (j + 1) = selL ms (fun k => true) j) := Lib.hid (fun h => by rw [selL, oneS_not HX.out h, List.append_nil])
        have lu := HLen.out j
        generalize hLU : selL ms (fun k => true) j = LU at *
        obtain ⟨pu, hpu⟩ : ∃ p, p = LU.length := ⟨_, rfl⟩
        rw [← hpu] at lu
        have HPU : Hid (LU.length = pu) := Lib.hid hpu.symm
        clear hc hLU hpu
        go_wp2_with fail
        refine (HC.out _).mono ?_
        rintro e w1 ⟨rfl, hb1⟩
        have r2 := Lib.hid ((row_below hb1 (row_lt r1.out)).trans r1.out)
        have B2 := Lib.hid (B1.out.trans (hb1.mono B1.out.size))
        have B2w := Lib.hid (hB.out.trans (B2.out.mono hB.out.size))
        clear hb1 B1
        go_wp2_with fail
        refine (HF.out _).mono ?_
        rintro e w2 ⟨rfl, hb2⟩
        have r3 := (row_below hb2 (row_lt r2.out)).trans r2.out
        have c3 := fun i => row_cell r3 i
        have B3 := Lib.hid (B2.out.trans (hb2.mono B2.out.size))
        have B3w := Lib.hid (hB.out.trans (B3.out.mono hB.out.size))
        have OU3 := Lib.hid (hOU.out.stay B3.out)
        clear hb2
        go_wp2_with (at_builtin; refine wpList_append_c u64s_under u64_three rfl (by decide) (by decide) u64C_size u64C_one rfl _ _ rfl w.heap.size U LU rfl (OU3.out.stay ((Below.refl _ _).alloc (Nat.le_refl _) _)) _ 1 m.s.eff rfl (row_at _ _ _ _ rfl) pu HPU.out (by rw [HPU.out]; omega) (by have := B3w.out.size; simp only [World.size_alloc]; omega) ?_; intro A' cap w4 hO4 hg4; have HO4 := Lib.hid hO4; have B4 := Lib.hid (below_grown_c (B3w.out.alloc B3w.out.size _) (Nat.le_refl _) (OU3.out.stay ((Below.refl _ _).alloc (Nat.le_refl _) _)) hg4); clear hO4 hg4)
        exact ⟨⟨j + 1, _, by go_num, rfl, by omega, by rw [S1y.out (by simp)]; exact HO4, B4⟩, by simp [intOf]; omega⟩
    · obtain rfl : n = j := by omega
      have hO' := hOU.out
      obtain ⟨A', c', rfl, h⟩ := hO'.form u64C_size
      clear h
      have HO' := Lib.hid hO'
      clear hO' hOU HU
      go_wp2_with fail
      go_ret
      exact ⟨A', c', rfl, HO'.out, hB.out⟩
end Go.Proofs.Ytfdjmpaikbaepaa
