/-
  Layer 29: in a vault that is none there is nothing.
-/
import Derived.Test.YtkkncijbedfdfaaLaw29
namespace Go.Proofs.Ytkkncijbedfdfaa
open Go.RowKit
set_option linter.unusedVariables false

def zVt : Array Value := #[.int .u64 0, .int .i64 0, .int .i64 0, .int .i64 0, .int .i64 0, .pointer none, .int .i64 0, .slice none 0 0, .slice none 0 0, .slice none 0 0, .bool false]
def NoVa (w : World) (v : Value) : Prop := v = .pointer none ∨ ∃ g, v = .pointer (some ⟨g, 0, none⟩) ∧ w.cell? ⟨g, 5, none⟩ = some (.pointer none)
theorem vis_no (v : Value) (w : World) (h : NoVa w v) : Calls Try.prog 25 #[v] w fun e w' => e = .returned (.bool false) ∧ w = w' := by
  rcases h with rfl | ⟨g, rfl, h5⟩
  · go_enter Try.func25, Try.ntmps25
    go_wp2_with fail
    go_ret
    exact ⟨rfl, rfl⟩
  · go_enter Try.func25, Try.ntmps25
    go_wp2_with fail
    go_ret
    exact ⟨rfl, rfl⟩
theorem append_no (v u : Value) (w : World) (h : NoVa w v) : Calls Try.prog 10 #[v, u] w fun e w' => e = .returned (.int .i64 1) ∧ w = w' := by
  have HI := Lib.hid (vis_no v w h)
  clear h
  go_enter Try.func10, Try.ntmps10
  go_wp2_with fail
  refine (HI.out).mono ?_
  rintro e w1 ⟨rfl, rfl⟩
  go_wp2_with fail
  go_ret
  exact ⟨rfl, rfl⟩
theorem compact_no (v u : Value) (w : World) (h : NoVa w v) : Calls Try.prog 11 #[v, u] w fun e w' => e = .returned (.int .i64 1) ∧ w = w' := by
  have HI := Lib.hid (vis_no v w h)
  clear h
  go_enter Try.func11, Try.ntmps11
  go_wp2_with fail
  refine (HI.out).mono ?_
  rintro e w1 ⟨rfl, rfl⟩
  go_wp2_with fail
  go_ret
  exact ⟨rfl, rfl⟩
theorem snapshot_no (v : Value) (w : World) (h : NoVa w v) : Calls Try.prog 12 #[v] w fun e w' => e = .returned (.slice none 0 0) ∧ w = w' := by
  have HI := Lib.hid (vis_no v w h)
  clear h
  go_enter Try.func12, Try.ntmps12
  go_wp2_with fail
  refine (HI.out).mono ?_
  rintro e w1 ⟨rfl, rfl⟩
  go_wp2_with fail
  go_ret
  exact ⟨rfl, rfl⟩
theorem records_no (v : Value) (w : World) (h : NoVa w v) : Calls Try.prog 13 #[v] w fun e w' => e = .returned (.slice none 0 0) ∧ w = w' := by
  have HI := Lib.hid (vis_no v w h)
  clear h
  go_enter Try.func13, Try.ntmps13
  go_wp2_with fail
  refine (HI.out).mono ?_
  rintro e w1 ⟨rfl, rfl⟩
  go_wp2_with fail
  go_ret
  exact ⟨rfl, rfl⟩
theorem generation_no (v : Value) (w : World) (h : NoVa w v) : Calls Try.prog 14 #[v] w fun e w' => e = .returned (.int .u64 0) ∧ w = w' := by
  have HI := Lib.hid (vis_no v w h)
  clear h
  go_enter Try.func14, Try.ntmps14
  go_wp2_with fail
  refine (HI.out).mono ?_
  rintro e w1 ⟨rfl, rfl⟩
  go_wp2_with fail
  go_ret
  exact ⟨rfl, rfl⟩
theorem open_nil (u : Value) (w : World) : Calls Try.prog 9 #[.pointer none, u] w fun e w' => e = .returned (.tuple #[.pointer none, .bool false, .int .i64 1]) ∧ w = w' := by
  go_enter Try.func9, Try.ntmps9
  go_wp2_with fail
  go_ret3
  exact ⟨rfl, rfl⟩
theorem open_zero (g : Nat) (u : Value) (w : World) (h : NoPl w (.pointer (some ⟨g, 0, none⟩))) : Calls Try.prog 9 #[.pointer (some ⟨g, 0, none⟩), u] w fun e w' => e = .returned (.tuple #[.pointer none, .bool false, .int .i64 1]) ∧ w = w' := by
  have HL := Lib.hid (len_no _ w h)
  clear h
  go_enter Try.func9, Try.ntmps9
  go_wp2_with fail
  refine (HL.out).mono ?_
  rintro e w1 ⟨rfl, rfl⟩
  go_wp2_with fail
  go_ret3
  exact ⟨rfl, rfl⟩
set_option maxRecDepth 100000 in
set_option maxHeartbeats 8000000 in
theorem vaultNone_any (o : Op29) (w : World) (ho : o.Ok w) : Calls Try.prog 3 #[.agg o.cells] w fun e w' => e = .returned (.bool true) ∧ Below w.heap.size w w' := by
  have r0 : row (w.alloc (.cells o.cells 25)) w.heap.size = some o.cells := row_at _ _ _ _ rfl
  have hB0 : Below w.heap.size w (w.alloc (.cells o.cells 25)) := (by (repeat (first | exact Below.refl _ _ | assumption | (refine Below.allocT ?_ _) | refine Below.drew ?_ | refine below_drewN ?_ _ | (refine Below.then ?_ (by assumption)) | (refine Below.setRow ?_ ?_ _; rotate_left; (focus (first | exact Nat.lt_succ_self _ | ((repeat rw [World.size_alloc]); omega) | (simp; done) | (simp; omega) | omega))) | (refine Below.setCell ?_ ?_ _; rotate_left; (focus (first | exact Nat.lt_succ_self _ | ((repeat rw [World.size_alloc]); omega) | (simp; done) | (simp; omega) | omega))) | (refine Below.then' ?_ (by assumption) ?_; rotate_left; (focus (first | exact Nat.lt_succ_self _ | ((repeat rw [World.size_alloc]); omega) | (simp; done) | (simp; omega) | omega))) | fail)); (first | done | fail))
  have HFew := Lib.hid (fun W b (h : row W b = some o.cells) => few29_any (some ⟨b, 0, none⟩) 1 1 [o] 1 rfl (by omega) (fun x hx => by rw [List.mem_singleton] at hx; rw [hx]; exact ⟨ho.len, Nat.le_trans ho.b.cap ho.b.top⟩) W (fun _ => ⟨b, 0, rfl, row_lt h, fun i x hi j v hv => by
    have h1 : i = 0 := by have := (List.getElem?_eq_some_iff.1 hi).1; simp at this; exact this
    subst h1
    have h2 : x = o := by simpa using hi.symm
    subst h2
    rw [row_cell h]
    simpa using hv⟩))
  generalize fewV [o] 1 = fw at *
  clear ho
  go_enter Try.func3, Try.ntmps3
  go_upto_region 1 with fail
  generalize w.alloc (.cells o.cells 25) = w0 at *
  go_wp2_with fail
  refine (awake29_any _).mono ?_
  rintro e w1 ⟨rfl, hb⟩
  have r1 := (row_below hb (row_lt r0)).trans r0
  have hB1 := Below.then hB0 hb
  clear r0 hB0 hb
  have k0 : w1.cell? ⟨w.heap.size, 0, none⟩ = some (.int .i64 o.kind) := row_cell r1 0
  have k1 : w1.cell? ⟨w.heap.size, 1, none⟩ = some (.int .i64 o.i) := row_cell r1 1
  have k2 : w1.cell? ⟨w.heap.size, 2, none⟩ = some (.slice o.A o.b.length o.c) := row_cell r1 2
  have k3 : w1.cell? ⟨w.heap.size, 3, none⟩ = some (.slice o.K o.keep.length o.d) := row_cell r1 3
  have r2 : row (w1.alloc (.cells o.cells 25)) w.heap.size = some o.cells := (row_past _ _ _ (row_lt r1)).trans r1
  have q2 : row (w1.alloc (.cells o.cells 25)) w1.heap.size = some o.cells := row_at _ _ _ _ rfl
  have B2 := Lib.hid (Below.allocT hB1 (.cells o.cells 25))
  clear r1 hB1
  go_wp2_with fail
  refine (HFew.out _ w1.heap.size q2).mono ?_
  rintro e w3 ⟨rfl, hb⟩
  have r3 := (row_below hb (row_lt r2)).trans r2
  have B3 := Lib.hid (Below.then B2.out hb)
  clear r2 q2 B2 hb HFew k0 k1 k2 k3
  cases fw
  · go_wp2_with fail
    go_ret
    exact ⟨rfl, B3.out⟩
  · have k2 : w3.cell? ⟨w.heap.size, 2, none⟩ = some (.slice o.A o.b.length o.c) := row_cell r3 2
    have R3 := Lib.hid r3
    clear r3
    go_wp2_with fail
    refine (open_nil _ _).mono ?_
    rintro e w4 ⟨rfl, rfl⟩
    have R4 := Lib.hid ((row_past w3 (.cells zPl 37) _ (row_lt R3.out)).trans R3.out)
    have z4 : row (w3.alloc (.cells zPl 37)) w3.heap.size = some zPl := row_at _ _ _ _ rfl
    have k4 : (w3.alloc (.cells zPl 37)).cell? ⟨w.heap.size, 2, none⟩ = some (.slice o.A o.b.length o.c) := row_cell R4.out 2
    have B4 := Lib.hid (Below.allocT B3.out (.cells zPl 37))
    go_wp2_with (refine wpList_build_to zPl rfl 37 _ rfl (by kernel_rfl) ?_)
    refine (open_zero _ _ _ (.inr ⟨_, rfl, z4⟩)).mono ?_
    rintro e w5 ⟨rfl, rfl⟩
    generalize w3.alloc (.cells zPl 37) = w5 at *
    have r7 : row ((w5.alloc (.cells zVt 43)).alloc (.cells #[.pointer none, .pointer (some ⟨w5.heap.size, 0, none⟩)] 29)) w.heap.size = some o.cells := (row_past _ _ _ (by rw [World.size_alloc]; have := row_lt R4.out; omega)).trans ((row_past _ _ _ (row_lt R4.out)).trans R4.out)
    have z7 : row ((w5.alloc (.cells zVt 43)).alloc (.cells #[.pointer none, .pointer (some ⟨w5.heap.size, 0, none⟩)] 29)) w5.heap.size = some zVt := (row_past _ _ _ (by rw [World.size_alloc]; omega)).trans (row_at _ _ _ _ rfl)
    have p7 : row ((w5.alloc (.cells zVt 43)).alloc (.cells #[.pointer none, .pointer (some ⟨w5.heap.size, 0, none⟩)] 29)) (w5.heap.size + 1) = some #[.pointer none, .pointer (some ⟨w5.heap.size, 0, none⟩)] := row_at _ _ _ _ (by rw [World.size_alloc])
    have B7 := Lib.hid (Below.allocT (Below.allocT B4.out (.cells zVt 43)) (.cells #[.pointer none, .pointer (some ⟨w5.heap.size, 0, none⟩)] 29))
    clear z4 k4 B4 R4 B3 R3 k2
    go_wp2_with (refine wpList_build_to zVt rfl 43 _ rfl (by kernel_rfl) ?_)
    generalize (w5.alloc (.cells zVt 43)).alloc (.cells #[.pointer none, .pointer (some ⟨w5.heap.size, 0, none⟩)] 29) = w7 at *
    generalize w5.heap.size = gz at *
    have H7 := Lib.hid (And.intro r7 (And.intro z7 (And.intro p7 B7.out)))
    clear r7 z7 p7 B7
    go_loopw [59] (fun i wr => ∃ j : Nat, i = .int .i64 j ∧ j ≤ 2 ∧ w7 = wr) (fun i _ => 2 - (intOf i).toNat)
    case atStart => exact ⟨0, rfl, by omega, rfl⟩
    case round =>
      obtain ⟨j, rfl, hj, rfl⟩ := hrel
      by_cases hlt : j < 2
      · obtain ⟨v, hvj, hno⟩ : ∃ v, (#[Value.pointer none, .pointer (some ⟨gz, 0, none⟩)] : Array Value)[j]? = some v ∧ NoVa w7 v := by
          match j, hlt with
          | 0, _ => exact ⟨_, rfl, .inl rfl⟩
          | 1, _ => exact ⟨_, rfl, .inr ⟨gz, rfl, row_cell H7.out.2.1 5⟩⟩
          | k + 2, h => omega
        have k5 := (row_cell H7.out.2.2.1 j).trans hvj
        have k2 : w7.cell? ⟨w.heap.size, 2, none⟩ = some (.slice o.A o.b.length o.c) := row_cell H7.out.1 2
        have HNo := Lib.hid hno
        have z1 : (0 : Int) ≤ (j : Int) := by omega
        have z2 : (j : Int) < 2 := by omega
        clear hvj hno
        go_wp2_with fail
        refine (append_no v _ _ HNo.out).mono ?_
        rintro e wa ⟨rfl, rfl⟩
        go_wp2_with fail
        refine (compact_no v _ _ HNo.out).mono ?_
        rintro e wa ⟨rfl, rfl⟩
        go_wp2_with fail
        refine (snapshot_no v _ HNo.out).mono ?_
        rintro e wa ⟨rfl, rfl⟩
        go_wp2_with fail
        refine (records_no v _ HNo.out).mono ?_
        rintro e wa ⟨rfl, rfl⟩
        go_wp2_with fail
        refine (generation_no v _ HNo.out).mono ?_
        rintro e wa ⟨rfl, rfl⟩
        go_wp2_with fail
        exact ⟨⟨j + 1, by go_num, by omega, by first | rfl | trivial⟩, by simp [intOf]; omega⟩
      · obtain rfl : j = 2 := by omega
        go_wp2_with fail
        go_ret
        exact ⟨rfl, H7.out.2.2.2⟩
end Go.Proofs.Ytkkncijbedfdfaa
