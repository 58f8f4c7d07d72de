/-
  The walk of FineDrains: it answers true whatever the arguments.
-/
import Derived.Test.YtecdfphfgaeodaaLaw15
import Derived.Test.YtecdfphfgaeodaaLaw07
import Derived.Test.YtecdfphfgaeodaaSlices
namespace Go.Proofs.Ytecdfphfgaeodaa
open Go.ChangeShapes Go.WideShapes Go.ChangeAt Go.RowKit Go.Deep
set_option linter.unusedVariables false

def boolC (x : Bool) : Array Value := #[.bool x]
theorem bools_under : Try.prog.underlying 63 = some (.slice 4) := by kernel_rfl
set_option maxRecDepth 100000 in
theorem open_bools {H : Type} {enc : TypeId × Value → H} {W : World} {spare : Nat → Bool} {held : Bool} {r : Reach} {b0 : Nat} {v : Value} {d : DataW H} {p : List MemPlace}
    (hv : Value.okWide Try.prog W r b0 63 v) (h : DataW.Trod enc Try.prog W 0 spare held 63 v d p) :
    ∃ A n c xs, v = .slice A n c ∧ xs.length = n ∧ (∀ x ∈ xs, True) ∧ n ≤ 9223372036854775807 ∧ SliceOf 1 boolC W A xs :=
  open_slice_of 1 boolC (fun x => True) bools_under cells_bool (by omega) (fun l fuel x hx => by
    obtain ⟨y, hy, _⟩ := DataW.trod_bool under_bool hx
    exact ⟨y, hy, trivial⟩) hv h
theorem drain_loss {P : Par} (hF : FineOk P) (h2 : P.quotEm ≤ P.quot) (j : Nat) (bal : Nat) {m : Int} (hm : m = 3 ∨ m = 4) : lossN P (j + 1) ≤ lossQ P ⟨bal, P.inc, P.bias * (j + 1), 0⟩ m := by
  unfold lossN lossQ
  rcases hm with rfl | rfl
  · rw [if_pos rfl]; exact Nat.le_refl _
  · rw [if_neg (by decide), if_pos rfl]; exact upQ_anti hF.e h2
set_option maxHeartbeats 4000000 in
set_option maxRecDepth 100000 in
theorem fineDrains_any (P : Par) (A : Option Addr) (xs : List Bool) (n c0 : Nat) (hl : xs.length = n) (hm : n ≤ 9223372036854775807) (w : World) (hU : SliceOf 1 boolC w A xs) :
    Calls Try.prog 11 #[.agg P.cells, .slice A n c0] w fun e w' => e = .returned (.bool true) ∧ Below w.heap.size w w' := by
  have r0 : row (w.alloc (.cells P.cells 24)) w.heap.size = some P.cells := (by (repeat (first | assumption | (refine row_at _ _ _ _ ?_; first | rfl | (simp only [World.size_alloc]; done) | (simp only [World.size_alloc]; omega)) | (refine (row_past _ _ _ ?_).trans ?_; (focus (first | exact Nat.lt_succ_self _ | ((repeat rw [World.size_alloc]); omega) | (simp; done) | (simp; omega) | omega))) | rw [row_drewN] | rw [row_drew])); (first | done | fail))
  have hB0 : Below w.heap.size w (w.alloc (.cells P.cells 24)) := (by (repeat (first | exact Below.refl _ _ | assumption | (refine Below.allocT ?_ _) | refine Below.drew ?_ | refine below_drewN ?_ _ | (refine Below.then ?_ (by assumption)) | (refine Below.setRow ?_ ?_ _; rotate_left; (focus (first | exact Nat.lt_succ_self _ | ((repeat rw [World.size_alloc]); omega) | (simp; done) | (simp; omega) | omega))) | (refine Below.setCell ?_ ?_ _; rotate_left; (focus (first | exact Nat.lt_succ_self _ | ((repeat rw [World.size_alloc]); omega) | (simp; done) | (simp; omega) | omega))) | (refine Below.then' ?_ (by assumption) ?_; rotate_left; (focus (first | exact Nat.lt_succ_self _ | ((repeat rw [World.size_alloc]); omega) | (simp; done) | (simp; omega) | omega))) | fail)); (first | done | fail))
  have HL := Lib.hid (fun W => pleak_any P W)
  have HN := Lib.hid hl
  clear hl
  cases hr : rightB P
  · rw [show checkE P = 70 by simp [checkE, hr], show leakV P = 0 by simp [leakV, hr]] at HL
    clear hr hU
    go_enter Try.func11, Try.ntmps11
    go_wp2_with fail
    generalize w.alloc (.cells P.cells 24) = w0 at *
    refine (awake15_any _).mono ?_
    rintro e w1 ⟨rfl, hb1⟩
    have r1 := (row_below hb1 (row_lt r0)).trans r0
    have hB1 := Below.then hB0 hb1
    clear r0 hB0 hb1
    go_wp2_with fail
    refine (HL.out _).mono ?_
    rintro e w2 ⟨rfl, hb2⟩
    have hB2 := Below.then hB1 hb2
    clear r1 hB1 hb2
    go_wp2_with fail
    go_ret
    exact ⟨rfl, hB2⟩
  · rw [show checkE P = 0 by simp [checkE, hr], show leakV P = leakT P by simp [leakV, hr]] at HL
    have hleak := right_facts hr
    have hsf := scores_facts hleak.2.1
    have hstf := stakes_facts hleak.1
    have HA := Lib.hid (lost_all (leakOk_of hleak.1 hleak.2.1) hleak.2.2.2.1)
    have HF := Lib.hid (right_fine hr)
    have HFV : Hid (∀ s m, fineV P s m = fineN P s m) := Lib.hid fun s m => by simp [fineV, hr]
    have HQ := Lib.hid hsf.2.2.2.2.2.2.2.1
    have hb1 := hsf.2.1
    have HLS : Hid (∀ j, lostN P (j + 1) = lostN P j + lossN P (j + 1)) := Lib.hid fun j => rfl
    have hfl : P.floor < P.cap := hstf.2.2.2.2.2.1
    have hcp : P.cap ≤ 1099511627776 := hstf.2.2.2.2.2.2.2.1
    have hin : P.inc ≤ 2147483648 := hstf.2.1
    clear hr hleak hsf hstf
    generalize leakT P = t at *
    by_cases ht : (2000 : Int) < (t : Int)
    · clear hU HA HF HFV HQ HLS
      go_enter Try.func11, Try.ntmps11
      go_wp2_with fail
      generalize w.alloc (.cells P.cells 24) = w0 at *
      refine (awake15_any _).mono ?_
      rintro e w1 ⟨rfl, hb1⟩
      have r1 := (row_below hb1 (row_lt r0)).trans r0
      have hB1 := Below.then hB0 hb1
      clear r0 hB0 hb1
      go_wp2_with fail
      refine (HL.out _).mono ?_
      rintro e w2 ⟨rfl, hb2⟩
      have hB2 := Below.then hB1 hb2
      clear r1 hB1 hb2
      go_wp2_with fail
      go_ret
      exact ⟨rfl, hB2⟩
    · go_enter Try.func11, Try.ntmps11
      go_wp2_with fail
      generalize w.alloc (.cells P.cells 24) = w0 at *
      refine (awake15_any _).mono ?_
      rintro e w1 ⟨rfl, hb1⟩
      have r1 := (row_below hb1 (row_lt r0)).trans r0
      have hB1 := Below.then hB0 hb1
      clear r0 hB0 hb1
      go_wp2_with fail
      refine (HL.out _).mono ?_
      rintro e w2 ⟨rfl, hb2⟩
      have r2 := (row_below hb2 (row_lt r1)).trans r1
      have hB2 := Below.then hB1 hb2
      clear r1 hB1 hb2
      have r3 := (row_past w2 (.cells #[.int .u64 P.cap, .int .u64 P.inc, .int .u64 0, .int .i64 0] 56) _ (row_lt r2)).trans r2
      have a3 := row_at w2 #[.int .u64 P.cap, .int .u64 P.inc, .int .u64 0, .int .i64 0] 56 _ rfl
      have hB3 := Below.allocT hB2 (.cells #[.int .u64 P.cap, .int .u64 P.inc, .int .u64 0, .int .i64 0] 56)
      have lr2 := row_lt r2
      have cr2 := fun i => row_cell r2 i
      have gr3 := lr2
      go_wp2_with fail
      clear r2 lr2 cr2 hB2
      generalize w2.alloc (.cells #[.int .u64 P.cap, .int .u64 P.inc, .int .u64 0, .int .i64 0] 56) = w3 at *
      have cr3 := fun i => row_cell r3 i
      have lr3 := row_lt r3
      have a3' : row w3 w2.heap.size = some (St.cells ⟨P.cap, P.inc, P.bias * 0, 0⟩) := a3
      have hg0 : w.heap.size < w2.heap.size := gr3
      generalize w2.heap.size = g at *
      have ne0 : w.heap.size ≠ g := by omega
      go_loopw [29] (fun i wr => ∃ (j bal sc : Nat), i = .int .i64 j ∧ j ≤ t ∧ Hid (sc = P.bias * j) ∧ Hid (bal ≤ P.cap - lostN P j) ∧ bal ≤ 1099511627776 ∧ row wr w.heap.size = some P.cells ∧ row wr g = some (St.cells ⟨bal, P.inc, sc, 0⟩) ∧ Below w.heap.size w wr) (fun i _ => t - (intOf i).toNat)
      case atStart => exact ⟨0, P.cap, _, rfl, by omega, Lib.hid rfl, Lib.hid (Nat.le_refl _), hcp, r3, a3', hB3⟩
      case round =>
        obtain ⟨j, bal, sc, rfl, hj, hsc, hbal, hbm, p1, q1, hB⟩ := hrel
        clear r3 a3 a3' hB3 cr3 lr3
        by_cases hlt : j < t
        · obtain ⟨sc', hsc'⟩ : ∃ sc', sc' = P.bias * (j + 1) := ⟨_, rfl⟩
          have hadd : sc' = sc + P.bias := by rw [hsc', hsc.out]; rfl
          have hle : sc' ≤ 4294967296 * 2001 := by rw [hsc']; exact Nat.mul_le_mul hb1 (by omega)
          have E1 : IntKind.u64.wrap ((sc : Int) + (P.bias : Int)) = (sc' : Int) := by rw [show (sc : Int) + (P.bias : Int) = ((sc' : Nat) : Int) by omega]; exact Bits.wrapN _ (by omega)
          have HX := Lib.hid (fun (m : Int) W => ftake_any P ⟨bal, P.inc, sc', 0⟩ m ⟨show bal < 18446744073709551616 by omega, show P.inc < 18446744073709551616 by omega, show sc' < 18446744073709551616 by omega, by unfold i64ok; simp only []; omega⟩ W)
          have HD : Hid (∀ m : Int, m = 3 ∨ m = 4 → bal - fineV P ⟨bal, P.inc, sc', 0⟩ m ≤ P.cap - lostN P (j + 1)) := Lib.hid fun m hm => by
            have h1 := drain_loss HF.out HQ.out j bal hm
            have h2 := hbal.out
            rw [HFV.out, HLS.out, fineN, hsc']
            simp only []
            omega
          have HSC := Lib.hid hsc'
          clear hadd hle hsc' hsc hbal HFV HLS HA HQ HF
          have l0 := row_lt p1
          have lg := row_lt q1
          have cg : ∀ i, wr.cell? ⟨g, i, none⟩ = (St.cells ⟨bal, P.inc, sc, 0⟩)[i]? := fun i => row_cell q1 i
          have fg : ∀ i, wr.frozen? ⟨g, i, none⟩ = false := fun i => row_frozen q1 i
          have cp : ∀ i, wr.cell? ⟨w.heap.size, i, none⟩ = P.cells[i]? := fun i => row_cell p1 i
          have hcase : Hid ((∃ (b off : Nat), A = some ⟨b, off, none⟩ ∧ j < n ∧ b ≠ g ∧ wr.cell? ⟨b, off + j, none⟩ = some (.bool true)) ∨ (∃ (b off : Nat), A = some ⟨b, off, none⟩ ∧ j < n ∧ b ≠ g ∧ wr.cell? ⟨b, off + j, none⟩ = some (.bool false)) ∨ ¬ j < n) := Lib.hid (by
            by_cases hjn : j < n
            · obtain ⟨b, off, rfl, hbb, hcell⟩ := hU (by rw [HN.out]; omega)
              obtain ⟨x, hxj⟩ : ∃ x, xs[j]? = some x := ⟨_, List.getElem?_eq_getElem (by rw [HN.out]; omega)⟩
              have hrg := range_below (hcell j _ hxj) hB hbb
              have k0 := hrg 0 (.bool x) rfl
              simp only [Nat.add_zero, Nat.mul_one] at k0
              cases x
              · exact .inr (.inl ⟨b, off, rfl, hjn, by omega, k0⟩)
              · exact .inl ⟨b, off, rfl, hjn, by omega, k0⟩
            · exact .inr (.inr hjn))
          have hcs := hcase.out
          clear hcase hU HN
          rcases hcs with ⟨b, off, rfl, hjn, hbg, hk⟩ | ⟨b, off, rfl, hjn, hbg, hk⟩ | hjn
          all_goals
            go_wp2_with fail
            refine (HX.out _ _).mono ?_
            rintro e wa ⟨rfl, hba⟩
            have p2 : row wa w.heap.size = some P.cells := (row_below hba (by simpa using l0)).trans ((row_far _ _ _ _ ne0).trans p1)
            have q2 : row wa g = some (St.cells ⟨bal, P.inc, sc', 0⟩) := (row_below hba (by simpa using lg)).trans (row_set q1 2 _)
            have hB2 : Below w.heap.size w wa := (below_own hB (by omega) 2 _).trans (hba.mono (by have := hB.size; simpa using this))
            clear p1 q1 hB hba l0 lg cg fg cp
            go_wp2_with fail
            exact ⟨⟨j + 1, _, sc', by go_num, by omega, HSC, Lib.hid (HD.out _ (by first | exact .inl rfl | exact .inr rfl)), Nat.le_trans (Nat.sub_le _ _) hbm, (row_setRow_far (Ne.symm ne0)).trans p2, row_setRow q2, Below.setRow hB2 (by omega) _⟩, by simp [intOf]; omega⟩
        · obtain rfl : j = t := by omega
          have hfin : bal ≤ P.floor := by have h1 := HA.out; have h2 := hbal.out; omega
          have cg : ∀ i, wr.cell? ⟨g, i, none⟩ = (St.cells ⟨bal, P.inc, sc, 0⟩)[i]? := fun i => row_cell q1 i
          have cp : ∀ i, wr.cell? ⟨w.heap.size, i, none⟩ = P.cells[i]? := fun i => row_cell p1 i
          clear hU HFV HLS HA HQ HF hsc hbal
          go_wp2_with fail
          go_ret
          exact ⟨rfl, hB⟩
end Go.Proofs.Ytecdfphfgaeodaa
