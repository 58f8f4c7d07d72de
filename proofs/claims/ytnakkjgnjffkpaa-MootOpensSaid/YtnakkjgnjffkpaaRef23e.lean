/-
  The reference's Open.
-/
import Derived.Test.YtnakkjgnjffkpaaRef23b
import Derived.Test.YtnakkjgnjffkpaaRef23d
import Derived.Test.YtnakkjgnjffkpaaDed3
import Derived.Laws.MakeOwn
namespace Go.Proofs.Ytnakkjgnjffkpaa
open Go.RowKit
set_option linter.unusedVariables false

theorem placeL_drop {L : List Mot} {k : Nat} {m : Mot} (h : L[k]? = some m) : k + placeL (L.drop k) = if overM m then k else k + 1 + placeL (L.drop (k + 1)) := by
  obtain ⟨hl, he⟩ := List.getElem?_eq_some_iff.1 h
  rw [List.drop_eq_getElem_cons hl, he, placeL]
  split
  · rfl
  · omega
theorem placeL_end (L : List Mot) : L.length + placeL (L.drop L.length) = L.length := by rw [List.drop_length]; rfl
def nobC : Array Value := madeCells (Value.int .u8 0).cells 16
theorem nobC_list : nobC.toList = nob.map fun x : Nat => Value.int .u8 ((x : Nat) : Int) := by
  unfold nobC
  rw [show (Value.int .u8 0).cells = #[Value.int .u8 0] from rfl, toList_madeCells_one]; rfl
theorem run_make16 (w : World) : (Instr.makeSlice 64 (.int .i64 16) (.int .i64 16)).run Try.prog w = .ok (.slice (some ⟨w.heap.size, 0, none⟩) 16 16) (w.alloc (.cells nobC 5)) := by
  obtain ⟨i0, hi, hz0, hz1, hz2⟩ := info_parts u8_info
  have h := run_make (P := Try.prog) w 64 5 i0 (.int .u8 0) u8s_under hi hz0 .i64 .i64 16 16 (by omega) (by omega) (by rw [hz2]; decide) (by omega)
  rw [h, hz1]; rfl
attribute [go_sem ↓] run_make16
theorem nob_bys {W : World} {g : Nat} (h : row W g = some nobC) : Bys W (some ⟨g, 0, none⟩) nob := fun hp => by
  refine ⟨g, 0, rfl, row_lt h, fun i hi => ?_⟩
  rw [Nat.zero_add, row_cell h i]
  have hi' : i < 16 := by simpa [nob] using hi
  rw [← Array.getElem?_toList, nobC_list, List.getElem?_map, List.getD_eq_getElem?_getD, List.getElem?_eq_getElem hi]; rfl
theorem lt_n1 (n : Nat) : (n < n + 1) = True := eq_true (Nat.lt_succ_self n)
theorem lt_n2 (n : Nat) : (n < n + 1 + 1) = True := eq_true (by omega)
theorem lt_n3 (n : Nat) : (n + 1 < n + 1 + 1) = True := eq_true (by omega)
attribute [go_sem] lt_n1 lt_n2 lt_n3
theorem run_store_agg {P : Program} (T : TypeId) (n : Nat) (hi : (P.info? T).map (·.size) = some n)
    {ρ : Operand → Value} {dst : Option Tmp} {x y : Operand} {ty : TypeId} {pos : String} {after : Array Edge} {gd : Option (Nat × Bool)} {w : World}
    (h1 : ρ x = .pointer (some ⟨blk (ρ x), 0, none⟩)) (h2 : (row w (blk (ρ x))).map (·.size) = some n)
    (h3 : ρ y = .agg (aggOf (ρ y))) (h4 : (aggOf (ρ y)).size = n) (h5 : allOne (aggOf (ρ y)) = true) :
    (execOp ρ ⟨dst, .store T x y, ty, pos, after, gd⟩).run P w = .ok .skip (w.setRow (blk (ρ x)) (aggOf (ρ y))) := by
  obtain ⟨cs, hc, hs⟩ := Option.map_eq_some_iff.1 h2
  obtain ⟨t, ht⟩ := row_heap hc
  generalize blk (ρ x) = g at *
  generalize aggOf (ρ y) = new at *
  unfold execOp
  simp only [h1, h3, Instr.storeAt, Instr.sureAddr, Sem.run_bind, Sem.run_pure, Result.andThen_ok, run_storeVar_row w g t T cs new ht (by rw [hi, h4]) (by omega) h5]
theorem rmot_run_store {ρ : Operand → Value} {dst : Option Tmp} {x y : Operand} {ty : TypeId} {pos : String} {after : Array Edge} {gd : Option (Nat × Bool)} {w : World}
    (h1 : ρ x = .pointer (some ⟨blk (ρ x), 0, none⟩)) (h2 : (row w (blk (ρ x))).map (·.size) = some 33)
    (h3 : ρ y = .agg (aggOf (ρ y))) (h4 : (aggOf (ρ y)).size = 33) (h5 : allOne (aggOf (ρ y)) = true) :
    (execOp ρ ⟨dst, .store 107 x y, ty, pos, after, gd⟩).run Try.prog w = .ok .skip (w.setRow (blk (ρ x)) (aggOf (ρ y))) := run_store_agg _ 33 rmot_info h1 h2 h3 h4 h5
attribute [go_sem ↓] rmot_run_store
theorem rmot_built (ac wh : Int) (p : Par) (ds : Int) (am : Nat) (s en : Int) (A1 : Option Addr) (n1 c1 : Nat) (A2 : Option Addr) (n2 c2 : Nat) :
    Try.prog.built 107 [(0, .int .i64 ac), (1, .int .i64 wh), (2, .agg p.cells), (3, .int .i64 ds), (4, .int .u64 (am : Int)), (5, .int .i64 en), (6, .int .i64 0), (7, .int .i64 s), (8, .slice A1 n1 c1), (9, .slice A2 n2 c2)] = some (motN ac wh p ds am s en A1 n1 c1 A2 n2 c2) := by kernel_rfl
theorem rmot_run_build {ρ : Operand → Value} {dst : Option Tmp} {x0 x1 x2 x3 x4 x5 x6 x7 x8 x9 : Operand} {ty : TypeId} {pos : String} {after : Array Edge} {gd : Option (Nat × Bool)} {w : World}
    (h : (Try.prog.built 107 [(0, ρ x0), (1, ρ x1), (2, ρ x2), (3, ρ x3), (4, ρ x4), (5, ρ x5), (6, ρ x6), (7, ρ x7), (8, ρ x8), (9, ρ x9)]).isSome = true) :
    (execOp ρ ⟨dst, .build 107 #[(0, x0), (1, x1), (2, x2), (3, x3), (4, x4), (5, x5), (6, x6), (7, x7), (8, x8), (9, x9)], ty, pos, after, gd⟩).run Try.prog w = .ok (.value (.agg ((Try.prog.built 107 [(0, ρ x0), (1, ρ x1), (2, ρ x2), (3, ρ x3), (4, ρ x4), (5, ρ x5), (6, ρ x6), (7, ρ x7), (8, ρ x8), (9, ρ x9)]).getD #[]))) w := by
  obtain ⟨cs, hc⟩ := Option.isSome_iff_exists.1 h
  unfold execOp
  simp [run_build, hc]
attribute [go_sem ↓] rmot_run_build
attribute [go_sem] rmot_built motN_size motN_one
theorem motN_open (p : Par) (d : Ded) (ep : Int) (A1 : Option Addr) (c1 : Nat) (A2 : Option Addr) (c2 : Nat) : motN d.account d.what d.par d.dest d.amount 1 (ep + p.poll) A1 16 c1 A2 16 c2 = motC (openM p d ep, ⟨A1, c1, A2, c2⟩) := by
  have h := motN_eq d.account d.what d.par d.dest d.amount 1 (ep + p.poll) A1 c1 A2 c2 nob nob
  have hl : nob.length = 16 := List.length_replicate ..
  rw [hl] at h
  exact h
theorem row_motN {V : World} {g : Nat} {p : Par} {d : Ded} {ep : Int} {b0 b1 : Nat} (h : row V g = some (motN d.account d.what d.par d.dest d.amount 1 (ep + p.poll) (some ⟨b0, 0, none⟩) 16 16 (some ⟨b1, 0, none⟩) 16 16)) : row V g = some (motC (openM p d ep, ⟨some ⟨b0, 0, none⟩, 16, some ⟨b1, 0, none⟩, 16⟩)) := h.trans (congrArg some (motN_open p d ep _ _ _ _))
theorem RetL.toO {w w' : World} {L : List Mot} {i er : Int} {A : Option Addr} {n c : Nat} (h : RetL w L er (.returned (.tuple #[.slice A n c, .int .i64 er])) w') : RetO w L i er (.returned (.tuple #[.slice A n c, .int .i64 i, .int .i64 er])) w' := by
  obtain ⟨A', n', c', xs, e, h1, h2, h3, h4, h5⟩ := h
  cases e
  exact ⟨A, n, c, xs, rfl, h1, h2, h3, h4, h5⟩
set_option maxRecDepth 100000 in
set_option maxHeartbeats 8000000 in
theorem ropen_any23 (p : Par) (A : Option Addr) (n c : Nat) (xs : List (Mot × MotA)) (d : Ded) (a : DedA) (ep : Int) (hd : d.Ok) (hep : i64ok ep) (hbl : d.bits.length ≤ 9223372036854775807) (hn : xs.length = n) (hm : n ≤ 1000) (w : World) (hX : ML w A xs) :
    Calls Try.prog 34 #[.agg p.cells, .slice A n c, .agg (dedC (d, a)), .int .i64 ep] w (RetO w (openL p (xs.map (·.1)) d ep) (openI p (xs.map (·.1)) d ep) (openE p (xs.map (·.1)) d ep)) := by
  have r0 : row ((w.alloc (.cells p.cells 88)).alloc (.cells (dedC (d, a)) 92)) w.heap.size = some p.cells := (by (repeat (first | assumption | (refine row_at _ _ _ _ ?_; first | rfl | (simp only [World.size_alloc]; done) | (simp only [World.size_alloc]; omega)) | (refine (row_past _ _ _ ?_).trans ?_; (focus (first | exact Nat.lt_succ_self _ | ((repeat rw [World.size_alloc]); omega) | (simp; done) | (simp; omega) | omega))) | rw [row_drewN] | rw [row_drew])); (first | done | fail))
  have q0 : row ((w.alloc (.cells p.cells 88)).alloc (.cells (dedC (d, a)) 92)) (w.heap.size + 1) = some (dedC (d, a)) := (by (repeat (first | assumption | (refine row_at _ _ _ _ ?_; first | rfl | (simp only [World.size_alloc]; done) | (simp only [World.size_alloc]; omega)) | (refine (row_past _ _ _ ?_).trans ?_; (focus (first | exact Nat.lt_succ_self _ | ((repeat rw [World.size_alloc]); omega) | (simp; done) | (simp; omega) | omega))) | rw [row_drewN] | rw [row_drew])); (first | done | fail))
  have hB0 : Below w.heap.size w ((w.alloc (.cells p.cells 88)).alloc (.cells (dedC (d, a)) 92)) := (by (repeat (first | exact Below.refl _ _ | assumption | (refine Below.allocT ?_ _) | refine Below.drew ?_ | refine below_drewN ?_ _ | (refine Below.then ?_ (by assumption)) | (refine Below.setRow ?_ ?_ _; rotate_left; (focus (first | exact Nat.lt_succ_self _ | ((repeat rw [World.size_alloc]); omega) | (simp; done) | (simp; omega) | omega))) | (refine Below.setCell ?_ ?_ _; rotate_left; (focus (first | exact Nat.lt_succ_self _ | ((repeat rw [World.size_alloc]); omega) | (simp; done) | (simp; omega) | omega))) | (refine Below.then' ?_ (by assumption) ?_; rotate_left; (focus (first | exact Nat.lt_succ_self _ | ((repeat rw [World.size_alloc]); omega) | (simp; done) | (simp; omega) | omega))) | fail)); (first | done | fail))
  have HCk := Lib.hid (fun W => right_any p W)
  generalize hL : xs.map (·.1) = L
  have HLe := Lib.hid hL
  have HX0 := Lib.hid (hX.stay hB0)
  have HXw := Lib.hid hX
  have HB0 := Lib.hid hB0
  have hD' := Lib.hid hd
  have HN := Lib.hid hn
  clear hX hL hB0 hn
  by_cases hr : rightB p = true
  case neg =>
    have hr' : rightB p = false := by simpa using hr
    rw [hr'] at HCk
    have hE : openE p L d ep = 70 := by unfold openE; rw [if_pos hr']
    have HEnd : Hid (∀ W, Below w.heap.size w W → RetO w (openL p L d ep) (openI p L d ep) (openE p L d ep) (.returned (.tuple #[.slice none 0 0, .int .i64 0, .int .i64 70])) W) := Lib.hid fun W h => by
      unfold openL openI; rw [hE]; exact RetO.no h
    clear hr hr' hE
    go_enter Try.func34, Try.ntmps34
    go_upto_region 1 with fail
    change Code.wp _ _ _ _ ((w.alloc (.cells p.cells 88)).alloc (.cells (dedC (d, a)) 92))
    generalize (w.alloc (.cells p.cells 88)).alloc (.cells (dedC (d, a)) 92) = w0 at *
    go_wp2_with fail
    refine (HCk.out _).mono ?_
    rintro e w1 ⟨rfl, hb1⟩
    have HB1 := Lib.hid (Below.then HB0.out hb1)
    clear hb1
    go_wp2_with fail
    go_ret3
    exact HEnd.out _ HB1.out
  case pos =>
    rw [hr] at HCk
    have HR := Lib.hid hr
    have hpoll : Hid (1 ≤ p.poll ∧ p.poll ≤ 1000) := Lib.hid (by
      unfold rightB at hr
      simp only [Bool.and_eq_true] at hr
      exact (others_facts hr.2.2.1).2.2.2.2.2.1)
    clear hr
    go_enter Try.func34, Try.ntmps34
    go_upto_region 1 with fail
    change Code.wp _ _ _ _ ((w.alloc (.cells p.cells 88)).alloc (.cells (dedC (d, a)) 92))
    generalize (w.alloc (.cells p.cells 88)).alloc (.cells (dedC (d, a)) 92) = w0 at *
    go_upto_region 3 with (go_at_call 43; refine (HCk.out _).mono ?_; rintro e w1 ⟨rfl, hb1⟩)
    have HB1 := Lib.hid (Below.then HB0.out hb1)
    have HX1 := Lib.hid (HX0.out.stay hb1)
    have r1 := below_row' hb1 r0
    have q1 := below_row' hb1 q0
    clear r0 q0 hb1 HB0 HX0 HCk
    have k0 : w1.cell? ⟨w.heap.size + 1, 0, none⟩ = some (.int .i64 d.kind) := row_cell q1 0
    have HErr : Hid (∀ E : Int, E ≠ 0 → openE p L d ep = E → ∀ W, Below w.heap.size w W → RetO w (openL p L d ep) (openI p L d ep) (openE p L d ep) (.returned (.tuple #[.slice none 0 0, .int .i64 0, .int .i64 E])) W) := Lib.hid fun E h0 hE W h => by
      unfold openL openI; rw [hE, if_neg h0, if_neg h0]; exact RetO.no h
    by_cases hk : d.kind = 6
    case neg =>
      have e1 : (d.kind != 6) = true := bne_iff_ne.2 hk
      have hE : openE p L d ep = 80 := by unfold openE; rw [if_neg (by rw [HR.out]; exact Bool.noConfusion), if_pos (.inl hk)]
      have HEnd := Lib.hid (HErr.out 80 (by decide) hE)
      clear hk hE HErr
      go_wp2_with fail
      go_ret3
      exact HEnd.out _ HB1.out
    case pos =>
    have HD := Lib.hid (rdright6_any d a hk hbl w1)
    have e1 : (d.kind != 6) = false := bne_eq_false_iff_eq.2 hk
    have HK := Lib.hid hk
    clear hk
    by_cases hrd : rightD d = true
    case neg =>
      have hrd' : rightD d = false := by simpa using hrd
      have hE : openE p L d ep = 80 := by unfold openE; rw [if_neg (by rw [HR.out]; exact Bool.noConfusion), if_pos (.inr hrd')]
      have HEnd := Lib.hid (HErr.out 80 (by decide) hE)
      rw [hrd'] at HD
      clear hrd hrd' hE HErr
      go_wp2_with fail
      refine (HD.out).mono ?_
      rintro e w2 ⟨rfl, hb2⟩
      have HB2 := Lib.hid (Below.then HB1.out hb2)
      clear hb2
      go_wp2_with fail
      go_ret3
      exact HEnd.out _ HB2.out
    case pos =>
    rw [hrd] at HD
    have HRD := Lib.hid hrd
    clear hrd
    have HW := Lib.hid (fun W => in23_any ep 0 1073741824 W)
    go_upto_region 5 with (go_at_call 89; refine (HD.out).mono ?_; rintro e w2 ⟨rfl, hb2⟩)
    have HB2 := Lib.hid (Below.then HB1.out hb2)
    have HX2 := Lib.hid (HX1.out.stay hb2)
    have r2 := below_row' hb2 r1
    have q2 := below_row' hb2 q1
    clear r1 q1 hb2 HB1 HX1 HD k0
    by_cases hbt : betw ep 0 1073741824 = true
    case neg =>
      have hbt' : betw ep 0 1073741824 = false := by simpa using hbt
      have hE : openE p L d ep = 2 := by unfold openE; rw [if_neg (by rw [HR.out]; exact Bool.noConfusion), if_neg (by rw [HRD.out, HK.out]; simp), if_pos hbt']
      have HEnd := Lib.hid (HErr.out 2 (by decide) hE)
      rw [hbt'] at HW
      clear hbt hbt' hE HErr
      go_wp2_with fail
      refine (HW.out _).mono ?_
      rintro e w3 ⟨rfl, rfl⟩
      go_wp2_with fail
      go_ret3
      exact HEnd.out _ HB2.out
    case pos =>
    rw [hbt] at HW
    have HBt := Lib.hid hbt
    clear hbt
    have hLn : L.length = n := by rw [← HLe.out, List.length_map]; exact HN.out
    have HLn := Lib.hid hLn
    have HRQ := Lib.hid (And.intro r2 q2)
    clear hLn r2 q2
    have e9 : IntKind.i64.wrap ((n : Int) - 1) = (n : Int) - 1 := IntWalk.i64_in _ (by omega)
    go_upto_region 7 with (go_at_call 90; refine (HW.out _).mono ?_; rintro e w3 ⟨rfl, rfl⟩)
    go_wp2_with fail
    go_loopw [11, 12] (fun at_ i wr => ∃ (j : Nat) (z : Int), i = .int .i64 z ∧ z = (j : Int) - 1 ∧ at_ = .int .i64 ((j + placeL (L.drop j) : Nat) : Int) ∧ j ≤ n ∧ w2 = wr) (fun _ i _ => (intOf i + 1).toNat)
    case atStart =>
      refine ⟨n, _, rfl, rfl, ?_, Nat.le_refl _, rfl⟩
      have h := placeL_end L
      rw [HLn.out] at h
      rw [h]
    case round =>
      obtain ⟨j, z, rfl, hz, rfl, hj, rfl⟩ := hrel
      cases j with
      | succ k =>
        obtain rfl : z = (k : Int) := by omega
        have hkn : k < n := by omega
        obtain ⟨⟨m, ma⟩, hx⟩ : ∃ x, xs[k]? = some x := ⟨_, List.getElem?_eq_getElem (by rw [HN.out]; exact hkn)⟩
        have hLk : L[k]? = some m := by rw [← HLe.out, List.getElem?_map, hx]; rfl
        obtain ⟨b, off, rfl, hbb, hcell⟩ := HX2.out.sl (by rw [HN.out]; omega)
        have cS : w2.cell? ⟨b, off + k * 33 + 30, none⟩ = some (.int .i64 m.state) := hcell k _ hx 30 _ (by rw [Array.getElem?_toList]; exact motC_at30 _)
        have hpl := placeL_drop hLk
        have e8 : IntKind.i64.wrap ((k : Int) - 1) = (k : Int) - 1 := IntWalk.i64_in _ (by omega)
        have z1 : (0 : Int) ≤ (k : Int) := by omega
        have z2 : (k : Int) < (n : Int) := by omega
        clear hcell hx hLk hz
        by_cases h3 : m.state = 3
        · have e3 : (m.state == 3) = true := beq_iff_eq.2 h3
          have hp : k + placeL (L.drop k) = k := by rw [hpl, if_pos (show overM m = true from decide_eq_true (.inl h3))]
          have HPl := Lib.hid hp
          clear h3 hp hpl
          generalize placeL (L.drop (k + 1)) = q at *
          go_wp2_with fail
          exact ⟨⟨k, (k : Int) - 1, rfl, rfl, by rw [HPl.out], by omega, by first | rfl | trivial⟩, by first | (simp [intOf]; done) | (simp [intOf]; omega)⟩
        · have e3 : (m.state == 3) = false := beq_eq_false_iff_ne.2 h3
          by_cases h4 : m.state = 4
          · have e4 : (m.state == 4) = true := beq_iff_eq.2 h4
            have hp : k + placeL (L.drop k) = k := by rw [hpl, if_pos (show overM m = true from decide_eq_true (.inr h4))]
            have HPl := Lib.hid hp
            clear h3 h4 hp hpl
            generalize placeL (L.drop (k + 1)) = q at *
            go_wp2_with fail
            exact ⟨⟨k, (k : Int) - 1, rfl, rfl, by rw [HPl.out], by omega, by first | rfl | trivial⟩, by first | (simp [intOf]; done) | (simp [intOf]; omega)⟩
          · have e4 : (m.state == 4) = false := beq_eq_false_iff_ne.2 h4
            have hp : k + placeL (L.drop k) = k + 1 + placeL (L.drop (k + 1)) := by rw [hpl, if_neg (by unfold overM; rw [decide_eq_false (by rintro (h | h); exact h3 h; exact h4 h)]; exact Bool.noConfusion)]
            generalize placeL (L.drop (k + 1)) = q at *
            have HPl := Lib.hid hp
            clear h3 h4 hp hpl
            go_wp2_with fail
            exact ⟨⟨k, (k : Int) - 1, rfl, rfl, by rw [HPl.out], by omega, by first | rfl | trivial⟩, by first | (simp [intOf]; done) | (simp [intOf]; omega)⟩
      | zero =>
        obtain rfl : z = -1 := by omega
        rw [show (0 : Nat) + placeL (L.drop 0) = placeL L by rw [List.drop_zero, Nat.zero_add]]
        obtain ⟨P, hPe⟩ : ∃ P, P = placeL L := ⟨_, rfl⟩
        have hle : P ≤ n := by rw [hPe]; have := placeL_le L; rw [HLn.out] at this; exact this
        rw [← hPe]
        have HP := Lib.hid hPe
        clear hPe hz hj
        by_cases h32 : 32 ≤ P
        case pos =>
          have hE : openE p L d ep = 161 := by unfold openE; rw [if_neg (by rw [HR.out]; exact Bool.noConfusion), if_neg (by rw [HRD.out, HK.out]; simp), if_neg (by rw [HBt.out]; exact Bool.noConfusion), if_pos (by rw [← HP.out]; exact h32)]
          have HEnd := Lib.hid (HErr.out 161 (by decide) hE)
          clear hE HErr
          have z2 : (31 : Int) < (P : Int) := by omega
          clear h32 hle
          go_wp2_with fail
          go_ret3
          exact HEnd.out _ HB2.out
        case neg =>
        have hE : openE p L d ep = 0 := by unfold openE; rw [if_neg (by rw [HR.out]; exact Bool.noConfusion), if_neg (by rw [HRD.out, HK.out]; simp), if_neg (by rw [HBt.out]; exact Bool.noConfusion), if_neg (by rw [← HP.out]; exact h32)]
        have HEnd : Hid (∀ W A' n' c' ys, Below w.heap.size w W → ys.length = n' → ML W A' ys → ys.map (·.1) = (if P = L.length then L ++ [openM p d ep] else L.set P (openM p d ep)) → (A' = none → c' = 0) → RetO w (openL p L d ep) (openI p L d ep) (openE p L d ep) (.returned (.tuple #[.slice A' n' c', .int .i64 (P : Int), .int .i64 0])) W) := Lib.hid fun W A' n' c' ys h1 h2 h3 h4 h5 => by
          unfold openL openI
          rw [hE, if_pos rfl, if_pos rfl, ← HP.out, ← h4]
          exact ⟨A', n', c', ys, rfl, h2, h3, rfl, h5, h1⟩
        clear hE HErr
        have z32 : ¬ ((31 : Int) < (P : Int)) := by omega
        have e21 : IntKind.i64.wrap (ep + p.poll) = ep + p.poll := by
          have h1 := of_decide_eq_true HBt.out
          have h2 := hpoll.out
          exact IntWalk.i64_in _ (by omega)
        go_upto_region 15 with fail
        go_cut [13] (fun s13 wx => ∃ (V : World) (g b0 b1 : Nat), s13 = .pointer (some ⟨g, 0, none⟩) ∧ V = wx ∧ Below w2.heap.size w2 V ∧ row V g = some (motC (openM p d ep, ⟨some ⟨b0, 0, none⟩, 16, some ⟨b1, 0, none⟩, 16⟩)) ∧ row V b0 = some nobC ∧ row V b1 = some nobC ∧ w2.heap.size ≤ b0 ∧ w2.heap.size ≤ b1)
        case first =>
          have HM : Hid (∀ w', Below w2.heap.size w2 w' → row w' w.heap.size = some p.cells ∧ row w' (w.heap.size + 1) = some (dedC (d, a)) ∧ w'.cell? ⟨w.heap.size, 21, none⟩ = some (.int .i64 p.poll) ∧ w'.cell? ⟨w.heap.size + 1, 1, none⟩ = some (.int .i64 d.account) ∧ w'.cell? ⟨w.heap.size + 1, 7, none⟩ = some (.int .i64 d.what) ∧ w'.cell? ⟨w.heap.size + 1, 3, none⟩ = some (.int .i64 d.dest) ∧ w'.cell? ⟨w.heap.size + 1, 4, none⟩ = some (.int .u64 (d.amount : Int))) := Lib.hid fun w' h => by
            have r5 := below_row' h HRQ.out.1
            have q5 := below_row' h HRQ.out.2
            exact ⟨r5, q5, row_cell r5 21, row_cell q5 1, row_cell q5 7, row_cell q5 3, row_cell q5 4⟩
          go_region_held3 (fun w' => row w' w.heap.size = some p.cells ∧ row w' (w.heap.size + 1) = some (dedC (d, a)) ∧ w'.cell? ⟨w.heap.size, 21, none⟩ = some (.int .i64 p.poll) ∧ w'.cell? ⟨w.heap.size + 1, 1, none⟩ = some (.int .i64 d.account) ∧ w'.cell? ⟨w.heap.size + 1, 7, none⟩ = some (.int .i64 d.what) ∧ w'.cell? ⟨w.heap.size + 1, 3, none⟩ = some (.int .i64 d.dest) ∧ w'.cell? ⟨w.heap.size + 1, 4, none⟩ = some (.int .u64 (d.amount : Int))) (exact HM.out _ (by (repeat (first | exact Below.refl _ _ | assumption | (refine Below.allocT ?_ _) | refine Below.drew ?_ | refine below_drewN ?_ _ | (refine Below.then ?_ (by assumption)) | (refine Below.setRow ?_ ?_ _; rotate_left; (focus (first | exact Nat.lt_succ_self _ | ((repeat rw [World.size_alloc]); omega) | (simp; done) | (simp; omega) | omega))) | (refine Below.setCell ?_ ?_ _; rotate_left; (focus (first | exact Nat.lt_succ_self _ | ((repeat rw [World.size_alloc]); omega) | (simp; done) | (simp; omega) | omega))) | (refine Below.then' ?_ (by assumption) ?_; rotate_left; (focus (first | exact Nat.lt_succ_self _ | ((repeat rw [World.size_alloc]); omega) | (simp; done) | (simp; omega) | omega))) | fail)); (first | done | fail))) (fail)
          all_goals
            go_wp2_with fail
            go_meet
            refine ⟨_, _, ?_, ?_, rfl, rfl, ?_, row_motN ?_, ?_, ?_, ?_, ?_⟩
            rotate_left 3
            · exact (by (repeat (first | assumption | (refine row_at _ _ _ _ ?_; first | rfl | (simp only [World.size_alloc]; done) | (simp only [World.size_alloc]; omega)) | (refine (row_past _ _ _ ?_).trans ?_; (focus (first | exact Nat.lt_succ_self _ | ((repeat rw [World.size_alloc]); omega) | (simp; done) | (simp; omega) | omega))) | rw [row_drewN] | rw [row_drew])); (first | done | fail))
            · exact (by (repeat (first | assumption | (refine row_at _ _ _ _ ?_; first | rfl | (simp only [World.size_alloc]; done) | (simp only [World.size_alloc]; omega)) | (refine (row_past _ _ _ ?_).trans ?_; (focus (first | exact Nat.lt_succ_self _ | ((repeat rw [World.size_alloc]); omega) | (simp; done) | (simp; omega) | omega))) | rw [row_drewN] | rw [row_drew])); (first | done | fail))
            · exact (by (repeat (first | assumption | (refine row_at _ _ _ _ ?_; first | rfl | (simp only [World.size_alloc]; done) | (simp only [World.size_alloc]; omega)) | (refine (row_past _ _ _ ?_).trans ?_; (focus (first | exact Nat.lt_succ_self _ | ((repeat rw [World.size_alloc]); omega) | (simp; done) | (simp; omega) | omega))) | rw [row_drewN] | rw [row_drew])); (first | done | fail))
            · (repeat rw [World.size_alloc]); omega
            · (repeat rw [World.size_alloc]); omega
            · exact (by (repeat (first | exact Below.refl _ _ | assumption | (refine Below.allocT ?_ _) | refine Below.drew ?_ | refine below_drewN ?_ _ | (refine Below.then ?_ (by assumption)) | (refine Below.setRow ?_ ?_ _; rotate_left; (focus (first | exact Nat.lt_succ_self _ | ((repeat rw [World.size_alloc]); omega) | (simp; done) | (simp; omega) | omega))) | (refine Below.setCell ?_ ?_ _; rotate_left; (focus (first | exact Nat.lt_succ_self _ | ((repeat rw [World.size_alloc]); omega) | (simp; done) | (simp; omega) | omega))) | (refine Below.then' ?_ (by assumption) ?_; rotate_left; (focus (first | exact Nat.lt_succ_self _ | ((repeat rw [World.size_alloc]); omega) | (simp; done) | (simp; omega) | omega))) | fail)); (first | done | fail))
        case rest =>
          obtain ⟨V, g1, b0, b1, rfl, rfl, hBV, rV, rb0, rb1, hg0, hg1⟩ := hcut
          have HBV := Lib.hid hBV
          have HXV := Lib.hid (HX2.out.stay hBV)
          have HOwn := Lib.hid (rown_any A n c xs HN.out (by omega) V HXV.out.sl)
          have HB4 := Lib.hid (Below.then HB2.out hBV)
          have hV0 := row_lt rb0
          have hV1 := row_lt rb1
          have HAt : Hid (∀ W, Below V.heap.size V W → ∀ g', V.heap.size ≤ g' → MotAt W (openM p d ep, ⟨some ⟨b0, 0, none⟩, 16, some ⟨b1, 0, none⟩, 16⟩) ∧ ∀ k, MotB (openM p d ep, ⟨some ⟨b0, 0, none⟩, 16, some ⟨b1, 0, none⟩, 16⟩) k → k ≠ g') := Lib.hid fun W h g' hg => ⟨⟨nob_bys (below_row' h rb0), nob_bys (below_row' h rb1), fun h => (by cases h), fun h => (by cases h)⟩, fun k hk => by
            rcases hk with ⟨_, x, hx, rfl⟩ | ⟨_, x, hx, rfl⟩
            · cases hx; exact Nat.ne_of_lt (Nat.lt_of_lt_of_le hV0 hg)
            · cases hx; exact Nat.ne_of_lt (Nat.lt_of_lt_of_le hV1 hg)⟩
          have HOkM := Lib.hid (openM_ok (p := p) (d := d) (ep := ep) hD'.out HBt.out hpoll.out)
          have HRV := Lib.hid rV
          clear hBV rV rb0 rb1 hg0 hg1 hV0 hV1 HX2 HB2 HRQ
          generalize hM : ((openM p d ep, ⟨some ⟨b0, 0, none⟩, 16, some ⟨b1, 0, none⟩, 16⟩) : Mot × MotA) = M at *
          have HMe := Lib.hid (show openM p d ep = M.1 by rw [← hM])
          rw [HMe.out] at HOkM HEnd
          clear hM
          go_upto_region 17 with (go_at_call 91; refine (HOwn.out).mono ?_; rintro e w6 ⟨A6, c6, rfl, hO6, hb6, hz6⟩)
          rw [HN.out] at hO6 ⊢
          have HO6 := Lib.hid hO6
          have HB6 := Lib.hid (Below.then HB4.out hb6)
          have HR6 := Lib.hid (below_row' hb6 HRV.out)
          have H46 := Lib.hid hb6
          clear hO6 hb6 HRV HOwn
          by_cases hPn : P = n
          case pos =>
            subst hPn
            have eb : ((P : Int) == (P : Int)) = true := beq_self_eq_true _
            rw [if_pos HLn.out.symm] at HEnd
            have r6 := HR6.out
            have hz := motC_one M
            go_upto_region 18 with fail
            have O7 := Lib.hid (HO6.out.stay ((Below.refl _ w6).alloc (Nat.le_refl _) (.cells (motC M) 107)))
            go_wp2_with (first | (refine wpList_slice1 rmots_under' rmot_info' rfl (by omega) (by omega) rfl _ (by rfl) (motC M) (by rfl) (motC_size _) ?_) | (at_builtin; refine wpList_append_d rmots_under' rmot_info' rfl (by omega) (by omega) motC_size motC_one rfl _ _ (by rfl) V.heap.size _ xs (by rfl) O7.out w6.heap.size 1 M (by rfl) (row_at _ _ _ _ rfl) P HN.out (by rw [HN.out]; omega) (by have := H46.out.size; rw [World.size_alloc]; omega) ?_; intro A' cap w8 hO8 hg8 _; have HO8 := Lib.hid hO8; have HB8 := Lib.hid (below_grown_c (H46.out.alloc H46.out.size (.cells (motC M) 107)) (Nat.le_refl _) O7.out hg8); clear hO8 hg8))
            go_ret3
            obtain ⟨A9, c9, e9', hs9, _⟩ := HO8.out.form motC_size
            have hlen : (xs ++ [M]).length = P + 1 := by rw [List.length_append, HN.out]; rfl
            rw [hlen] at e9'
            cases e9'
            refine HEnd.out w8 A' (P + 1) cap (xs ++ [M]) (Below.then HB4.out HB8.out) hlen ⟨hs9, fun x hx => ?_, fun x hx => ?_⟩ (by rw [List.map_append, HLe.out]; rfl) HO8.out.cap
            · rcases List.mem_append.1 hx with hx | hx
              · exact (HXV.out.at_ x hx).stay HB8.out
              · rw [List.mem_singleton] at hx; subst hx; exact (HAt.out w8 HB8.out V.heap.size (Nat.le_refl _)).1
            · rcases List.mem_append.1 hx with hx | hx
              · exact HXV.out.ok x hx
              · rw [List.mem_singleton] at hx; subst hx; exact HOkM.out
          case neg =>
            have eb : ((P : Int) == (n : Int)) = false := beq_eq_false_iff_ne.2 (by omega)
            have hPlt : P < n := by omega
            rw [if_neg (by rw [HLn.out]; exact hPn)] at HEnd
            obtain ⟨g6, rfl⟩ : ∃ g6, A6 = some ⟨g6, 0, none⟩ := by
              rcases HO6.out.2 with ⟨_, h2⟩ | ⟨g', cap', cur, h1, _⟩
              · have := HN.out; omega
              · cases h1; exact ⟨_, rfl⟩
            have r6 := HR6.out
            have hz := motC_one M
            obtain ⟨x0, hx0⟩ : ∃ x, xs[P]? = some x := ⟨_, List.getElem?_eq_getElem (by rw [HN.out]; exact hPlt)⟩
            have hth : w6.there g6 (P * 33) 33 := fun j hj => by
              refine ⟨?_, HO6.out.free _⟩
              have hv := Array.getElem?_eq_getElem (xs := motC x0) (i := j) (by rw [motC_size]; exact hj)
              rw [HO6.out.cellAt motC_size hx0 hv]; rfl
            have HPut := Lib.hid (RetL.put (x' := M) (k := P) HXw.out HO6.out HB6.out (Nat.le_trans HB4.out.size HO6.out.inBlock.1) (HAt.out w6 H46.out g6 HO6.out.inBlock.1) HOkM.out (by rw [HN.out]; exact hPlt))
            have zP : (0 : Int) ≤ (P : Int) := by omega
            have zPn : (P : Int) < (n : Int) := by omega
            clear hx0 hPn hPlt
            go_wp2_with (refine wpList_store_mid rfl 107 _ _ (by rfl) g6 (P * 33) (motC M) (by rfl) (by rfl) hth rmot_info (motC_one _) ?_)
            go_ret3
            obtain ⟨A9, n9, c9, ys, e9', h1, h2, h3, h4, h5⟩ := HPut.out
            cases e9'
            exact HEnd.out _ _ _ _ ys h5 h1 h2 (by rw [h3, HLe.out]) h4
end Go.Proofs.Ytnakkjgnjffkpaa
