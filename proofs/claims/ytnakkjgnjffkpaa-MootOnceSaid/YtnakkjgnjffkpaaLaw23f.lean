/-
  Layer 23: nobody votes twice; what is over is never ripe: the walk.
-/
import Derived.Test.YtnakkjgnjffkpaaLaw23e
import Derived.Test.YtnakkjgnjffkpaaOpenHall
namespace Go.Proofs.Ytnakkjgnjffkpaa
open Go.RowKit
set_option linter.unusedVariables false

theorem way_under : Try.prog.underlying 97 = some (.struct (Try.prog.fieldsOf 97)) := by kernel_rfl
theorem way_info : (Try.prog.info? 97).map (·.size) = some 5 := by kernel_rfl
theorem way_load {dst : Option Tmp} {x : Operand} {ty : TypeId} {pos : String} {after : Array Edge} {gd : Option (Nat × Bool)} {a : Act} {w : World} {K : Act → World → Prop} {Q : Exit → Act → World → Prop} (h1 : a.eval x = .pointer (some ⟨blk (a.eval x), ofs (a.eval x), none⟩)) (h2 : (row w (blk (a.eval x))).map (roomy (ofs (a.eval x)) 5) = some true) : Oper.wp Try.prog ⟨dst, .load 97 x, ty, pos, after, gd⟩ a w K Q = K (a.put dst (.agg (((row w (blk (a.eval x))).getD #[]).extract (ofs (a.eval x)) (ofs (a.eval x) + 5)))) w := wp_load_part _ 5 _ way_under rfl way_info h1 h2
theorem way_store {dst : Option Tmp} {x : Operand} {ty : TypeId} {pos : String} {after : Array Edge} {gd : Option (Nat × Bool)} {y : Operand} {a : Act} {w : World} {K : Act → World → Prop} {Q : Exit → Act → World → Prop} (h1 : a.eval x = .pointer (some ⟨blk (a.eval x), 0, none⟩)) (h2 : (row w (blk (a.eval x))).map (·.size) = some 5) (h3 : a.eval y = .agg (aggOf (a.eval y))) (h4 : (aggOf (a.eval y)).size = 5) (h5 : allOne (aggOf (a.eval y)) = true) : Oper.wp Try.prog ⟨dst, .store 97 x y, ty, pos, after, gd⟩ a w K Q = K (a.put dst undef) (w.setRow (blk (a.eval x)) (aggOf (a.eval y))) := wp_store_agg _ 5 way_info h1 h2 h3 h4 h5
theorem way_run_load {ρ : Operand → Value} {dst : Option Tmp} {x : Operand} {ty : TypeId} {pos : String} {after : Array Edge} {gd : Option (Nat × Bool)} {w : World} (h1 : ρ x = .pointer (some ⟨blk (ρ x), ofs (ρ x), none⟩)) (h2 : (row w (blk (ρ x))).map (roomy (ofs (ρ x)) 5) = some true) : (execOp ρ ⟨dst, .load 97 x, ty, pos, after, gd⟩).run Try.prog w = .ok (.value (.agg (((row w (blk (ρ x))).getD #[]).extract (ofs (ρ x)) (ofs (ρ x) + 5)))) w := run_load_part _ 5 _ way_under rfl way_info h1 h2
theorem way_quiet {C : World → Prop} {dst : Option Tmp} {x : Operand} {ty : TypeId} {pos : String} {after : Array Edge} {gd : Option (Nat × Bool)} {a : Act} {w : World} {g o : Nat} {cs : Array Value} (h1 : a.eval x = .pointer (some ⟨g, o, none⟩)) (h2 : row w g = some cs) (hs : roomy o 5 cs = true) : Oper.quietAt Try.prog ⟨dst, .load 97 x, ty, pos, after, gd⟩ a C w (.agg (cs.extract o (o + 5))) := quiet_load_part _ 5 _ way_under rfl way_info h1 h2 hs
attribute [go_sem ↓] way_load way_store way_run_load
theorem wayC_one (v : Way) : allOne (wayC v) = true := by unfold allOne wayC; simp [Value.oneCell']
theorem wayC_size (v : Way) : (wayC v).size = 5 := rfl
attribute [go_sem] wayC_one wayC_size
/-- Where the law stands between two votes. -/
structure OnI (w : World) (p : Par) (H : Array Value) (n : Nat) (wr : World) (A : Option Addr) (c : Nat) (ys : List (Mot × MotA)) : Prop where
  ml : ML wr A ys
  len : ys.length = n
  nil : A = none → c = 0
  few : Few50 (ys.map (·.1))
  bel : Below w.heap.size w wr
  rp : row wr w.heap.size = some p.cells
  rh : row wr (w.heap.size + 1) = some H
theorem OnI.stay {w : World} {p : Par} {H : Array Value} {n : Nat} {wr wr' : World} {A : Option Addr} {c : Nat} {ys : List (Mot × MotA)} (h : OnI w p H n wr A c ys) (hb : Below wr.heap.size wr wr') : OnI w p H n wr' A c ys :=
  ⟨h.ml.stay hb, h.len, h.nil, h.few, Below.then h.bel hb, below_row' hb h.rp, below_row' hb h.rh⟩
theorem OnI.lens {w : World} {p : Par} {H : Array Value} {n : Nat} {wr : World} {A : Option Addr} {c : Nat} {ys : List (Mot × MotA)} (h : OnI w p H n wr A c ys) : ∀ x ∈ ys, x.1.yes.length ≤ 1000000 ∧ x.1.no.length ≤ 1000000 := fun x hx => by
  have := h.few x.1 (List.mem_map_of_mem hx)
  omega
set_option maxRecDepth 100000 in
set_option maxHeartbeats 16000000 in
theorem mootOnce_any (p : Par) (A : Option Addr) (n c : Nat) (xs : List (Mot × MotA)) (A1 : Option Addr) (n1 c1 : Nat) (ms : List Mb) (A2 : Option Addr) (n2 c2 : Nat) (vs : List Way) (hp : p.Ok) (hn : xs.length = n) (h0 : A = none → c = 0) (hm : n ≤ 9223372036854775807) (hn1 : ms.length = n1) (hok : ∀ m ∈ ms, m.Ok) (hn2 : vs.length = n2) (hvs : ∀ v ∈ vs, v.Ok) (w : World) (hX : ML w A xs) (hU : SliceOf 6 Mb.cells w A1 ms) (hV : SliceOf 5 wayC w A2 vs) :
    Calls Try.prog 11 #[.agg p.cells, .agg #[.slice A n c, .slice A1 n1 c1], .slice A2 n2 c2] w fun e w' => e = .returned (.bool true) ∧ Below w.heap.size w w' := by
  have r0 : row ((w.alloc (.cells p.cells 76)).alloc (.cells #[.slice A n c, .slice A1 n1 c1] 111)) w.heap.size = some p.cells := (by (repeat (first | assumption | (refine row_at _ _ _ _ ?_; first | rfl | (simp only [World.size_alloc]; done) | (simp only [World.size_alloc]; omega)) | (refine (row_past _ _ _ ?_).trans ?_; (focus (first | exact Nat.lt_succ_self _ | ((repeat rw [World.size_alloc]); omega) | (simp; done) | (simp; omega) | omega))) | rw [row_drewN] | rw [row_drew])); (first | done | fail))
  have q0 : row ((w.alloc (.cells p.cells 76)).alloc (.cells #[.slice A n c, .slice A1 n1 c1] 111)) (w.heap.size + 1) = some #[.slice A n c, .slice A1 n1 c1] := (by (repeat (first | assumption | (refine row_at _ _ _ _ ?_; first | rfl | (simp only [World.size_alloc]; done) | (simp only [World.size_alloc]; omega)) | (refine (row_past _ _ _ ?_).trans ?_; (focus (first | exact Nat.lt_succ_self _ | ((repeat rw [World.size_alloc]); omega) | (simp; done) | (simp; omega) | omega))) | rw [row_drewN] | rw [row_drew])); (first | done | fail))
  have hB0 : Below w.heap.size w ((w.alloc (.cells p.cells 76)).alloc (.cells #[.slice A n c, .slice A1 n1 c1] 111)) := (by (repeat (first | exact Below.refl _ _ | assumption | (refine Below.allocT ?_ _) | refine Below.drew ?_ | refine below_drewN ?_ _ | (refine Below.then ?_ (by assumption)) | (refine Below.setRow ?_ ?_ _; rotate_left; (focus (first | exact Nat.lt_succ_self _ | ((repeat rw [World.size_alloc]); omega) | (simp; done) | (simp; omega) | omega))) | (refine Below.setCell ?_ ?_ _; rotate_left; (focus (first | exact Nat.lt_succ_self _ | ((repeat rw [World.size_alloc]); omega) | (simp; done) | (simp; omega) | omega))) | (refine Below.then' ?_ (by assumption) ?_; rotate_left; (focus (first | exact Nat.lt_succ_self _ | ((repeat rw [World.size_alloc]); omega) | (simp; done) | (simp; omega) | omega))) | fail)); (first | done | fail))
  have HX := Lib.hid hX
  have HN := Lib.hid hn
  have HZ := Lib.hid h0
  have HU := Lib.hid hU
  have HN1 := Lib.hid hn1
  have HOk := Lib.hid hok
  have HP := Lib.hid hp
  have HVs := Lib.hid hvs
  have HN2 := Lib.hid hn2
  have HV := Lib.hid hV
  clear hX hn h0 hU hn1 hok hp hvs hn2 hV
  go_enter Try.func11, Try.ntmps11
  go_upto_region 1 with fail
  change Code.wp _ _ _ _ ((w.alloc (.cells p.cells 76)).alloc (.cells #[.slice A n c, .slice A1 n1 c1] 111))
  generalize (w.alloc (.cells p.cells 76)).alloc (.cells #[.slice A n c, .slice A1 n1 c1] 111) = w0 at *
  have HB0 := Lib.hid hB0
  have HR0 := Lib.hid (And.intro r0 q0)
  clear hB0 r0 q0
  go_wp2_with fail
  refine (awake23_any _).mono ?_
  rintro e w1 ⟨rfl, hb1⟩
  have HB1 := Lib.hid (Below.then HB0.out hb1)
  have HR1 := Lib.hid (And.intro (below_row' hb1 HR0.out.1) (below_row' hb1 HR0.out.2))
  clear hb1 HR0 HB0
  have k10 : w1.cell? ⟨w.heap.size + 1, 0, none⟩ = some (.slice A n c) := row_cell HR1.out.2 0
  go_wp2_with fail
  refine (few23_any A n c xs HN.out hm _ (HX.out.below HB1.out (Nat.le_refl _))).mono ?_
  rintro e w2 ⟨rfl, hb2⟩
  have HB2 := Lib.hid (Below.then HB1.out hb2)
  have HR2 := Lib.hid (And.intro (below_row' hb2 HR1.out.1) (below_row' hb2 HR1.out.2))
  clear hb2 HR1 HB1 k10
  have k20 : w2.cell? ⟨w.heap.size + 1, 0, none⟩ = some (.slice A n c) := row_cell HR2.out.2 0
  have k21 : w2.cell? ⟨w.heap.size + 1, 1, none⟩ = some (.slice A1 n1 c1) := row_cell HR2.out.2 1
  cases hfw : fewM xs
  case false =>
    clear hfw
    go_wp2_with fail
    go_ret
    exact ⟨rfl, HB2.out⟩
  case true =>
  have HF := Lib.hid (fewM_of hfw)
  clear hfw
  have hm60 : n ≤ 60 := by have := HF.out.2; rw [HN.out] at this; exact this
  by_cases h100 : 100 < n1
  · have h100' : (100 : Int) < (n1 : Int) := by omega
    clear h100
    go_wp2_with fail
    go_ret
    exact ⟨rfl, HB2.out⟩
  have h100' : ¬ (100 : Int) < (n1 : Int) := by omega
  by_cases h60 : 60 < n2
  · have h60' : (60 : Int) < (n2 : Int) := by omega
    clear h60 h100
    go_wp2_with fail
    go_ret
    exact ⟨rfl, HB2.out⟩
  have h60' : ¬ (60 : Int) < (n2 : Int) := by omega
  have hn1' : n1 ≤ 100 := by omega
  have hn2' : n2 ≤ 60 := by omega
  clear h60 h100
  generalize hHe : (#[.slice A n c, .slice A1 n1 c1] : Array Value) = H at *
  have HHe := Lib.hid hHe
  clear hHe
  have HI2 : Hid (OnI w p H n w2 A c xs) := Lib.hid ⟨HX.out.below HB2.out (Nat.le_refl _), HN.out, HZ.out, fun m hm => by obtain ⟨x, hx, rfl⟩ := List.mem_map.1 hm; exact HF.out.1 x hx, HB2.out, HR2.out.1, HR2.out.2⟩
  clear HR2 HB2 HF
  go_upto_region 7 with fail
  clear k20 k21
  go_loopw [7, 47] (fun l i wr => ∃ (j : Nat) (A' : Option Addr) (c' : Nat) (ys : List (Mot × MotA)), i = .int .i64 j ∧ l = .slice A' n c' ∧ j ≤ n2 ∧ Hid (OnI w p H n wr A' c' ys)) (fun _ i _ => n2 - (intOf i).toNat)
  case atStart => exact ⟨0, A, c, xs, rfl, rfl, by omega, HI2⟩
  case round =>
    obtain ⟨j, A', c', ys, rfl, rfl, hj, hI⟩ := hrel
    clear HI2
    by_cases hlt : j < n2
    · obtain ⟨b, off, rfl, hbb, hcell⟩ := HV.out (by rw [HN2.out]; omega)
      obtain ⟨v, hx⟩ : ∃ v, vs[j]? = some v := ⟨_, List.getElem?_eq_getElem (by rw [HN2.out]; exact hlt)⟩
      have hr := range_below (hcell j _ hx) hI.out.bel hbb
      have hi : (Try.prog.info? 97).map (·.size) = some (wayC v).toList.length := by rw [way_info]; rfl
      have HOv := Lib.hid (HVs.out v (List.mem_of_getElem? hx))
      have z1 : (0 : Int) ≤ (j : Int) := by omega
      have z2 : (j : Int) < (n2 : Int) := by omega
      have hz := wayC_one v
      clear hcell hx
      go_upto_region 9 with (refine wpList_load_mid rfl 97 _ (by rfl) b (off + j * 5) (by rfl) (wayC v).toList _ hr way_under rfl hi ?_)
      refine of_world (fun W => Below wr.heap.size wr W ∧ row W wr.heap.size = some (wayC v)) ⟨(by (repeat (first | exact Below.refl _ _ | assumption | (refine Below.allocT ?_ _) | refine Below.drew ?_ | refine below_drewN ?_ _ | (refine Below.then ?_ (by assumption)) | (refine Below.setRow ?_ ?_ _; rotate_left; (focus (first | exact Nat.lt_succ_self _ | ((repeat rw [World.size_alloc]); omega) | (simp; done) | (simp; omega) | omega))) | (refine Below.setCell ?_ ?_ _; rotate_left; (focus (first | exact Nat.lt_succ_self _ | ((repeat rw [World.size_alloc]); omega) | (simp; done) | (simp; omega) | omega))) | (refine Below.then' ?_ (by assumption) ?_; rotate_left; (focus (first | exact Nat.lt_succ_self _ | ((repeat rw [World.size_alloc]); omega) | (simp; done) | (simp; omega) | omega))) | fail)); (first | done | fail)), by first | exact row_at _ _ _ _ rfl | (rw [row_setRow_if, if_pos rfl, row_at _ _ _ _ rfl]; rfl)⟩ ?_
      rintro w8 ⟨hb8, r8⟩
      have HI8 := Lib.hid (And.intro (hI.out.stay hb8) r8)
      clear hr hi hb8 r8 hz
      generalize wr.heap.size = g9 at *
      clear hI
      have HPl := Lib.hid (fun W (h : OnI w p H n W A' c' ys) => plainML_any A' n c' ys h.len (by omega) W h.ml)
      go_wp2_with fail
      refine (HPl.out _ HI8.out.1).mono ?_
      rintro e w9 ⟨A10, c10, rfl, hM10, hb9⟩
      have HI9 := Lib.hid (And.intro (HI8.out.1.stay hb9) (below_row' hb9 HI8.out.2))
      have HM10 := Lib.hid hM10
      have k90 : w9.cell? ⟨g9, 0, none⟩ = some (.int .i64 v.i) := row_cell HI9.out.2 0
      have k91 : w9.cell? ⟨g9, 1, none⟩ = some (.int .i64 v.member) := row_cell HI9.out.2 1
      have k93 : w9.cell? ⟨g9, 3, none⟩ = some (.bool v.yes) := row_cell HI9.out.2 3
      have HVt := Lib.hid (mvote_any A' n c' ys v.i v.member v.yes HI9.out.1.len HI9.out.1.nil (by omega) HOv.out.member w9 HI9.out.1.ml HI9.out.1.lens)
      have HTw := Lib.hid (fun b => voteL_twice (L := ys.map (·.1)) (i := v.i) (mem := v.member) (yes := v.yes) (yes2 := b))
      have HLn := Lib.hid (voteL_len (L := ys.map (·.1)) (i := v.i) (mem := v.member) (yes := v.yes))
      have HFw := Lib.hid (voteL_few50 (i := v.i) (mem := v.member) (yes := v.yes) HI9.out.1.few)
      generalize voteL (ys.map (·.1)) v.i v.member v.yes = VE at *
      obtain ⟨VL, E⟩ := VE
      clear hM10 hb9 HI8
      go_wp2_with fail
      refine (HVt.out).mono ?_
      rintro e w10 ⟨A11, n11, c11, ys2, rfl, hn11, hM11, hL11, h011, hb10⟩
      have HI10 := Lib.hid (And.intro (HI9.out.1.stay hb10) (below_row' hb10 HI9.out.2))
      have HM10' := Lib.hid (HM10.out.stay hb10)
      have HR11 := Lib.hid (And.intro hn11 (And.intro hM11 (And.intro hL11 h011)))
      clear hn11 hM11 hL11 h011 hb10 k90 k91 k93 HI9 HM10 HVt
      go_wp2_with fail
      refine (HPl.out _ HI10.out.1).mono ?_
      rintro e w12 ⟨A12, c12, rfl, hM12, hb12⟩
      have HS12 := Lib.hid (sameList_any A12 A10 n c12 c10 ys ys HI10.out.1.len rfl (by omega) w12 hM12 (HM10'.out.stay hb12))
      have H12 := Lib.hid hb12
      clear hM12 hb12 HM10'
      go_wp2_with fail
      refine (HS12.out).mono ?_
      rintro e w13 ⟨rfl, hb13⟩
      have H1013 := Lib.hid (Below.then H12.out hb13)
      have HI13 := Lib.hid (And.intro (HI10.out.1.stay H1013.out) (below_row' H1013.out HI10.out.2))
      clear hb13 H12 HS12 HI10
      by_cases hE : E = 0
      case neg =>
        have e1 : (E != 0) = true := bne_iff_ne.2 hE
        have HNx := Lib.hid HI13.out.1
        clear hE HTw HLn HFw HR11
        go_wp2_with fail
        exact ⟨⟨j + 1, A', c', ys, by go_num, rfl, by omega, HNx⟩, by simp [intOf]; omega⟩
      case pos =>
      subst hE
      have HI14 : Hid (OnI w p H n w13 A11 c11 ys2 ∧ row w13 g9 = some (wayC v) ∧ n11 = n) := Lib.hid (by
        obtain ⟨q1, q2, q3, q4⟩ := HR11.out
        have hl : ys2.length = n := by
          have h1 := congrArg List.length q3
          rw [List.length_map] at h1
          have h2 := HLn.out rfl
          rw [List.length_map, HI13.out.1.len] at h2
          exact h1.trans h2
        exact ⟨⟨q2.stay H1013.out, hl, q4, by rw [q3]; exact HFw.out rfl, HI13.out.1.bel, HI13.out.1.rp, HI13.out.1.rh⟩, HI13.out.2, by rw [← q1]; exact hl⟩)
      have hn11 := HI14.out.2.2
      subst hn11
      have HTw2 : Hid (∀ b, (voteL (ys2.map (·.1)) v.i v.member b).2 = 231) := Lib.hid fun b => by rw [HR11.out.2.2.1]; exact HTw.out b rfl
      clear HR11 HTw HLn HFw HI13 H1013
      go_upto_region 15 with fail
      refine of_world (fun W => OnI w p H n11 W A11 c11 ys2 ∧ row W g9 = some (wayC v) ∧ row W w13.heap.size = some #[.bool true, .bool false]) ⟨HI14.out.1.stay (by (repeat (first | exact Below.refl _ _ | assumption | (refine Below.allocT ?_ _) | refine Below.drew ?_ | refine below_drewN ?_ _ | (refine Below.then ?_ (by assumption)) | (refine Below.setRow ?_ ?_ _; rotate_left; (focus (first | exact Nat.lt_succ_self _ | ((repeat rw [World.size_alloc]); omega) | (simp; done) | (simp; omega) | omega))) | (refine Below.setCell ?_ ?_ _; rotate_left; (focus (first | exact Nat.lt_succ_self _ | ((repeat rw [World.size_alloc]); omega) | (simp; done) | (simp; omega) | omega))) | (refine Below.then' ?_ (by assumption) ?_; rotate_left; (focus (first | exact Nat.lt_succ_self _ | ((repeat rw [World.size_alloc]); omega) | (simp; done) | (simp; omega) | omega))) | fail)); (first | done | fail)), below_row' (show Below w13.heap.size w13 _ from (by (repeat (first | exact Below.refl _ _ | assumption | (refine Below.allocT ?_ _) | refine Below.drew ?_ | refine below_drewN ?_ _ | (refine Below.then ?_ (by assumption)) | (refine Below.setRow ?_ ?_ _; rotate_left; (focus (first | exact Nat.lt_succ_self _ | ((repeat rw [World.size_alloc]); omega) | (simp; done) | (simp; omega) | omega))) | (refine Below.setCell ?_ ?_ _; rotate_left; (focus (first | exact Nat.lt_succ_self _ | ((repeat rw [World.size_alloc]); omega) | (simp; done) | (simp; omega) | omega))) | (refine Below.then' ?_ (by assumption) ?_; rotate_left; (focus (first | exact Nat.lt_succ_self _ | ((repeat rw [World.size_alloc]); omega) | (simp; done) | (simp; omega) | omega))) | fail)); (first | done | fail))) HI14.out.2.1, row_at _ _ _ _ rfl⟩ ?_
      intro w14 hW14
      have HW14 := Lib.hid hW14
      clear hW14 HI14
      generalize w13.heap.size = gB at *
      go_loopw [73] (fun i wr => ∃ k : Nat, i = .int .i64 k ∧ k ≤ 2 ∧ Hid (OnI w p H n11 wr A11 c11 ys2 ∧ row wr g9 = some (wayC v) ∧ row wr gB = some #[.bool true, .bool false])) (fun i _ => 2 - (intOf i).toNat)
      case atStart => exact ⟨0, rfl, by omega, HW14⟩
      case round =>
        obtain ⟨k, rfl, hk, hK⟩ := hrel
        clear HW14
        by_cases hk2 : k < 2
        · obtain ⟨bk, hbk⟩ : ∃ bk : Bool, wr.cell? ⟨gB, k, none⟩ = some (.bool bk) := by
            have h := row_cell hK.out.2.2 k
            match k, hk2 with
            | 0, _ => exact ⟨true, h⟩
            | 1, _ => exact ⟨false, h⟩
          have y1 : (0 : Int) ≤ (k : Int) := by omega
          have y2 : (k : Int) < 2 := by omega
          have m0 : wr.cell? ⟨g9, 0, none⟩ = some (.int .i64 v.i) := row_cell hK.out.2.1 0
          have m1 : wr.cell? ⟨g9, 1, none⟩ = some (.int .i64 v.member) := row_cell hK.out.2.1 1
          have HV2 := Lib.hid (mvote_any A11 n11 c11 ys2 v.i v.member bk hK.out.1.len hK.out.1.nil (by omega) HOv.out.member wr hK.out.1.ml hK.out.1.lens)
          have hE2 := HTw2.out bk
          generalize voteL (ys2.map (·.1)) v.i v.member bk = VE2 at *
          obtain ⟨VL2, E2⟩ := VE2
          have hE2 : E2 = 231 := hE2
          subst hE2
          go_wp2_with fail
          refine (HV2.out).mono ?_
          rintro e w16 ⟨A16, n16, c16, zs2, rfl, _, _, _, _, hb16⟩
          have HNx := Lib.hid (And.intro (hK.out.1.stay hb16) (And.intro (below_row' hb16 hK.out.2.1) (below_row' hb16 hK.out.2.2)))
          clear hb16 hbk m0 m1 HV2 hK
          go_wp2_with fail
          exact ⟨⟨k + 1, by go_num, by omega, HNx⟩, by simp [intOf]; omega⟩
        · obtain rfl : k = 2 := by omega
          have HNx := Lib.hid hK.out.1
          clear hK HTw2
          go_wp2_with fail
          exact ⟨⟨j + 1, A11, c11, ys2, by go_num, rfl, by omega, HNx⟩, by simp [intOf]; omega⟩
    · obtain rfl : j = n2 := by omega
      have k1 : wr.cell? ⟨w.heap.size + 1, 1, none⟩ = some (.slice A1 n1 c1) := by
        have h := row_cell hI.out.rh 1
        rw [← HHe.out] at h; exact h
      have r1 := hI.out.rp
      have HCl := Lib.hid (mclose_any p A' n c' ys A1 n1 c1 ms 1073741824 HP.out (by unfold i64ok; omega) hI.out.len hI.out.nil (by omega) HN1.out (by omega) HOk.out wr hI.out.ml (HU.out.below hI.out.bel (Nat.le_refl _)) hI.out.lens)
      have HCf := Lib.hid (closeL_few50 (q := p.quorum) (en := p.enact) (ms := ms) (ep := 1073741824) hI.out.few)
      have HCs := Lib.hid (fun k (m : Mot) (h : (ys.map (·.1))[k]? = some m) => show (closeL p.quorum p.enact ms 1073741824 (ys.map (·.1)))[k]? = some (closeM p.quorum p.enact ms 1073741824 m) by unfold closeL; rw [List.getElem?_map, h]; rfl)
      have hCl : (closeL p.quorum p.enact ms 1073741824 (ys.map (·.1))).length = n := by unfold closeL; rw [List.length_map, List.length_map]; exact hI.out.len
      generalize closeL p.quorum p.enact ms 1073741824 (ys.map (·.1)) = CL at *
      go_upto_region 23 with fail
      go_wp2_with fail
      refine (HCl.out).mono ?_
      rintro e w17 ⟨A17, n17, c17, zs, rfl, hn17, hM17, hL17, h017, hb17⟩
      have hnn : n17 = n := by rw [← hn17, ← hCl, ← hL17, List.length_map]
      subst hnn
      have HI17 := Lib.hid (And.intro (hI.out.stay hb17) (OnI.mk (w := w) (p := p) (H := H) hM17 hn17 h017 (by rw [hL17]; exact HCf.out) (Below.then hI.out.bel hb17) (below_row' hb17 hI.out.rp) (below_row' hb17 hI.out.rh)))
      have HL17 := Lib.hid hL17
      clear hI hb17 hM17 hn17 hL17 h017 k1 r1 HCl HCf hCl
      go_wp2_with fail
      go_loopw [104] (fun i wr => ∃ k : Nat, i = .int .i64 k ∧ k ≤ n17 ∧ Hid (OnI w p H n17 wr A' c' ys ∧ OnI w p H n17 wr A17 c17 zs)) (fun i _ => n17 - (intOf i).toNat)
      case atStart => exact ⟨0, rfl, by omega, HI17⟩
      case round =>
        obtain ⟨k, rfl, hk, hK⟩ := hrel
        clear HI17
        by_cases hkl : k < n17
        · obtain ⟨⟨m, a⟩, hy⟩ : ∃ x, ys[k]? = some x := ⟨_, List.getElem?_eq_getElem (by rw [hK.out.1.len]; exact hkl)⟩
          obtain ⟨⟨mz, az⟩, hz'⟩ : ∃ x, zs[k]? = some x := ⟨_, List.getElem?_eq_getElem (by rw [hK.out.2.len]; exact hkl)⟩
          have hmz : mz = closeM p.quorum p.enact ms 1073741824 m := by
            have h1 := HCs.out k m (by rw [List.getElem?_map, hy]; rfl)
            rw [← HL17.out, List.getElem?_map, hz'] at h1
            exact Option.some.inj h1
          have hst := closeM_state p.quorum p.enact ms 1073741824 m
          rw [← hmz] at hst
          obtain ⟨b, off, hAe, hbb, hcell⟩ := hK.out.1.ml.sl (by rw [hK.out.1.len]; omega)
          obtain ⟨b2, off2, hAe2, hbb2, hcell2⟩ := hK.out.2.ml.sl (by rw [hK.out.2.len]; omega)
          subst hAe hAe2
          have hr2 := hcell2 k _ hz'
          have hr1 := hcell k _ hy
          have hi : (Try.prog.info? 103).map (·.size) = some (motC (mz, az)).toList.length := by rw [mot_info]; rfl
          have z1 : (0 : Int) ≤ (k : Int) := by omega
          have z2 : (k : Int) < (n17 : Int) := by omega
          have hz := motC_one (mz, az)
          have HR1 := Lib.hid (And.intro hr1 hbb)
          clear hcell hcell2 hy hz' hmz hr1 hbb
          go_upto_region 29 with (refine wpList_load_mid rfl 103 _ (by rfl) b2 (off2 + k * 33) (by rfl) (motC (mz, az)).toList _ hr2 mot_under rfl hi ?_)
          refine of_world (fun W => Below wr.heap.size wr W ∧ row W wr.heap.size = some (motC (mz, az))) ⟨(by (repeat (first | exact Below.refl _ _ | assumption | (refine Below.allocT ?_ _) | refine Below.drew ?_ | refine below_drewN ?_ _ | (refine Below.then ?_ (by assumption)) | (refine Below.setRow ?_ ?_ _; rotate_left; (focus (first | exact Nat.lt_succ_self _ | ((repeat rw [World.size_alloc]); omega) | (simp; done) | (simp; omega) | omega))) | (refine Below.setCell ?_ ?_ _; rotate_left; (focus (first | exact Nat.lt_succ_self _ | ((repeat rw [World.size_alloc]); omega) | (simp; done) | (simp; omega) | omega))) | (refine Below.then' ?_ (by assumption) ?_; rotate_left; (focus (first | exact Nat.lt_succ_self _ | ((repeat rw [World.size_alloc]); omega) | (simp; done) | (simp; omega) | omega))) | fail)); (first | done | fail)), by first | exact row_at _ _ _ _ rfl | (rw [row_setRow_if, if_pos rfl, row_at _ _ _ _ rfl]; rfl)⟩ ?_
          rintro w19 ⟨hb19, r19⟩
          have H19 := Lib.hid (And.intro (hK.out.1.stay hb19) (hK.out.2.stay hb19))
          have HM : Hid (∀ W, Below w19.heap.size w19 W → W.cell? ⟨wr.heap.size, 30, none⟩ = some (.int .i64 mz.state) ∧ W.cell? ⟨wr.heap.size, 28, none⟩ = some (.int .i64 mz.ends) ∧ W.cell? ⟨b, off + k * 33 + 30, none⟩ = some (.int .i64 m.state)) := Lib.hid fun W h =>
            ⟨row_cell (below_row' h r19) 30, row_cell (below_row' h r19) 28, (range_below HR1.out.1 (Below.then hb19 h) HR1.out.2) 30 _ (by rw [Array.getElem?_toList]; exact motC_at30 _)⟩
          clear hr2 hi hb19 hz r19 HR1 hK hbb2
          generalize wr.heap.size = g19 at *
          rcases hst with ⟨q1, q2, q3⟩ | ⟨q1, q2, q3⟩ | ⟨q1, q3⟩
          · have e1 : (mz.state == 1) = false := beq_eq_false_iff_ne.2 (by omega)
            have e2 : (m.state != 1) = false := bne_eq_false_iff_eq.2 q1
            clear q1 q2 q3
            (refine wp_region_calm (by kernel_rfl) (by kernel_rfl) ?_; (repeat (first | go_big_quiet_skip | (go_big_quiet_want; apply calm_val; (focus (intro w' hb'; obtain ⟨f1, f2, f3⟩ := HM.out w' hb'; first | (unfold Oper.quietAt; go_simp; first | rfl))); (try simp only [Act.put, List.setIfInBounds_toArray, List.set_cons_zero, List.set_cons_succ]); go_big_quiet_on))); refine wpQuiet_nil ?_; intro w' hb')
            have HNx := Lib.hid (And.intro (H19.out.1.stay hb') (H19.out.2.stay hb'))
            go_wp2_with fail
            exact ⟨⟨k + 1, by go_num, by omega, HNx⟩, by simp [intOf]; omega⟩
          · subst q3
            have e1 : (mz.state == 1) = true := beq_iff_eq.2 q1
            have e2 : (mz.state != 1) = false := bne_eq_false_iff_eq.2 q1
            have e3 : ¬ mz.ends ≤ 1073741824 := by omega
            clear q1 q2
            (refine wp_region_calm (by kernel_rfl) (by kernel_rfl) ?_; (repeat (first | go_big_quiet_skip | (go_big_quiet_want; apply calm_val; (focus (intro w' hb'; obtain ⟨f1, f2, f3⟩ := HM.out w' hb'; first | (unfold Oper.quietAt; go_simp; first | rfl))); (try simp only [Act.put, List.setIfInBounds_toArray, List.set_cons_zero, List.set_cons_succ]); go_big_quiet_on))); refine wpQuiet_nil ?_; intro w' hb')
            have HNx := Lib.hid (And.intro (H19.out.1.stay hb') (H19.out.2.stay hb'))
            go_wp2_with fail
            exact ⟨⟨k + 1, by go_num, by omega, HNx⟩, by simp [intOf]; omega⟩
          · subst q3
            have e1 : (mz.state == 1) = false := beq_eq_false_iff_ne.2 q1
            have e2 : (mz.state != 1) = true := bne_iff_ne.2 q1
            clear q1
            (refine wp_region_calm (by kernel_rfl) (by kernel_rfl) ?_; (repeat (first | go_big_quiet_skip | (go_big_quiet_want; apply calm_val; (focus (intro w' hb'; obtain ⟨f1, f2, f3⟩ := HM.out w' hb'; first | (unfold Oper.quietAt; go_simp; first | rfl))); (try simp only [Act.put, List.setIfInBounds_toArray, List.set_cons_zero, List.set_cons_succ]); go_big_quiet_on))); refine wpQuiet_nil ?_; intro w' hb')
            have HNx := Lib.hid (And.intro (H19.out.1.stay hb') (H19.out.2.stay hb'))
            go_wp2_with fail
            exact ⟨⟨k + 1, by go_num, by omega, HNx⟩, by simp [intOf]; omega⟩
        · obtain rfl : k = n17 := by omega
          have HI20 := Lib.hid hK.out.2
          have HRp := Lib.hid (mripe_any A17 k c17 zs 2147483648 true hK.out.2.len (by omega) wr hK.out.2.ml.sl)
          have HRF := Lib.hid (fun z (h : z ∈ ripeL 2147483648 true CL) => ripe_finish h)
          have HRl : Hid ((ripeL 2147483648 true CL).length ≤ 60) := Lib.hid (by
            have h := ripeK_few 2147483648 true CL CL.length
            have h2 : CL.length = k := by rw [← HL17.out, List.length_map]; exact hK.out.2.len
            unfold ripeL; omega)
          rw [HL17.out] at HRp
          generalize ripeL 2147483648 true CL = RL at *
          clear hK HCs
          go_upto_region 32 with fail
          go_wp2_with fail
          refine (HRp.out).mono ?_
          rintro e w21 ⟨A21, c21, rfl, hS21, h021, hb21⟩
          have H21 := Lib.hid (And.intro (HI20.out.stay hb21) hS21)
          have hRl := HRl.out
          obtain ⟨R, hR⟩ : ∃ R, RL.length = R := ⟨_, rfl⟩
          rw [hR] at hRl ⊢
          have HR := Lib.hid hR
          clear hS21 h021 hb21 HI20 HRp hR
          go_wp2_with fail
          go_loopw [139] (fun i wr => ∃ q : Nat, i = .int .i64 q ∧ q ≤ R ∧ Hid (OnI w p H k wr A17 c17 zs ∧ SliceOf 1 intJ wr A21 RL)) (fun i _ => R - (intOf i).toNat)
          case atStart => exact ⟨0, rfl, by omega, H21⟩
          case round =>
            obtain ⟨q, rfl, hq, hQ⟩ := hrel
            clear H21
            by_cases hql : q < R
            · obtain ⟨z, hz⟩ : ∃ z, RL[q]? = some z := ⟨_, List.getElem?_eq_getElem (by rw [HR.out]; exact hql)⟩
              obtain ⟨bz, oz, hAz, _, cz⟩ := intJ_at hQ.out.2 hz
              subst hAz
              obtain ⟨g1, g2, g3⟩ := HRF.out z (List.mem_of_getElem? hz)
              have HG3 := Lib.hid g3
              have HFi := Lib.hid (mfinish_any A17 k c17 zs z true hQ.out.1.len hQ.out.1.nil (by omega) wr hQ.out.1.ml hQ.out.1.lens)
              rw [HL17.out] at HFi
              have hCLl : CL.length = k := by rw [← HL17.out, List.length_map]; exact hQ.out.1.len
              rw [hCLl] at g2
              generalize finL CL z true = FF at *
              obtain ⟨FL, FE⟩ := FF
              have g1 : FE = 0 := g1
              have g2 : FL.length = k := g2
              subst g1
              have z1 : (0 : Int) ≤ (q : Int) := by omega
              have z2 : (q : Int) < (R : Int) := by omega
              clear g3 hz hCLl
              go_upto_region 35 with fail
              go_wp2_with fail
              refine (HFi.out).mono ?_
              rintro e w22 ⟨A22, n22, c22, fs, rfl, hn22, hM22, hL22, h022, hb22⟩
              have hnf : n22 = k := by rw [← hn22, ← g2, ← hL22, List.length_map]
              subst hnf
              have H22 := Lib.hid (And.intro (hQ.out.1.stay hb22) (SliceOf.below hQ.out.2 hb22 (Nat.le_refl _)))
              have HRp2 := Lib.hid (mripe_any A22 n22 c22 fs 2147483648 true hn22 (by omega) w22 hM22.sl)
              rw [hL22] at HRp2
              have HRl2 : Hid ((ripeL 2147483648 true FL).length ≤ 60) := Lib.hid (by
                have h := ripeK_few 2147483648 true FL FL.length
                unfold ripeL; omega)
              generalize ripeL 2147483648 true FL = RL2 at *
              clear hQ hb22 hM22 hL22 h022 cz HFi g2 hn22
              go_wp2_with fail
              refine (HRp2.out).mono ?_
              rintro e w24 ⟨A24, c24, rfl, hS24, h024, hb24⟩
              have hRl2 := HRl2.out
              obtain ⟨R2, hR2⟩ : ∃ R2, RL2.length = R2 := ⟨_, rfl⟩
              rw [hR2] at hRl2 ⊢
              have HR2 := Lib.hid hR2
              have H24 := Lib.hid (And.intro (H22.out.1.stay hb24) (And.intro (SliceOf.below H22.out.2 hb24 (Nat.le_refl _)) hS24))
              clear hS24 h024 hb24 H22 HRp2 hR2
              go_wp2_with fail
              go_loopw [161] (fun i wr => ∃ r : Nat, i = .int .i64 r ∧ r ≤ R2 ∧ Hid (OnI w p H n22 wr A17 c17 zs ∧ SliceOf 1 intJ wr (some ⟨bz, oz, none⟩) RL ∧ SliceOf 1 intJ wr A24 RL2)) (fun i _ => R2 - (intOf i).toNat)
              case atStart => exact ⟨0, rfl, by omega, H24⟩
              case round =>
                obtain ⟨r, rfl, hr, hS⟩ := hrel
                clear H24
                by_cases hrl : r < R2
                · obtain ⟨y, hy⟩ : ∃ y, RL2[r]? = some y := ⟨_, List.getElem?_eq_getElem (by rw [HR2.out]; exact hrl)⟩
                  obtain ⟨by', oy, hAy, _, cy⟩ := intJ_at hS.out.2.2 hy
                  subst hAy
                  have hne := HG3.out y (List.mem_of_getElem? hy)
                  have e1 : (y == z) = false := beq_eq_false_iff_ne.2 hne
                  have y1 : (0 : Int) ≤ (r : Int) := by omega
                  have y2 : (r : Int) < (R2 : Int) := by omega
                  clear hy hne
                  go_wp2_with fail
                  exact ⟨⟨r + 1, by go_num, by omega, hS⟩, by simp [intOf]; omega⟩
                · obtain rfl : r = R2 := by omega
                  have HNx := Lib.hid (And.intro hS.out.1 hS.out.2.1)
                  clear hS
                  go_wp2_with fail
                  exact ⟨⟨q + 1, by go_num, by omega, HNx⟩, by simp [intOf]; omega⟩
            · obtain rfl : q = R := by omega
              have HB := Lib.hid hQ.out.1.bel
              clear hQ
              go_wp2_with fail
              go_ret
              exact ⟨rfl, HB.out⟩
end Go.Proofs.Ytnakkjgnjffkpaa
