/-
  Annals: Add.
-/
import Derived.Test.YtnakkjgnjffkpaaAnn4
import Derived.Deep.RegionLaw
namespace Go.Proofs.Ytnakkjgnjffkpaa
open Go.RowKit
set_option linter.unusedVariables false
set_option linter.unusedSimpArgs false

theorem AnAt.self {w W : World} {E : Nat → Prop} {g most : Nat} {s : Sm} {v : Value} {l : List (Rep × RepA)} (h : AnAt w E g most s v l) (hb : Below w.heap.size w W) : AnTo w (AnF g v) E g most s (l.map (·.1)) W := ⟨v, l, h.stay hb, rfl, fun k hk => .inl (.inr hk), Chg.of_below hb (Nat.le_refl _)⟩
def addS' (e : Int) (s : Sm) (r : Rep) : Sm := if e = 0 then addS s (smOf r) else s
def addL (e : Int) (most : Nat) (L : List Rep) (r : Rep) : List Rep := if e = 0 then keepK most (L ++ [r]) else L
def AddPost (w : World) (E : Nat → Prop) (g most : Nat) (s : Sm) (v : Value) (L : List Rep) (r : Rep) (e : Ending) (w' : World) : Prop := e = .returned (.int .i64 (addE s L r)) ∧ AnTo w (AnF g v) E g most (addS' (addE s L r) s r) (addL (addE s L r) most L r) w'
theorem addS_zero (s : Sm) : addS Sm.zero s = s := by
  obtain ⟨a, b, c, d, e, f, g, h, i, j, k, l⟩ := s
  simp [addS, Sm.zero]
theorem tot_two (s t : Sm) : totS [s, t] = addS s t := by
  show addS (addS Sm.zero s) t = _
  rw [addS_zero]
theorem right_small {r : Rep} (h : rightA r = true) : r.out.length ≤ 1000000 ∧ r.left.length ≤ 1000000 ∧ r.started.length ≤ 1000000 ∧ r.done.length ≤ 1000000 := by
  unfold rightA at h
  simp only [Bool.and_eq_true] at h
  have h1 := (of_decide_eq_true h.2.2.2.2.1).2
  have h2 := (of_decide_eq_true h.2.2.2.2.2.1).2
  have h3 := (of_decide_eq_true h.2.2.2.2.2.2.1).2
  have h4 := (of_decide_eq_true h.2.2.2.2.2.2.2).2
  omega
theorem right_small' {r : Rep} (h : rightA r = true) : r.out.length ≤ 128 ∧ r.left.length ≤ 128 ∧ r.started.length ≤ 128 ∧ r.done.length ≤ 32 := by
  unfold rightA at h
  simp only [Bool.and_eq_true] at h
  have h1 := (of_decide_eq_true h.2.2.2.2.1).2
  have h2 := (of_decide_eq_true h.2.2.2.2.2.1).2
  have h3 := (of_decide_eq_true h.2.2.2.2.2.2.1).2
  have h4 := (of_decide_eq_true h.2.2.2.2.2.2.2).2
  omega
theorem sumsZ_cells : (Value.agg (smC Sm.zero)).cells.size = 12 := rfl
set_option maxRecDepth 100000 in
set_option maxHeartbeats 8000000 in
theorem add38_any (E : Nat → Prop) (g most : Nat) (s : Sm) (v : Value) (l : List (Rep × RepA)) (r : Rep) (a : RepA) (w : World) (hA : AnAt w E g most s v l) (hE : ∀ k, E k → k < w.heap.size)
    (hr : r.Ok) (hR : RepAt w (r, a)) (hap : ∀ k, RepB (r, a) k → ¬ AnF g v k) (hs : s.Few 1000000000000) (hmon : ∀ k, s.mon k < 18446744073709551616) (hl : l.length < 999) :
    Calls Try.prog 15 #[.pointer (some ⟨g, 0, none⟩), .agg (repC (r, a))] w (AddPost w E g most s v (l.map (·.1)) r) := by
  have r0 : row (w.alloc (.cells (repC (r, a)) 36)) w.heap.size = some (repC (r, a)) := row_at _ _ _ _ rfl
  have hB0 : Below w.heap.size w (w.alloc (.cells (repC (r, a)) 36)) := (by (repeat (first | exact Below.refl _ _ | assumption | (refine Below.allocT ?_ _) | refine Below.drew ?_ | refine below_drewN ?_ _ | (refine Below.then ?_ (by assumption)) | (refine Below.setRow ?_ ?_ _; rotate_left; (focus (first | exact Nat.lt_succ_self _ | ((repeat rw [World.size_alloc]); omega) | (simp; done) | (simp; omega) | omega))) | (refine Below.setCell ?_ ?_ _; rotate_left; (focus (first | exact Nat.lt_succ_self _ | ((repeat rw [World.size_alloc]); omega) | (simp; done) | (simp; omega) | omega))) | (refine Below.then' ?_ (by assumption) ?_; rotate_left; (focus (first | exact Nat.lt_succ_self _ | ((repeat rw [World.size_alloc]); omega) | (simp; done) | (simp; omega) | omega))) | fail)); (first | done | fail))
  have A0 := hA.stay hB0
  have HP : Hid (∀ e w', AddPost w E g most s v (l.map (·.1)) r e w' ↔ (e = .returned (.int .i64 (addE s (l.map (·.1)) r)) ∧ AnTo w (AnF g v) E g most (addS' (addE s (l.map (·.1)) r) s r) (addL (addE s (l.map (·.1)) r) most (l.map (·.1)) r) w')) := Lib.hid fun e w' => Iff.rfl
  have HSelf : Hid (∀ W, Below w.heap.size w W → AnTo w (AnF g v) E g most s (l.map (·.1)) W) := Lib.hid fun W h => hA.self h
  have HRt := Lib.hid (right38_any r a hr (w.alloc (.cells (repC (r, a)) 36)) (hR.stay hB0))
  have HI := Lib.hid (is38_any g s most v _ A0.row)
  rw [decide_eq_true A0.pos] at HI
  have hEp : i64ok r.epoch := hr.epoch
  have HR := Lib.hid hR
  have HA := Lib.hid hA
  have HOk := Lib.hid hr
  have HE := Lib.hid hE
  have HAp := Lib.hid hap
  clear hR hA hr hE hap
  generalize hpp : AddPost w E g most s v (l.map (·.1)) r = PP at *
  clear hpp
  cases hrt : rightA r with
  | false =>
    have he : addE s (l.map (·.1)) r = 2 := by unfold addE; rw [hrt]; rfl
    rw [he] at HP
    rw [hrt] at HRt
    clear he hrt A0
    go_enter Try.func15, Try.ntmps15
    go_upto_region 1 with fail
    change Code.wp _ _ _ _ (w.alloc (.cells (repC (r, a)) 36))
    generalize w.alloc (.cells (repC (r, a)) 36) = w0 at *
    have hz6 := repC_one (r, a)
    go_wp2_with (first | (go_at_call 53; refine HI.out.mono ?_; rintro e w1 ⟨rfl, rfl⟩) | (go_at_call 54; refine HRt.out.mono ?_; rintro e w2 ⟨rfl, hb2⟩))
    exact (HP.out _ _).2 ⟨rfl, HSelf.out _ (Below.then hB0 hb2)⟩
  | true =>
    have hsm := right_small hrt
    have HSmall := Lib.hid hsm
    have he : addE s (l.map (·.1)) r = if seqB (l.map (·.1)) r = true then togE [s, smOf r] else 200 := by unfold addE; rw [hrt]; rfl
    rw [hrt] at HRt
    obtain ⟨A, c, hv, hS, _⟩ := A0.form
    have hep1 : IntKind.i64.wrap (r.epoch - 1) = r.epoch - 1 := by
      have : betB r.epoch 0 1073741824 = true := by
        unfold rightA at hrt
        simp only [Bool.and_eq_true] at hrt
        exact hrt.2.1
      have := of_decide_eq_true this
      rw [IntKind.wrap_i64]; omega
    have z1 : IntKind.i64.wrap ((l.length : Int) - 1) = (l.length : Int) - 1 := by rw [IntKind.wrap_i64]; omega
    -- the place of the last one
    have HL : Hid (0 < l.length → ∃ y b off, l[l.length - 1]? = some y ∧ (l.map (·.1)).getLast? = some y.1 ∧ A = some ⟨b, off, none⟩ ∧ b < (w.alloc (.cells (repC (r, a)) 36)).heap.size ∧ (w.alloc (.cells (repC (r, a)) 36)).cell? ⟨b, off + (l.length - 1) * 14, none⟩ = some (.int .i64 y.1.epoch)) := Lib.hid fun hp => by
      obtain ⟨y, hy⟩ : ∃ y, l[l.length - 1]? = some y := ⟨_, List.getElem?_eq_getElem (by omega)⟩
      obtain ⟨b, off, hAa, hbb, hcell⟩ := hS hp
      exact ⟨y, b, off, hy, by rw [List.getLast?_eq_getElem?, List.length_map, List.getElem?_map, hy]; rfl, hAa, hbb, by have := hcell _ y hy 0 _ rfl; simpa using this⟩
    have HR0 := Lib.hid A0.row
    have HQ := Lib.hid A0
    subst hv
    clear hS hrt A0
    go_enter Try.func15, Try.ntmps15
    go_upto_region 1 with fail
    change Code.wp _ _ _ _ (w.alloc (.cells (repC (r, a)) 36))
    have hz6 := repC_one (r, a)
    generalize w.alloc (.cells (repC (r, a)) 36) = w0 at *
    go_upto_region 5 with (first | (go_at_call 53; refine HI.out.mono ?_; rintro e w1 ⟨rfl, rfl⟩) | (go_at_call 54; refine HRt.out.mono ?_; rintro e w2 ⟨rfl, hb2⟩))
    have r2 := below_row hb2 r0 (row_lt r0)
    have hB2 := Below.then hB0 hb2
    go_cut [15] (fun s15 wx => s15 = .bool (!(seqB (l.map (·.1)) r)) ∧ ∃ n, wx = w2.drewN n)
    case first => -- DEVSKIP
      have k13 : w2.cell? ⟨g, 13, none⟩ = some (.slice A l.length c) := row_cell (below_row hb2 HR0.out (row_lt HR0.out)) 13
      have k0 : w2.cell? ⟨w.heap.size, 0, none⟩ = some (.int .i64 r.epoch) := row_cell r2 0
      by_cases h0 : l.length = 0
      · have HV : Hid (seqB (l.map (·.1)) r = true) := Lib.hid (by rw [List.eq_nil_of_length_eq_zero h0]; rfl)
        rw [h0] at k13
        clear r0 r2 hB0 hB2 hb2 z1 hep1
        go_quiet (fail)
        go_wp2_with fail
        go_meet
        exact ⟨by rw [HV.out]; rfl, _, rfl⟩
      · obtain ⟨y, b, off, hy, hlast, rfl, hbb, hcell⟩ := HL.out (by omega)
        have cy : w2.cell? ⟨b, off + (l.length - 1) * 14, none⟩ = some (.int .i64 y.1.epoch) := (hb2.cell hbb).trans hcell
        have z0 : (l.length : Int) - 1 = ((l.length - 1 : Nat) : Int) := by omega
        have z2 : (0 : Int) < (l.length : Int) := by omega
        have z4 : ((l.length - 1 : Nat) : Int) < (l.length : Int) := by omega
        have z5 : (0 : Int) ≤ ((l.length - 1 : Nat) : Int) := by omega
        have z6 : ¬ l = [] := fun e => h0 (by rw [e]; rfl)
        have z7 : 0 < l.length := by omega
        by_cases hye : y.1.epoch = r.epoch - 1
        · have HV : Hid (seqB (l.map (·.1)) r = true) := Lib.hid (by unfold seqB; rw [hlast]; exact decide_eq_true hye)
          rw [hye] at cy
          rw [z0] at z1
          generalize hm : l.length - 1 = m at *
          generalize l.length = n at *
          clear r0 r2 hB0 hB2 hb2 hy hlast hcell hm HL hye
          go_quiet (fail)
          go_wp2_with fail
          go_meet
          exact ⟨by rw [HV.out]; rfl, _, rfl⟩
        · have HV : Hid (seqB (l.map (·.1)) r = false) := Lib.hid (by unfold seqB; rw [hlast]; exact decide_eq_false hye)
          have e1 : (y.1.epoch == r.epoch - 1) = false := beq_eq_false_iff_ne.2 hye
          rw [z0] at z1
          generalize hm : l.length - 1 = m at *
          generalize l.length = n at *
          clear r0 r2 hB0 hB2 hb2 hy hlast hcell hm HL
          go_quiet (fail)
          go_wp2_with fail
          go_meet
          exact ⟨by rw [HV.out]; simp [hye], _, rfl⟩
    case rest =>
      obtain ⟨rfl, n0, rfl⟩ := hcut
      have HRow := Lib.hid (And.intro r2 (And.intro hB2 hb2))
      clear r0 r2 hB0 hB2 hb2 HL z1 hep1 HI HRt
      cases hsq : seqB (l.map (·.1)) r with
      | false =>
        rw [hsq] at he
        have he2 : addE s (l.map (·.1)) r = 200 := by rw [he]; rfl
        rw [he2] at HP
        clear he he2 hsq
        go_wp2_with fail
        exact (HP.out _ _).2 ⟨rfl, HSelf.out _ (below_drewN HRow.out.2.1 _)⟩
      | true =>
        rw [hsq] at he
        have he2 : addE s (l.map (·.1)) r = togE [s, smOf r] := by rw [he]; rfl
        clear he hsq
        go_upto_region 7 with fail
        refine of_world (fun W => row W w.heap.size = some (repC (r, a)) ∧ Below w.heap.size w W ∧ AnAt W E g most s (.slice A l.length c) l) ⟨(row_drewN _ _ _).trans HRow.out.1, below_drewN HRow.out.2.1 _, HQ.out.stay (below_drewN HRow.out.2.2 _)⟩ ?_
        intro w3 h3
        have r3 := h3.1
        have hB3 := h3.2.1
        have A3 := h3.2.2
        have g3 : row w3 g = some (anC s most (.slice A l.length c)) := A3.row
        have HA3 := Lib.hid A3
        clear h3 HRow HQ HR0 A3
        have HOf : Hid (∀ W, Calls Try.prog 56 #[.agg (repC (r, a))] W fun e w' => e = .returned (.agg (smC (smOf r))) ∧ Below W.heap.size W w') := Lib.hid fun W => of38_any r a W
        have HTg : Hid (∀ (W : World) (b : Nat), SliceOf 12 smC W (some ⟨b, 0, none⟩) [s, smOf r] → Calls Try.prog 55 #[.slice (some ⟨b, 0, none⟩) 2 2] W fun e w' => e = .returned (.tuple #[.agg (smC (togV [s, smOf r])), .int .i64 (togE [s, smOf r])]) ∧ Below W.heap.size W w') := Lib.hid fun W b hS =>
          together_any (some ⟨b, 0, none⟩) 2 2 [s, smOf r] rfl (by omega) (fun x hx => by
            rcases List.mem_cons.1 hx with rfl | hx
            · exact hs
            · rw [List.mem_singleton] at hx; subst hx; exact smOf_few r hsm) (fun x hx => by
            rcases List.mem_cons.1 hx with rfl | hx
            · exact hmon
            · rw [List.mem_singleton] at hx; subst hx; exact smOf_mon r HOk.out) W hS
        have HTe : Hid (togE [s, smOf r] = 0 ∧ togV [s, smOf r] = addS s (smOf r) ∨ togE [s, smOf r] = 10) := Lib.hid (by
          unfold togE togV
          by_cases hf : fitsS (totS [s, smOf r])
          · rw [if_pos hf, if_pos hf, tot_two]; exact .inl ⟨rfl, rfl⟩
          · rw [if_neg hf]; exact .inr rfl)
        have HSm : Hid (smOf r = smOf r) := Lib.hid rfl
        generalize togE [s, smOf r] = te at *
        generalize togV [s, smOf r] = tv at *
        go_cut [5, 6] (fun s5 s6 wx => ∃ (U : World) (g5 : Nat), s5 = .pointer (some ⟨g5, 0, none⟩) ∧ s6 = .int .i64 te ∧ U = wx ∧ Below w3.heap.size w3 U ∧ row U g5 = some (smC tv) ∧ w3.heap.size ≤ g5)
        case first => -- DEVSKIP
          have kr := row_cell r3
          have lg3 := row_lt g3
          have lr3 := row_lt r3
          generalize smOf r = sr at *
          go_region_law (first | (go_simp; go_at_call 56; refine (HOf.out _).mono ?_; rintro e w4 ⟨rfl, hb4⟩; have g4 : row w4 g = some (anC s most (.slice A l.length c)) := (by (repeat (first | assumption | (refine row_at _ _ _ _ ?_; first | rfl | (simp only [World.size_alloc]; done) | (simp only [World.size_alloc]; omega)) | (refine (row_past _ _ _ ?_).trans ?_; (focus (first | exact Nat.lt_succ_self _ | ((repeat rw [World.size_alloc]); omega) | (simp; done) | (simp; omega) | omega))) | rw [row_drewN] | rw [row_drew] | (refine (row_far _ _ _ _ ?_).trans ?_; (focus (first | (simp; done) | (simp; omega)))) | (refine (row_below (by assumption) ?_).trans ?_; (focus (first | exact Nat.lt_succ_self _ | ((repeat rw [World.size_alloc]); omega) | (simp; done) | (simp; omega) | omega))))); (first | done | fail)); have lg4 := row_lt g4; (try have z4 : row w4 w3.heap.size = some (smC Sm.zero) := below_row hb4 ((row_drew _ _).trans (row_at _ _ _ _ rfl)) (by show w3.heap.size < (w3.heap.push _).size; simp)); have s4 : w3.heap.size ≤ w4.heap.size := Nat.le_trans (by first | exact Nat.le_refl _ | (show w3.heap.size ≤ (w3.alloc _).heap.size; rw [World.size_alloc]; exact Nat.le_succ _)) hb4.size) | (go_simp; go_at_call 55; refine (HTg.out _ _ (by first | exact SliceOf.two' _ _ _ _ _ (by first | rfl | (simp only [World.size_alloc]; done)) | exact SliceOf.two'' _ _ _ _ _ _ (by first | rfl | (simp only [World.size_alloc]; done)))).mono ?_; rintro e w5 ⟨rfl, hb5⟩; (first | (have z5 : row w5 w3.heap.size = some (smC Sm.zero) := below_row hb5 ((row_past _ _ _ (row_lt z4)).trans z4) (by rw [World.size_alloc]; have := row_lt z4; omega)) | (have z5 : row w5 (w4.heap.size + 1) = some (smC Sm.zero) := below_row hb5 (row_at _ _ _ _ (by rw [World.size_alloc])) (by simp only [World.size_alloc]; omega)) | (have z5 : row w5 w4.heap.size = some (smC Sm.zero) := below_row hb5 ((row_past _ _ _ (by rw [World.size_alloc]; omega)).trans (row_at _ _ _ _ rfl)) (by simp only [World.size_alloc]; omega)) | skip)))
          all_goals
            go_wp2_with fail
            go_meet
            have s5 : w3.heap.size ≤ w5.heap.size := by have := hb5.size; (try rw [World.size_alloc] at this); (try rw [World.size_alloc] at this); omega
            refine ⟨_, _, rfl, rfl, rfl, (by (repeat (first | exact Below.refl _ _ | assumption | (refine Below.allocT ?_ _) | refine Below.drew ?_ | refine below_drewN ?_ _ | (refine Below.then ?_ (by assumption)) | (refine Below.setRow ?_ ?_ _; rotate_left; (focus (first | exact Nat.lt_succ_self _ | ((repeat rw [World.size_alloc]); omega) | (simp; done) | (simp; omega) | omega))) | (refine Below.setCell ?_ ?_ _; rotate_left; (focus (first | exact Nat.lt_succ_self _ | ((repeat rw [World.size_alloc]); omega) | (simp; done) | (simp; omega) | omega))) | (refine Below.then' ?_ (by assumption) ?_; rotate_left; (focus (first | exact Nat.lt_succ_self _ | ((repeat rw [World.size_alloc]); omega) | (simp; done) | (simp; omega) | omega))) | fail)); (first | done | fail)), ?_, ?_⟩
            focus (first | exact row_at _ _ _ _ rfl | (rw [row_setRow_if, if_pos rfl, z5]; rfl))
            focus (first | exact Nat.le_refl _ | exact s4 | exact s5 | omega)
        case rest =>
          obtain ⟨U, g5, rfl, rfl, rfl, hbU, zU, lgU⟩ := hcut
          have rU := below_row hbU r3 (row_lt r3)
          have hBU := Below.then hB3 hbU
          have AU := Lib.hid (HA3.out.stay hbU)
          clear r3 hB3 hbU g3 HOf HTg
          rcases HTe.out with ⟨rfl, rfl⟩ | rfl
          · rw [he2] at HP
            clear HTe he2
            obtain ⟨hA1, hC1⟩ := AU.out.setSum (addS s (smOf r))
            have A1 := Lib.hid hA1
            have C1 : Hid (Chg (AnF g (.slice A l.length c)) w (U.setCells g 0 (smC (addS s (smOf r))).toList)) := Lib.hid ((Chg.of_below hBU (Nat.le_refl _)).andThen hC1 (fun k hk => .inl hk))
            have r1 : row (U.setCells g 0 (smC (addS s (smOf r))).toList) w.heap.size = some (repC (r, a)) := (hC1.row (row_lt rU) (fun e => e.elim (fun e => by have := row_lt HA.out.row; omega) (fun e => by have := (HA.out.kept.lt _ e).2; omega))).trans rU
            have hth := there_anC AU.out.row
            clear hA1 hC1
            have HSt : Hid (∀ (ops : Array Oper) (rest : List Oper) (op : Oper) (x y : Operand) (a' : Act) (Q : Exit → Act → World → Prop), op.guard = none → op.dst = none → op.op = .store 45 x y → a'.eval x = .pointer (some ⟨g, 0, none⟩) → a'.eval y = .agg (smC (addS s (smOf r))) → wpList Try.prog ops Q rest a' (U.setCells g 0 (smC (addS s (smOf r))).toList) → wpList Try.prog ops Q (op :: rest) a' U) := Lib.hid fun ops rest op x y a' Q hg hd ho hx hy h => wpList_store_mid hg _ x y ho g 0 (smC (addS s (smOf r))) hx hy hth sums_info (smC_one _) (by rw [hd]; exact h)
            have HOwn : Hid (∀ W, Below (U.setCells g 0 (smC (addS s (smOf r))).toList).heap.size (U.setCells g 0 (smC (addS s (smOf r))).toList) W → Calls Try.prog 57 #[.agg (repC (r, a))] W (OwnPost W r)) := Lib.hid fun W hW => own38_any r a W ((HR.out.chg C1.out (fun k hk e => HAp.out k hk e)).stay hW) HSmall.out
            have hsz : w.heap.size ≤ (U.setCells g 0 (smC (addS s (smOf r))).toList).heap.size := C1.out.size
            clear hth AU
            have HQ : Hid (addS' 0 s r = addS s (smOf r)) := Lib.hid rfl
            generalize addS s (smOf r) = sn at *
            go_upto_region 11 with (refine HSt.out _ _ _ _ _ _ _ rfl rfl (by rfl) (by rfl) (by rfl) ?_)
            clear HSt
            generalize U.setCells g 0 (smC sn).toList = U1 at *
            clear rU hBU zU lgU
            go_cut [4] (fun s4 wx => s4 = .int .i64 0 ∧ ∃ (U : World) (A' : Option Addr) (c' : Nat) (a' : RepA), U = wx ∧ AnAt U E g most sn (.slice A' (l.length + 1) c') (l ++ [(r, a')]) ∧ Chg (AnF g (.slice A l.length c)) w U ∧ ∀ k, (Value.slice A' (l.length + 1) c').ownBlock = some k → AnF g (.slice A l.length c) k ∨ w.heap.size ≤ k)
            case first =>
              have hsz' := hsz
              have k1 : U1.cell? ⟨g, 13, none⟩ = some (.slice A l.length c) := row_cell A1.out.row 13
              have lg1 := row_lt A1.out.row
              have HSz := Lib.hid hsz
              have HF : Hid (l.length < 999) := Lib.hid hl
              clear hsz
              go_region_law (first | (refine step_append_d reps_under' rep_info' rfl (by omega) (by omega) repC_size repC_one rfl _ _ (by rfl) 0 (.slice A l.length c) l (by rfl) P7.out.kept w6.heap.size 1 (r, a') (by rfl) r7 l.length rfl (by have := HF.out; omega) (Nat.zero_le _) ?_; intro A' cap w8 hO hg8 hor; obtain ⟨HPu, k8, f8⟩ := P7.out.push P8.out.1 HOk.out HSmall.out P8.out.2 hg8 hO hor (by have := HF.out; omega); have HPu := Lib.hid HPu; have HOr := Lib.hid hor; clear hO hg8 hor) | (go_simp; go_at_call 57; refine (HOwn.out _ (by (repeat (first | exact Below.refl _ _ | assumption | (refine Below.allocT ?_ _) | refine Below.drew ?_ | refine below_drewN ?_ _ | (refine Below.then ?_ (by assumption)) | (refine Below.setRow ?_ ?_ _; rotate_left; (focus (first | exact Nat.lt_succ_self _ | ((repeat rw [World.size_alloc]); omega) | (simp; done) | (simp; omega) | omega))) | (refine Below.setCell ?_ ?_ _; rotate_left; (focus (first | exact Nat.lt_succ_self _ | ((repeat rw [World.size_alloc]); omega) | (simp; done) | (simp; omega) | omega))) | (refine Below.then' ?_ (by assumption) ?_; rotate_left; (focus (first | exact Nat.lt_succ_self _ | ((repeat rw [World.size_alloc]); omega) | (simp; done) | (simp; omega) | omega))) | fail)); (first | done | fail))).mono ?_; intro e w6 h6; obtain ⟨a', rfl, hb6, hR6, hK6⟩ := h6.at_; have P6 := Lib.hid (A1.out.stay (show Below U1.heap.size U1 w6 from (by (repeat (first | exact Below.refl _ _ | assumption | (refine Below.allocT ?_ _) | refine Below.drew ?_ | refine below_drewN ?_ _ | (refine Below.then ?_ (by assumption)) | (refine Below.setRow ?_ ?_ _; rotate_left; (focus (first | exact Nat.lt_succ_self _ | ((repeat rw [World.size_alloc]); omega) | (simp; done) | (simp; omega) | omega))) | (refine Below.setCell ?_ ?_ _; rotate_left; (focus (first | exact Nat.lt_succ_self _ | ((repeat rw [World.size_alloc]); omega) | (simp; done) | (simp; omega) | omega))) | (refine Below.then' ?_ (by assumption) ?_; rotate_left; (focus (first | exact Nat.lt_succ_self _ | ((repeat rw [World.size_alloc]); omega) | (simp; done) | (simp; omega) | omega))) | fail)); (first | done | fail)))); have k6 : w6.cell? ⟨g, 13, none⟩ = some (.slice A l.length c) := row_cell P6.out.row 13; have B7 : Below w6.heap.size w6 (w6.alloc (.cells (repC (r, a')) 36)) := (by (repeat (first | exact Below.refl _ _ | assumption | (refine Below.allocT ?_ _) | refine Below.drew ?_ | refine below_drewN ?_ _ | (refine Below.then ?_ (by assumption)) | (refine Below.setRow ?_ ?_ _; rotate_left; (focus (first | exact Nat.lt_succ_self _ | ((repeat rw [World.size_alloc]); omega) | (simp; done) | (simp; omega) | omega))) | (refine Below.setCell ?_ ?_ _; rotate_left; (focus (first | exact Nat.lt_succ_self _ | ((repeat rw [World.size_alloc]); omega) | (simp; done) | (simp; omega) | omega))) | (refine Below.then' ?_ (by assumption) ?_; rotate_left; (focus (first | exact Nat.lt_succ_self _ | ((repeat rw [World.size_alloc]); omega) | (simp; done) | (simp; omega) | omega))) | fail)); (first | done | fail)); have P7 := Lib.hid (P6.out.stay B7); have k7 : (w6.alloc (.cells (repC (r, a')) 36)).cell? ⟨g, 13, none⟩ = some (.slice A l.length c) := row_cell P7.out.row 13; have r7 : row (w6.alloc (.cells (repC (r, a')) 36)) w6.heap.size = some (repC (r, a')) := row_at _ _ _ _ rfl; have P8 : Hid (RepAt (w6.alloc (.cells (repC (r, a')) 36)) (r, a') ∧ ∀ k, RepB (r, a') k → k ≠ g ∧ (Value.slice A l.length c).ownBlock ≠ some k ∧ ¬ E k ∧ k < (w6.alloc (.cells (repC (r, a')) 36)).heap.size) := Lib.hid ⟨hR6.stay B7, fun k hk => by (have hk1 : U1.heap.size ≤ k ∧ k < w6.heap.size := hK6 k hk); refine ⟨by omega, fun e => ?_, fun e => ?_, by rw [World.size_alloc]; omega⟩; (have := (A1.out.kept.lt k e).2; omega); (have := HE.out k e; have := HSz.out; omega)⟩; have B8 : Hid (Below U1.heap.size U1 (w6.alloc (.cells (repC (r, a')) 36)) ∧ U1.heap.size ≤ w6.heap.size) := Lib.hid ⟨Below.then (show Below U1.heap.size U1 w6 from (by (repeat (first | exact Below.refl _ _ | assumption | (refine Below.allocT ?_ _) | refine Below.drew ?_ | refine below_drewN ?_ _ | (refine Below.then ?_ (by assumption)) | (refine Below.setRow ?_ ?_ _; rotate_left; (focus (first | exact Nat.lt_succ_self _ | ((repeat rw [World.size_alloc]); omega) | (simp; done) | (simp; omega) | omega))) | (refine Below.setCell ?_ ?_ _; rotate_left; (focus (first | exact Nat.lt_succ_self _ | ((repeat rw [World.size_alloc]); omega) | (simp; done) | (simp; omega) | omega))) | (refine Below.then' ?_ (by assumption) ?_; rotate_left; (focus (first | exact Nat.lt_succ_self _ | ((repeat rw [World.size_alloc]); omega) | (simp; done) | (simp; omega) | omega))) | fail)); (first | done | fail))) B7, hb6.size⟩; have z0 := repC_size (r, a'); clear hb6 hR6 hK6 B7))
              all_goals
                go_wp2_with fail
                go_meet
                exact ⟨rfl, _, A', cap, a', rfl, HPu.out.1, (C1.out.below_then B8.out.1 (Nat.le_refl _)).andThen HPu.out.2 (fun k hk => .inl hk), fun k hk => HOr.out.elim (fun e => .inl (.inr (e.symm.trans hk))) (fun e => .inr (by have e2 := e.symm.trans hk; rw [Option.some.injEq, World.size_alloc] at e2; have := B8.out.2; have := HSz.out; omega))⟩
            case rest =>
              obtain ⟨rfl, U, A', c', a', rfl, hA2, hC2, hO2⟩ := hcut
              have A2 := Lib.hid hA2
              have C2 := Lib.hid hC2
              have O2 := Lib.hid hO2
              have k1 : U.cell? ⟨g, 13, none⟩ = some (.slice A' (l.length + 1) c') := row_cell A2.out.row 13
              have k2 : U.cell? ⟨g, 12, none⟩ = some (.int .i64 (most : Int)) := row_cell A2.out.row 12
              have hf : l.length < 999 := hl
              have hp := A2.out.pos
              clear hA2 hC2 hO2 A1 C1 r1 HOwn hsz
              by_cases hm : most < l.length + 1
              · have t1 : (most : Int) < ((l.length + 1 : Nat) : Int) := by omega
                obtain ⟨bb, off, hAe, hbb, hcell⟩ := (A2.out.kept.at_ repC_size) (by simp)
                have hcl := A2.out.kept.len_le
                rw [List.length_append] at hcl
                have hcl : l.length + 1 ≤ c' := hcl
                have t3 : ¬ c' = 1 := by omega
                have t4 : 1 ≤ l.length + 1 := by omega
                subst hAe
                have HS : Hid (SliceOf 14 repC U (some ⟨bb, off + 14, none⟩) ((l ++ [(r, a')]).drop 1)) := Lib.hid (by
                  have h1 := A2.out.kept.at_ repC_size
                  cases hl2 : l ++ [(r, a')] with
                  | nil => simp at hl2
                  | cons y ys =>
                    rw [hl2] at h1
                    exact h1.tail)
                have HL : Hid (addL 0 most (l.map (·.1)) r = ((l ++ [(r, a')]).drop 1).map (·.1)) := Lib.hid (by unfold addL keepK; rw [if_pos rfl, if_pos (by rw [List.length_append, List.length_map]; exact hm), List.map_drop, List.map_append]; rfl)
                have HLn : Hid (((l ++ [(r, a')]).drop 1).length = l.length ∧ l.length ≤ 1000) := Lib.hid ⟨by simp, by omega⟩
                have HSub : Hid (∀ x ∈ (l ++ [(r, a')]).drop 1, x ∈ l ++ [(r, a')]) := Lib.hid fun x hx => List.mem_of_mem_drop hx
                clear hcell hm
                generalize (l ++ [(r, a')]).drop 1 = l2 at *
                go_upto_region 12 with fail
                go_quiet (fail)
                go_wp2_with fail
                refine (clone_reps (some ⟨bb, off + 14, none⟩) l.length (c' - 1) l2 HLn.out.1 (fun e => by cases e) (by have := HLn.out.2; omega) _ (HS.out.below (show Below U.heap.size U _ from (by (repeat (first | exact Below.refl _ _ | assumption | (refine Below.allocT ?_ _) | refine Below.drew ?_ | refine below_drewN ?_ _ | (refine Below.then ?_ (by assumption)) | (refine Below.setRow ?_ ?_ _; rotate_left; (focus (first | exact Nat.lt_succ_self _ | ((repeat rw [World.size_alloc]); omega) | (simp; done) | (simp; omega) | omega))) | (refine Below.setCell ?_ ?_ _; rotate_left; (focus (first | exact Nat.lt_succ_self _ | ((repeat rw [World.size_alloc]); omega) | (simp; done) | (simp; omega) | omega))) | (refine Below.then' ?_ (by assumption) ?_; rotate_left; (focus (first | exact Nat.lt_succ_self _ | ((repeat rw [World.size_alloc]); omega) | (simp; done) | (simp; omega) | omega))) | fail)); (first | done | fail))) (Nat.le_refl _))).mono ?_
                intro e w3 h3
                obtain ⟨A3, c3, rfl, hO3, hb3, _⟩ := h3
                have hb3' : Below U.heap.size U w3 := (by (repeat (first | exact Below.refl _ _ | assumption | (refine Below.allocT ?_ _) | refine Below.drew ?_ | refine below_drewN ?_ _ | (refine Below.then ?_ (by assumption)) | (refine Below.setRow ?_ ?_ _; rotate_left; (focus (first | exact Nat.lt_succ_self _ | ((repeat rw [World.size_alloc]); omega) | (simp; done) | (simp; omega) | omega))) | (refine Below.setCell ?_ ?_ _; rotate_left; (focus (first | exact Nat.lt_succ_self _ | ((repeat rw [World.size_alloc]); omega) | (simp; done) | (simp; omega) | omega))) | (refine Below.then' ?_ (by assumption) ?_; rotate_left; (focus (first | exact Nat.lt_succ_self _ | ((repeat rw [World.size_alloc]); omega) | (simp; done) | (simp; omega) | omega))) | fail)); (first | done | fail))
                obtain ⟨hA4, hC4⟩ := A2.out.swap (show Below U.heap.size U w3 from hb3') (show OwnC 36 14 repC w3 U.heap.size (.slice A3 l2.length c3) l2 from hO3) HSub.out (by rw [HLn.out.1]; exact HLn.out.2)
                have A4 := Lib.hid hA4
                have C4 := Lib.hid hC4
                have A3' := Lib.hid (A2.out.stay hb3')
                have HT : Hid (AnTo w (AnF g (.slice A l.length c)) E g most (addS' 0 s r) (addL 0 most (l.map (·.1)) r) (w3.setCell ⟨g, 13, none⟩ (.slice A3 l2.length c3))) := Lib.hid ⟨_, _, by rw [HQ.out]; exact A4.out, HL.out.symm, fun k hk => .inr (Nat.le_trans C2.out.size (hO3.lt k hk).1), C2.out.andThen C4.out (fun k hk => hk.elim (fun e => .inl (.inl e)) (fun e => O2.out k e))⟩
                have k5 : w3.cell? ⟨g, 13, none⟩ = _ := row_cell A3'.out.row 13
                have f5 := row_frozen A3'.out.row 13
                clear hA4 hC4 hO3 hb3 hb3'
                generalize l2.length = n2 at *
                go_wp2_with fail
                exact (HP.out _ _).2 ⟨rfl, HT.out⟩
              · have t1 : ¬ (most : Int) < ((l.length + 1 : Nat) : Int) := by omega
                have HL : Hid (addL 0 most (l.map (·.1)) r = (l ++ [(r, a')]).map (·.1)) := Lib.hid (by unfold addL keepK; rw [if_pos rfl, if_neg (by rw [List.length_append, List.length_map]; exact hm), List.map_append]; rfl)
                have HT : Hid (∀ W, Below U.heap.size U W → AnTo w (AnF g (.slice A l.length c)) E g most (addS' 0 s r) (addL 0 most (l.map (·.1)) r) W) := Lib.hid fun W hb => ⟨_, _, by rw [HQ.out]; exact A2.out.stay hb, HL.out.symm, O2.out, C2.out.below_then hb (Nat.le_refl _)⟩
                generalize l.length + 1 = n1 at *
                go_upto_region 12 with fail
                go_quiet (fail)
                go_wp2_with fail
                exact (HP.out _ _).2 ⟨rfl, HT.out _ (by (repeat (first | exact Below.refl _ _ | assumption | (refine Below.allocT ?_ _) | refine Below.drew ?_ | refine below_drewN ?_ _ | (refine Below.then ?_ (by assumption)) | (refine Below.setRow ?_ ?_ _; rotate_left; (focus (first | exact Nat.lt_succ_self _ | ((repeat rw [World.size_alloc]); omega) | (simp; done) | (simp; omega) | omega))) | (refine Below.setCell ?_ ?_ _; rotate_left; (focus (first | exact Nat.lt_succ_self _ | ((repeat rw [World.size_alloc]); omega) | (simp; done) | (simp; omega) | omega))) | (refine Below.then' ?_ (by assumption) ?_; rotate_left; (focus (first | exact Nat.lt_succ_self _ | ((repeat rw [World.size_alloc]); omega) | (simp; done) | (simp; omega) | omega))) | fail)); (first | done | fail))⟩
          · rw [he2] at HP
            go_wp2_with fail
            exact (HP.out _ _).2 ⟨rfl, HSelf.out _ hBU⟩
end Go.Proofs.Ytnakkjgnjffkpaa
