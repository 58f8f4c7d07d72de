/-
  The head that counts: (*vault.Vault).newest.
-/
import Derived.Test.YtkkncijbedfdfaaVault7
import Derived.Test.YtkkncijbedfdfaaVault5
namespace Go.Proofs.Ytkkncijbedfdfaa
open Go.RowKit
set_option linter.unusedVariables false

/-- A sector that the plate has not. -/
theorem read_out (g gs : Nat) (pv : Value) (A : Option Addr) (c : Nat) (s : Ps) (i : Nat) (hi : s.sure.length ≤ i) (hdn : s.down = false) (w : World) (h : PlAt w g gs pv A c s) :
    Calls Try.prog 35 #[.pointer (some ⟨g, 0, none⟩), .int .i64 i] w fun e w' => e = .returned (.tuple #[.slice none 0 0, .int .i64 281]) ∧ w = w' := by
  have HI := Lib.hid (is_yes g gs pv A c s w h)
  have c0 : w.cell? ⟨g, 0, none⟩ = some (.slice (some ⟨gs, 0, none⟩) s.sure.length s.sure.length) := h.cells 0
  have c5 : w.cell? ⟨g, 5, none⟩ = some (.bool false) := (h.cells 5).trans (by rw [← hdn]; rfl)
  have y2 : (s.sure.length : Int) ≤ (i : Int) := by omega
  have y3 : ¬ (i : Int) < 0 := by omega
  generalize s.sure.length = N at *
  clear h hdn
  go_enter Try.func35, Try.ntmps35
  go_wp2_with fail
  refine (HI.out).mono ?_
  rintro e w1 ⟨rfl, rfl⟩
  go_wp2_with fail
  go_ret2
  exact ⟨rfl, rfl⟩
theorem headC_room (h : Hd) : roomy 0 5 (headC h) = true := rfl
theorem headC_ext (h : Hd) : (headC h).extract 0 5 = headC h := rfl
attribute [go_sem] headC_room headC_ext
/-- What a sector of a head holds. -/
def Slot (room : Nat) (d : Sec) (h : Hd) (ok : Bool) : Prop := (d = zSec ∧ h = Hd.none ∧ ok = false) ∨ (d = headS h ∧ h.Ok room ∧ ok = true)
theorem zok : bytesOk (List.replicate 64 0) := .of fun x hx => by rw [List.eq_of_mem_replicate hx]; decide
theorem parse_slot {room : Nat} {d : Sec} {h : Hd} {ok : Bool} (hs : Slot room d h ok) (hr : room ≤ 100000) (b off c : Nat) (hc : 64 ≤ c) (hc2 : c ≤ 9223372036854775807) (w : World) (hB : Bys w (some ⟨b, off, none⟩) d.1) :
    Calls Try.prog 36 #[.slice (some ⟨b, off, none⟩) 64 c, .int .i64 (room : Int)] w fun e w' => e = .returned (.tuple #[.agg (headC h), .bool ok]) ∧ Below w.heap.size w w' := by
  rcases hs with ⟨rfl, rfl, rfl⟩ | ⟨rfl, ho, rfl⟩
  · exact parse_zero (List.replicate 64 0) Hd.none tells_zero (by simp) zok b off c room hc hc2 w hB ⟨by decide, by decide, by decide⟩ hr rfl
  · exact parse_yes h room ho b off c hc hc2 w hB
/-- The newest of two heads, one by one. -/
def bestH (hs : Nat → Hd) (oks : Nat → Bool) : Nat → Hd × Bool
  | 0 => (Hd.none, false)
  | j + 1 => if oks j = true ∧ ((bestH hs oks j).2 = false ∨ (bestH hs oks j).1.gen < (hs j).gen) then (hs j, true) else bestH hs oks j
theorem results_cell_tmp2 {P : Program} {fn : Func} {p q r : Tmp} {ty : TypeId} (h : fn.results = #[.cell p ty, .tmp q, .tmp r]) (tmps : Array Value) (w : World) (g : Nat) (t : TypeId) (cs : Array Value) (fr : Nat × Nat) (d : TypeDesc)
    (hp : tmps.getD p undef = .pointer (some ⟨g, 0, none⟩)) (hg : w.heap[g]? = some (.cells cs t fr))
    (hu : P.underlying ty = some d) (hd : (match d with | .struct _ | .array _ _ => true | _ => false) = true) (hi : (P.info? ty).map (·.size) = some cs.size) :
    (results fn tmps).run P w = .ok (.tuple #[.agg cs, tmps.getD q undef, tmps.getD r undef]) w := by
  have hp' : tmps[p]?.getD undef = .pointer (some ⟨g, 0, none⟩) := by simpa using hp
  simp [results, h, hp', asAddr, run_loadVar_row w g t ty cs fr d hg hu hd hi]
theorem headC_gen (h : Hd) {w : World} {g : Nat} (hr : row w g = some (headC h)) : w.cell? ⟨g, 0, none⟩ = some (.int .u64 (h.gen : Int)) := row_cell hr 0
set_option maxHeartbeats 8000000 in
set_option maxRecDepth 100000 in
theorem newest_any (gv g gs : Nat) (pv : Value) (A : Option Addr) (c : Nat) (s : Ps) (hd : s.down = false) (hp : s.pend = []) (room : Nat) (hroom : room ≤ 100000) (ds : Nat → Sec) (hs : Nat → Hd) (oks : Nat → Bool) (hds : ∀ j, j < 2 → s.sure[j]? = some (ds j) ∧ Slot room (ds j) (hs j) (oks j)) (w : World) (h5 : w.cell? ⟨gv, 5, none⟩ = some (.pointer (some ⟨g, 0, none⟩))) (h6 : w.cell? ⟨gv, 6, none⟩ = some (.int .i64 (room : Int))) (hgv : gv < w.heap.size) (h : PlAt w g gs pv A c s) :
    Calls Try.prog 23 #[.pointer (some ⟨gv, 0, none⟩)] w fun e w' => e = .returned (.tuple #[.agg (headC (bestH hs oks 2).1), .bool (bestH hs oks 2).2, .int .i64 0]) ∧ Below w.heap.size w w' := by
  have HRd : Hid (∀ W (j : Nat), j < 2 → Below w.heap.size w W → Calls Try.prog 35 #[.pointer (some ⟨g, 0, none⟩), .int .i64 (j : Int)] W (ReadPost8 W (ds j))) := Lib.hid fun W j hj hb => by
    have hrd := read_any g gs pv A c s j _ (hds j hj).1 hd W (h.stay hb)
    rw [hp, seen] at hrd
    exact hrd
  have HP : Hid (∀ W (j b off c : Nat), j < 2 → 64 ≤ c → c ≤ 9223372036854775807 → Bys W (some ⟨b, off, none⟩) (ds j).1 → Calls Try.prog 36 #[.slice (some ⟨b, off, none⟩) 64 c, .int .i64 (room : Int)] W fun e w' => e = .returned (.tuple #[.agg (headC (hs j)), .bool (oks j)]) ∧ Below W.heap.size W w') := Lib.hid fun W j b off c hj h1 h2 h3 => parse_slot (hds j hj).2 hroom b off c h1 h2 W h3
  have H56 : Hid (∀ W, Below w.heap.size w W → W.cell? ⟨gv, 5, none⟩ = some (.pointer (some ⟨g, 0, none⟩)) ∧ W.cell? ⟨gv, 6, none⟩ = some (.int .i64 (room : Int))) := Lib.hid fun W hb => ⟨(hb.cell (p := ⟨gv, 5, none⟩) hgv).trans h5, (hb.cell (p := ⟨gv, 6, none⟩) hgv).trans h6⟩
  have r0 : row (w.alloc (.cells (headC Hd.none) 40)) w.heap.size = some (headC Hd.none) := (by (repeat (first | assumption | (refine row_at _ _ _ _ ?_; first | rfl | (simp only [World.size_alloc]; done) | (simp only [World.size_alloc]; omega)) | (refine (row_past _ _ _ ?_).trans ?_; (focus (first | exact Nat.lt_succ_self _ | ((repeat rw [World.size_alloc]); omega) | (simp; done) | (simp; omega) | omega))) | rw [row_drewN] | rw [row_drew])); (first | done | fail))
  have r1 : row ((w.alloc (.cells (headC Hd.none) 40)).alloc (.cells (headC Hd.none) 40)) w.heap.size = some (headC Hd.none) := (by (repeat (first | assumption | (refine row_at _ _ _ _ ?_; first | rfl | (simp only [World.size_alloc]; done) | (simp only [World.size_alloc]; omega)) | (refine (row_past _ _ _ ?_).trans ?_; (focus (first | exact Nat.lt_succ_self _ | ((repeat rw [World.size_alloc]); omega) | (simp; done) | (simp; omega) | omega))) | rw [row_drewN] | rw [row_drew])); (first | done | fail))
  have r2 : row ((w.alloc (.cells (headC Hd.none) 40)).alloc (.cells (headC Hd.none) 40)) (w.heap.size + 1) = some (headC Hd.none) := (by (repeat (first | assumption | (refine row_at _ _ _ _ ?_; first | rfl | (simp only [World.size_alloc]; done) | (simp only [World.size_alloc]; omega)) | (refine (row_past _ _ _ ?_).trans ?_; (focus (first | exact Nat.lt_succ_self _ | ((repeat rw [World.size_alloc]); omega) | (simp; done) | (simp; omega) | omega))) | rw [row_drewN] | rw [row_drew])); (first | done | fail))
  have B2 : Below w.heap.size w ((w.alloc (.cells (headC Hd.none) 40)).alloc (.cells (headC Hd.none) 40)) := (by (repeat (first | exact Below.refl _ _ | assumption | (refine Below.allocT ?_ _) | refine Below.drew ?_ | refine below_drewN ?_ _ | (refine Below.then ?_ (by assumption)) | (refine Below.setRow ?_ ?_ _; rotate_left; (focus (first | exact Nat.lt_succ_self _ | ((repeat rw [World.size_alloc]); omega) | (simp; done) | (simp; omega) | omega))) | (refine Below.setCell ?_ ?_ _; rotate_left; (focus (first | exact Nat.lt_succ_self _ | ((repeat rw [World.size_alloc]); omega) | (simp; done) | (simp; omega) | omega))) | (refine Below.then' ?_ (by assumption) ?_; rotate_left; (focus (first | exact Nat.lt_succ_self _ | ((repeat rw [World.size_alloc]); omega) | (simp; done) | (simp; omega) | omega))) | fail)); (first | done | fail))
  clear h h5 h6 hp hd hds
  go_enter Try.func23, Try.ntmps23
  go_wp2_with fail
  change Code.wp _ _ _ _ ((w.alloc (.cells (headC Hd.none) 40)).alloc (.cells (headC Hd.none) 40))
  generalize (w.alloc (.cells (headC Hd.none) 40)).alloc (.cells (headC Hd.none) 40) = w2 at *
  have HS := Lib.hid (And.intro r1 (And.intro r2 B2))
  clear r0 r1 r2 B2
  go_loopw [6, 13] (fun q i wr => ∃ j : Nat, i = .int .i64 j ∧ j ≤ 2 ∧ q = .bool (bestH hs oks j).2 ∧ Hid (row wr w.heap.size = some (headC Hd.none) ∧ row wr (w.heap.size + 1) = some (headC (bestH hs oks j).1) ∧ Below w.heap.size w wr)) (fun _ i _ => 2 - (intOf i).toNat)
  case atStart => exact ⟨0, rfl, by omega, rfl, HS.out⟩
  case round =>
    obtain ⟨j, rfl, hj, rfl, hH⟩ := hrel
    clear HS
    by_cases hlt : j < 2
    · have hk56 := H56.out _ hH.out.2.2
      have k5 := hk56.1
      have z1 : (j : Int) < 2 := by omega
      have HB := Lib.hid (show bestH hs oks (j + 1) = if oks j = true ∧ ((bestH hs oks j).2 = false ∨ (bestH hs oks j).1.gen < (hs j).gen) then (hs j, true) else bestH hs oks j from rfl)
      have HRd2 := Lib.hid (fun W hb => HRd.out W j hlt hb)
      have HP2 := Lib.hid (fun W b off c => HP.out W j b off c hlt)
      obtain ⟨bN, hbN⟩ : ∃ b, b = bestH hs oks (j + 1) := ⟨_, rfl⟩
      have HBN := Lib.hid hbN.symm
      rw [← hbN] at HB
      clear hbN
      generalize bestH hs oks j = bJ at *
      generalize oks j = oj at *
      generalize hs j = hh at *
      generalize ds j = dj at *
      clear hk56
      go_wp2_with fail
      refine (HRd2.out _ hH.out.2.2).mono ?_
      rintro e w3 ⟨B, cB, rfl, hO, hnew, hb3⟩
      obtain ⟨A', c', e', hBy, hl1, hl2, hl3, _⟩ := hO.form
      rw [Value.slice.injEq] at e'
      rw [← e'.1] at hBy
      rw [dj.2] at hl2
      rw [← e'.2.2] at hl2 hl3
      obtain ⟨b, off, rfl, _, _⟩ := hBy (by rw [dj.2]; omega)
      have B3 := Lib.hid (Below.then hH.out.2.2 hb3)
      have k6 := (H56.out _ B3.out).2
      have HP3 := Lib.hid (HP2.out w3 b off cB hl2 hl3 hBy)
      have R3 := Lib.hid (And.intro ((row_below hb3 (row_lt hH.out.1)).trans hH.out.1) ((row_below hb3 (row_lt hH.out.2.1)).trans hH.out.2.1))
      clear hO hnew hb3 hBy hl1 hl2 hl3 e' hH k5
      go_wp2_with fail
      refine (HP3.out).mono ?_
      rintro e w4 ⟨rfl, hb4⟩
      have r4 := (row_below hb4 (row_lt R3.out.1)).trans R3.out.1
      have q4 := (row_below hb4 (row_lt R3.out.2)).trans R3.out.2
      have B4 := Lib.hid (Below.allocT (Below.then B3.out hb4) (.cells (headC hh) 40))
      have r5 : row (w4.alloc (.cells (headC hh) 40)) w.heap.size = some (headC Hd.none) := (row_past _ _ _ (row_lt r4)).trans r4
      have q5 : row (w4.alloc (.cells (headC hh) 40)) (w.heap.size + 1) = some (headC bJ.1) := (row_past _ _ _ (row_lt q4)).trans q4
      have p5 : row (w4.alloc (.cells (headC hh) 40)) w4.heap.size = some (headC hh) := row_at _ _ _ _ rfl
      have g1 := headC_gen _ q5
      have g2 := headC_gen _ p5
      have R5 := Lib.hid (And.intro r5 (And.intro q5 p5))
      have hx5 : (row (w4.alloc (.cells (headC hh) 40)) (w.heap.size + 1)).map (·.size) = some 5 := by rw [q5]; rfl
      have HSt := Lib.hid (And.intro ((row_setRow_far (w := w4.alloc (.cells (headC hh) 40)) (g := w.heap.size + 1) (k := w.heap.size) (new := headC hh) (by omega)).trans r5) (And.intro (row_setRow (new := headC hh) q5) (Below.setRow B4.out (Nat.le_succ _) (headC hh) : Below w.heap.size w ((w4.alloc (.cells (headC hh) 40)).setRow (w.heap.size + 1) (headC hh)))))
      clear r4 q4 hb4 r5 k6 HP3 R3
      obtain ⟨bh, bo⟩ := bJ
      cases oj
      · have HB0 : Hid (bN = (bh, bo)) := Lib.hid (by rw [HB.out, if_neg (by simp)])
        clear HSt HB
        go_wp2_with fail
        exact ⟨⟨j + 1, by go_num, by omega, by rw [HBN.out, HB0.out], Lib.hid ⟨R5.out.1, by rw [HBN.out, HB0.out]; exact R5.out.2.1, B4.out⟩⟩, by simp [intOf]; omega⟩
      · cases bo
        · have HB0 : Hid (bN = (hh, true)) := Lib.hid (by rw [HB.out, if_pos ⟨rfl, .inl rfl⟩])
          clear HB
          go_wp2_with fail
          exact ⟨⟨j + 1, by go_num, by omega, by rw [HBN.out, HB0.out], by rw [HBN.out, HB0.out]; exact HSt⟩, by simp [intOf]; omega⟩
        · by_cases hgen : bh.gen < hh.gen
          · have HB0 : Hid (bN = (hh, true)) := Lib.hid (by rw [HB.out, if_pos ⟨rfl, .inr hgen⟩])
            have z3 : (bh.gen : Int) < (hh.gen : Int) := by omega
            clear HB hgen
            go_wp2_with fail
            exact ⟨⟨j + 1, by go_num, by omega, by rw [HBN.out, HB0.out], by rw [HBN.out, HB0.out]; exact HSt⟩, by simp [intOf]; omega⟩
          · have HB0 : Hid (bN = (bh, true)) := Lib.hid (by rw [HB.out, if_neg (by rintro ⟨_, h | h⟩; (focus cases h); (focus exact hgen h))])
            have z3 : ¬ (bh.gen : Int) < (hh.gen : Int) := by omega
            clear HB hgen HSt
            go_wp2_with fail
            exact ⟨⟨j + 1, by go_num, by omega, by rw [HBN.out, HB0.out], Lib.hid ⟨R5.out.1, by rw [HBN.out, HB0.out]; exact R5.out.2.1, B4.out⟩⟩, by simp [intOf]; omega⟩
    · obtain rfl : j = 2 := by omega
      obtain ⟨h1, h2, h3⟩ := hH.out
      have H3 := Lib.hid h3
      obtain ⟨bJ, hbJ⟩ : ∃ b, b = bestH hs oks 2 := ⟨_, rfl⟩
      have HE := Lib.hid hbJ
      simp only [← hbJ] at h2 ⊢
      clear hH h3 hbJ
      have hx1 : (row wr w.heap.size).map (·.size) = some 5 := by rw [h1]; rfl
      go_wp2_with fail
      obtain ⟨t, htt⟩ := row_heap (row_setRow (new := headC bJ.1) h1)
      exact bodyPost_ret (v := .tuple #[.agg (headC bJ.1), .bool bJ.2, .int .i64 0]) (results_cell_tmp2 Try.results23 _ _ (w.heap.size) t (headC bJ.1) (0, 0) _ rfl htt hd_under rfl hd_info) rfl ⟨by rw [HE.out], Below.setRow H3.out (Nat.le_refl _) _⟩
theorem inv_slots {S : List Sec} {room : Nat} {v : Vt} (h : Inv S room v) : ∃ (ds : Nat → Sec) (hs : Nat → Hd) (oks : Nat → Bool), (∀ j, j < 2 → S[j]? = some (ds j) ∧ Slot room (ds j) (hs j) (oks j)) ∧ bestH hs oks 2 = (v.hd, true) := by
  have two : ∀ {P : Nat → Prop}, P 0 → P 1 → ∀ j, j < 2 → P j := fun h0 h1 j hj => by
    match j, hj with
    | 0, _ => exact h0
    | 1, _ => exact h1
  rcases h.slots with ⟨_, a, b | ⟨h', b1, b2, b3⟩⟩ | ⟨_, a, b | ⟨h', b1, b2, b3⟩⟩
  · exact ⟨fun j => if j = 0 then headS v.hd else zSec, fun j => if j = 0 then v.hd else Hd.none, fun j => decide (j = 0), two ⟨a, .inr ⟨rfl, h.ok, rfl⟩⟩ ⟨b, .inl ⟨rfl, rfl, rfl⟩⟩, by simp [bestH]⟩
  · exact ⟨fun j => if j = 0 then headS v.hd else headS h', fun j => if j = 0 then v.hd else h', fun j => true, two ⟨a, .inr ⟨rfl, h.ok, rfl⟩⟩ ⟨b2, .inr ⟨rfl, b1, rfl⟩⟩, by simp [bestH]; omega⟩
  · exact ⟨fun j => if j = 0 then zSec else headS v.hd, fun j => if j = 0 then Hd.none else v.hd, fun j => decide (j = 1), two ⟨b, .inl ⟨rfl, rfl, rfl⟩⟩ ⟨a, .inr ⟨rfl, h.ok, rfl⟩⟩, by simp [bestH]⟩
  · exact ⟨fun j => if j = 0 then headS h' else headS v.hd, fun j => if j = 0 then h' else v.hd, fun j => true, two ⟨b2, .inr ⟨rfl, b1, rfl⟩⟩ ⟨a, .inr ⟨rfl, h.ok, rfl⟩⟩, by simp [bestH, b3]⟩
theorem fresh_slots {S : List Sec} {room : Nat} (h : Fresh S room) : ∃ (ds : Nat → Sec) (hs : Nat → Hd) (oks : Nat → Bool), (∀ j, j < 2 → S[j]? = some (ds j) ∧ Slot room (ds j) (hs j) (oks j)) ∧ bestH hs oks 2 = (Hd.none, false) :=
  ⟨fun _ => zSec, fun _ => Hd.none, fun _ => false, fun j hj => ⟨by
    match j, hj with
    | 0, _ => exact h.z0
    | 1, _ => exact h.z1, .inl ⟨rfl, rfl, rfl⟩⟩, by simp [bestH]⟩
set_option maxHeartbeats 8000000 in
set_option maxRecDepth 100000 in
/-- A plate of one sector. -/
theorem newest_one (gv g gs : Nat) (pv : Value) (A : Option Addr) (c : Nat) (s : Ps) (hd : s.down = false) (hp : s.pend = []) (room : Nat) (hroom : room ≤ 100000) (h1 : s.sure = [zSec]) (w : World) (h5 : w.cell? ⟨gv, 5, none⟩ = some (.pointer (some ⟨g, 0, none⟩))) (h6 : w.cell? ⟨gv, 6, none⟩ = some (.int .i64 (room : Int))) (hgv : gv < w.heap.size) (h : PlAt w g gs pv A c s) :
    Calls Try.prog 23 #[.pointer (some ⟨gv, 0, none⟩)] w fun e w' => e = .returned (.tuple #[.agg (headC Hd.none), .bool false, .int .i64 290]) ∧ Below w.heap.size w w' := by
  have HRd : Hid (∀ W, Below w.heap.size w W → Calls Try.prog 35 #[.pointer (some ⟨g, 0, none⟩), .int .i64 ((0 : Nat) : Int)] W (ReadPost8 W zSec)) := Lib.hid fun W hb => by
    have hrd := read_any g gs pv A c s 0 zSec (by rw [h1]; rfl) hd W (h.stay hb)
    rw [hp, seen] at hrd
    exact hrd
  have HRo : Hid (∀ W, Below w.heap.size w W → Calls Try.prog 35 #[.pointer (some ⟨g, 0, none⟩), .int .i64 ((1 : Nat) : Int)] W fun e w' => e = .returned (.tuple #[.slice none 0 0, .int .i64 281]) ∧ W = w') := Lib.hid fun W hb => read_out g gs pv A c s 1 (by rw [h1]; exact Nat.le_refl _) hd W (h.stay hb)
  have HP : Hid (∀ W (b off c : Nat), 64 ≤ c → c ≤ 9223372036854775807 → Bys W (some ⟨b, off, none⟩) zSec.1 → Calls Try.prog 36 #[.slice (some ⟨b, off, none⟩) 64 c, .int .i64 (room : Int)] W fun e w' => e = .returned (.tuple #[.agg (headC Hd.none), .bool false]) ∧ Below W.heap.size W w') := Lib.hid fun W b off c h1 h2 h3 => parse_slot (.inl ⟨rfl, rfl, rfl⟩) hroom b off c h1 h2 W h3
  have H56 : Hid (∀ W, Below w.heap.size w W → W.cell? ⟨gv, 5, none⟩ = some (.pointer (some ⟨g, 0, none⟩)) ∧ W.cell? ⟨gv, 6, none⟩ = some (.int .i64 (room : Int))) := Lib.hid fun W hb => ⟨(hb.cell (p := ⟨gv, 5, none⟩) hgv).trans h5, (hb.cell (p := ⟨gv, 6, none⟩) hgv).trans h6⟩
  have r1 : row ((w.alloc (.cells (headC Hd.none) 40)).alloc (.cells (headC Hd.none) 40)) w.heap.size = some (headC Hd.none) := (by (repeat (first | assumption | (refine row_at _ _ _ _ ?_; first | rfl | (simp only [World.size_alloc]; done) | (simp only [World.size_alloc]; omega)) | (refine (row_past _ _ _ ?_).trans ?_; (focus (first | exact Nat.lt_succ_self _ | ((repeat rw [World.size_alloc]); omega) | (simp; done) | (simp; omega) | omega))) | rw [row_drewN] | rw [row_drew])); (first | done | fail))
  have B2 : Below w.heap.size w ((w.alloc (.cells (headC Hd.none) 40)).alloc (.cells (headC Hd.none) 40)) := (by (repeat (first | exact Below.refl _ _ | assumption | (refine Below.allocT ?_ _) | refine Below.drew ?_ | refine below_drewN ?_ _ | (refine Below.then ?_ (by assumption)) | (refine Below.setRow ?_ ?_ _; rotate_left; (focus (first | exact Nat.lt_succ_self _ | ((repeat rw [World.size_alloc]); omega) | (simp; done) | (simp; omega) | omega))) | (refine Below.setCell ?_ ?_ _; rotate_left; (focus (first | exact Nat.lt_succ_self _ | ((repeat rw [World.size_alloc]); omega) | (simp; done) | (simp; omega) | omega))) | (refine Below.then' ?_ (by assumption) ?_; rotate_left; (focus (first | exact Nat.lt_succ_self _ | ((repeat rw [World.size_alloc]); omega) | (simp; done) | (simp; omega) | omega))) | fail)); (first | done | fail))
  clear h h5 h6 hp hd
  go_enter Try.func23, Try.ntmps23
  go_wp2_with fail
  change Code.wp _ _ _ _ ((w.alloc (.cells (headC Hd.none) 40)).alloc (.cells (headC Hd.none) 40))
  generalize (w.alloc (.cells (headC Hd.none) 40)).alloc (.cells (headC Hd.none) 40) = w2 at *
  have HS := Lib.hid (And.intro r1 B2)
  clear r1 B2
  go_loopw [6, 13] (fun q i wr => ∃ j : Nat, i = .int .i64 j ∧ j ≤ 1 ∧ q = .bool false ∧ Hid (row wr w.heap.size = some (headC Hd.none) ∧ Below w.heap.size w wr)) (fun _ i _ => 2 - (intOf i).toNat)
  case atStart => exact ⟨0, rfl, by omega, rfl, HS.out⟩
  case round =>
    obtain ⟨j, rfl, hj, rfl, hH⟩ := hrel
    clear HS
    have k5 := (H56.out _ hH.out.2).1
    have z1 : (j : Int) < 2 := by omega
    rcases (show j = 0 ∨ j = 1 by omega) with rfl | rfl
    · go_wp2_with fail
      refine (HRd.out _ hH.out.2).mono ?_
      rintro e w3 ⟨B, cB, rfl, hO, hnew, hb3⟩
      obtain ⟨A', c', e', hBy, hl1, hl2, hl3, _⟩ := hO.form
      rw [Value.slice.injEq] at e'
      rw [← e'.1] at hBy
      rw [zSec.2] at hl2
      rw [← e'.2.2] at hl2 hl3
      obtain ⟨b, off, rfl, _, _⟩ := hBy (by rw [zSec.2]; omega)
      have B3 := Lib.hid (Below.then hH.out.2 hb3)
      have k6 := (H56.out _ B3.out).2
      have HP3 := Lib.hid (HP.out w3 b off cB hl2 hl3 hBy)
      have R3 := Lib.hid ((row_below hb3 (row_lt hH.out.1)).trans hH.out.1)
      clear hO hnew hb3 hBy hl1 hl2 hl3 e' hH k5
      go_wp2_with fail
      refine (HP3.out).mono ?_
      rintro e w4 ⟨rfl, hb4⟩
      have R5 := Lib.hid ((row_past w4 (.cells (headC Hd.none) 40) _ (Nat.lt_of_lt_of_le (row_lt R3.out) hb4.size)).trans ((row_below hb4 (row_lt R3.out)).trans R3.out))
      have B4 := Lib.hid (Below.allocT (Below.then B3.out hb4) (.cells (headC Hd.none) 40))
      clear hb4 k6 HP3 R3
      go_wp2_with fail
      exact ⟨⟨1, rfl, by omega, rfl, Lib.hid ⟨R5.out, B4.out⟩⟩, by simp [intOf]⟩
    · have hr := hH.out.1
      have hx1 : (row wr w.heap.size).map (·.size) = some 5 := by rw [hr]; rfl
      have H3 := Lib.hid hH.out.2
      go_wp2_with fail
      refine (HRo.out _ hH.out.2).mono ?_
      rintro e w3 ⟨rfl, rfl⟩
      clear hH k5
      go_wp2_with fail
      obtain ⟨t, htt⟩ := row_heap (row_setRow (new := headC Hd.none) hr)
      exact bodyPost_ret (v := .tuple #[.agg (headC Hd.none), .bool false, .int .i64 290]) (results_cell_tmp2 Try.results23 _ _ (w.heap.size) t (headC Hd.none) (0, 0) _ rfl htt hd_under rfl hd_info) rfl ⟨rfl, Below.setRow H3.out (Nat.le_refl _) _⟩
end Go.Proofs.Ytkkncijbedfdfaa
