/-
  Motions that are closed: moot.Close.
-/
import Derived.Test.YtnakkjgnjffkpaaMoot1
import Derived.Test.YtnakkjgnjffkpaaBallot
import Derived.Test.YtnakkjgnjffkpaaDed
namespace Go.Proofs.Ytnakkjgnjffkpaa
open Go.RowKit
set_option linter.unusedVariables false

/-- What of the members is active. -/
def actN (ms : List Mb) : Nat := total (selL ms (fun _ => true) ms.length)
def votN (ms : List Mb) (bs : List Nat) : Nat := total (selL ms (fun k => getB bs k) ms.length)
/-- Does a motion pass? -/
def okC (q : Int) (ms : List Mb) (m : Mot) : Bool := decide (actN ms ≤ 18446744073709551615) && passB q (fit (votN ms m.yes)) (fit (votN ms m.no)) (actN ms)
def dueV (ep en : Int) : Int := wrap64 ((if wrap64 (2147483647 - if en < 0 then 0 else en) < (if ep < -2147483647 then -2147483647 else ep) then wrap64 (2147483647 - if en < 0 then 0 else en) else (if ep < -2147483647 then -2147483647 else ep)) + en)
def closeM (q en : Int) (ms : List Mb) (ep : Int) (m : Mot) : Mot :=
  if m.state = 1 ∧ m.ends ≤ ep then if okC q ms m then { m with state := 2, due := dueV ep en } else { m with state := 4 } else m
def closeL (q en : Int) (ms : List Mb) (ep : Int) (L : List Mot) : List Mot := L.map (closeM q en ms ep)
theorem closeL_step {q en : Int} {ms : List Mb} {ep : Int} {L : List Mot} {j : Nat} {m : Mot} (h : L[j]? = some m) :
    ((L.take j).map (closeM q en ms ep) ++ L.drop j).set j (closeM q en ms ep m) = (L.take (j + 1)).map (closeM q en ms ep) ++ L.drop (j + 1) := by
  obtain ⟨hl, he⟩ := List.getElem?_eq_some_iff.1 h
  have hlen : ((L.take j).map (closeM q en ms ep)).length = j := by rw [List.length_map, List.length_take]; omega
  rw [List.set_append_right _ _ (by omega), hlen, Nat.sub_self, List.drop_eq_getElem_cons hl, List.set_cons_zero, List.take_succ_eq_append_getElem hl, he, List.map_append, List.append_assoc]
  rfl
theorem closeL_at {q en : Int} {ms : List Mb} {ep : Int} {L : List Mot} {j : Nat} {m : Mot} (h : L[j]? = some m) :
    ((L.take j).map (closeM q en ms ep) ++ L.drop j)[j]? = some m := by
  obtain ⟨hl, he⟩ := List.getElem?_eq_some_iff.1 h
  have hlen : ((L.take j).map (closeM q en ms ep)).length = j := by rw [List.length_map, List.length_take]; omega
  rw [List.getElem?_append_right (by omega), hlen, Nat.sub_self, List.getElem?_drop, Nat.add_zero, h]
theorem i64_wrap_ok (z : Int) : i64ok (wrap64 z) := by
  unfold i64ok wrap64
  omega
/-- A call that answers motions. -/
def RetM (w : World) (L : List Mot) (e : Ending) (w' : World) : Prop := ∃ A n c xs, e = .returned (.slice A n c) ∧ xs.length = n ∧ ML w' A xs ∧ xs.map (·.1) = L ∧ (A = none → c = 0) ∧ Below w.heap.size w w'
theorem stateC_ok' {m : Mot} (h : m.Ok) {s : Int} (hs : i64ok s) : ({ m with state := s } : Mot).Ok := ⟨h.account, h.what, h.dest, h.amount, h.ends, h.due, hs, h.par, h.yes, h.no⟩
theorem dueC_ok' {m : Mot} (h : m.Ok) {s : Int} (hs : i64ok s) : ({ m with due := s } : Mot).Ok := ⟨h.account, h.what, h.dest, h.amount, h.ends, hs, h.state, h.par, h.yes, h.no⟩
theorem cntT_size (ms : List Mb) (ys ns : List Nat) (n : Nat) : (cntT ms ys ns n).size = 3 := by unfold cntT; split <;> rfl
theorem cntT_one (ms : List Mb) (ys ns : List Nat) (n : Nat) : allOne (cntT ms ys ns n) = true := by
  unfold cntT; split
  · exact allOne3 _ _ _ _ _ _
  · exact allOne3 _ _ _ _ _ _
attribute [go_sem] cntT_size cntT_one
theorem fit_lt' (a : Nat) : fit a < 18446744073709551616 := by
  unfold fit
  split
  · rename_i h; have h' : a ≤ 18446744073709551615 := h; omega
  · omega
theorem size_drew9 (w : World) : w.drew.heap.size = w.heap.size := rfl
theorem run_store_agg3 {P : Program} (T : TypeId) (n : Nat) (hi : (P.info? T).map (·.size) = some n)
    {ρ : Operand → Value} {dst : Option Tmp} {x y : Operand} {ty : TypeId} {pos : String} {after : Array Edge} {gd : Option (Nat × Bool)} {w : World}
    (h1 : ρ x = .pointer (some ⟨blk (ρ x), 0, none⟩)) (h2 : (row w (blk (ρ x))).map (·.size) = some n)
    (h3 : ρ y = .agg (aggOf (ρ y))) (h4 : (aggOf (ρ y)).size = n) (h5 : allOne (aggOf (ρ y)) = true) :
    (execOp ρ ⟨dst, .store T x y, ty, pos, after, gd⟩).run P w = .ok .skip (w.setRow (blk (ρ x)) (aggOf (ρ y))) := by
  obtain ⟨cs, hc, hs⟩ := Option.map_eq_some_iff.1 h2
  obtain ⟨t, ht⟩ := row_heap hc
  generalize blk (ρ x) = g at *
  generalize aggOf (ρ y) = new at *
  unfold execOp
  simp only [h1, h3, Instr.storeAt, Instr.sureAddr, Sem.run_bind, Sem.run_pure, Result.andThen_ok, run_storeVar_row w g t T cs new ht (by rw [hi, h4]) (by omega) h5]
theorem tal_run_store {ρ : Operand → Value} {dst : Option Tmp} {x y : Operand} {ty : TypeId} {pos : String} {after : Array Edge} {gd : Option (Nat × Bool)} {w : World}
    (h1 : ρ x = .pointer (some ⟨blk (ρ x), 0, none⟩)) (h2 : (row w (blk (ρ x))).map (·.size) = some 3)
    (h3 : ρ y = .agg (aggOf (ρ y))) (h4 : (aggOf (ρ y)).size = 3) (h5 : allOne (aggOf (ρ y)) = true) :
    (execOp ρ ⟨dst, .store 183 x y, ty, pos, after, gd⟩).run Try.prog w = .ok .skip (w.setRow (blk (ρ x)) (aggOf (ρ y))) := run_store_agg3 _ 3 tal_info h1 h2 h3 h4 h5
attribute [go_sem ↓] tal_run_store
set_option maxRecDepth 100000 in
set_option maxHeartbeats 8000000 in
theorem mclose_any (p : Par) (A : Option Addr) (n c : Nat) (xs : List (Mot × MotA)) (A1 : Option Addr) (n1 c1 : Nat) (ms : List Mb) (ep : Int) (hp : p.Ok) (hep : i64ok ep) (hn : xs.length = n) (h0 : A = none → c = 0) (hm : n ≤ 1000) (hn1 : ms.length = n1) (hm1 : n1 ≤ 50000) (hok : ∀ m ∈ ms, m.Ok) (w : World) (hX : ML w A xs) (hU : SliceOf 6 Mb.cells w A1 ms) (hf : ∀ x ∈ xs, x.1.yes.length ≤ 1000000 ∧ x.1.no.length ≤ 1000000) :
    Calls Try.prog 44 #[.agg p.cells, .slice A n c, .slice A1 n1 c1, .int .i64 ep] w (RetM w (closeL p.quorum p.enact ms ep (xs.map (·.1)))) := by
  have r0 : row (w.alloc (.cells p.cells 76)) w.heap.size = some p.cells := (by (repeat (first | assumption | (refine row_at _ _ _ _ ?_; first | rfl | (simp only [World.size_alloc]; done) | (simp only [World.size_alloc]; omega)) | (refine (row_past _ _ _ ?_).trans ?_; (focus (first | exact Nat.lt_succ_self _ | ((repeat rw [World.size_alloc]); omega) | (simp; done) | (simp; omega) | omega))) | rw [row_drewN] | rw [row_drew])); (first | done | fail))
  have hB0 : Below w.heap.size w (w.alloc (.cells p.cells 76)) := (by (repeat (first | exact Below.refl _ _ | assumption | (refine Below.allocT ?_ _) | refine Below.drew ?_ | refine below_drewN ?_ _ | (refine Below.then ?_ (by assumption)) | (refine Below.setRow ?_ ?_ _; rotate_left; (focus (first | exact Nat.lt_succ_self _ | ((repeat rw [World.size_alloc]); omega) | (simp; done) | (simp; omega) | omega))) | (refine Below.setCell ?_ ?_ _; rotate_left; (focus (first | exact Nat.lt_succ_self _ | ((repeat rw [World.size_alloc]); omega) | (simp; done) | (simp; omega) | omega))) | (refine Below.then' ?_ (by assumption) ?_; rotate_left; (focus (first | exact Nat.lt_succ_self _ | ((repeat rw [World.size_alloc]); omega) | (simp; done) | (simp; omega) | omega))) | fail)); (first | done | fail))
  have HOwn := Lib.hid (mown_any A n c xs hn h0 (by omega) _ (hX.stay hB0) hf)
  generalize hL : xs.map (·.1) = L at *
  have HLn : Hid (L.length = n) := Lib.hid (by rw [← hL, List.length_map]; exact hn)
  have HU := Lib.hid hU
  have HN1 := Lib.hid hn1
  have HOk := Lib.hid hok
  have HP := Lib.hid hp
  have HEp := Lib.hid hep
  clear hX hU hf h0 hn hL hn1 hok hp hep
  go_enter Try.func44, Try.ntmps44
  go_upto_region 1 with fail
  generalize w.alloc (.cells p.cells 76) = w0 at *
  have HB0 := Lib.hid hB0
  have HR0 := Lib.hid r0
  clear hB0 r0
  go_wp2_with fail
  refine (HOwn.out).mono ?_
  rintro e w1 ⟨hb1, (⟨hnil, A1', c1', rfl, hz1, _, hO1⟩ | ⟨g, n', cap, ys, rfl, hMO, hys⟩)⟩
  · have HB1 := Lib.hid (Below.then HB0.out hb1)
    have hEnd : RetM w (closeL p.quorum p.enact ms ep L) (.returned (.slice A1' 0 c1')) w1 := ⟨A1', 0, c1', [], rfl, rfl, ML.nil _ _, by rw [hnil]; rfl, hz1, HB1.out⟩
    have HEnd := Lib.hid hEnd
    clear hnil hz1 hO1 hEnd hb1
    go_wp2_with fail
    go_loopw [18] (fun i wr => i = .int .i64 0 ∧ wr = w1) (fun i _ => 0)
    case atStart => exact ⟨rfl, rfl⟩
    case round =>
      obtain ⟨rfl, rfl⟩ := hrel
      go_wp2_with fail
      go_ret
      exact HEnd.out
  · have hn' : n' = n := by
      have h1 := hMO.own.num
      have h2 := congrArg List.length hys
      rw [List.length_map] at h2
      have h3 := HLn.out
      omega
    subst hn'
    have hg0 : w.heap.size < g := by
      have h1 := hMO.own.inBlock.1
      have h2 := row_lt HR0.out
      omega
    have hw0 : w.heap.size < w0.heap.size := row_lt HR0.out
    have HM1 : Hid (MO w1 w0.heap.size g n' cap ys ∧ ys.map (·.1) = L ∧ Below w.heap.size w w1 ∧ row w1 w.heap.size = some p.cells) := Lib.hid ⟨hMO, hys, Below.then HB0.out hb1, below_row' hb1 HR0.out⟩
    clear hMO hys hb1 HOwn
    go_wp2_with fail
    go_loopw [18] (fun i wr => ∃ (j : Nat) (zs : List (Mot × MotA)), i = .int .i64 j ∧ j ≤ n' ∧ Hid (MO wr w0.heap.size g n' cap zs ∧ zs.map (·.1) = (L.take j).map (closeM p.quorum p.enact ms ep) ++ L.drop j ∧ Below w.heap.size w wr ∧ row wr w.heap.size = some p.cells)) (fun i _ => n' - (intOf i).toNat)
    case atStart => exact ⟨0, ys, rfl, by omega, Lib.hid ⟨HM1.out.1, by rw [HM1.out.2.1, List.take_zero]; rfl, HM1.out.2.2⟩⟩
    case round =>
      obtain ⟨j, zs, rfl, hj, hH⟩ := hrel
      clear HM1
      by_cases hlt : j < n'
      · obtain ⟨m, hLj⟩ : ∃ m, L[j]? = some m := ⟨_, List.getElem?_eq_getElem (by rw [HLn.out]; exact hlt)⟩
        have hat := closeL_at (q := p.quorum) (en := p.enact) (ms := ms) (ep := ep) hLj
        rw [← hH.out.2.1, List.getElem?_map] at hat
        obtain ⟨⟨m', a⟩, hx, hm'⟩ := Option.map_eq_some_iff.1 hat
        obtain rfl : m' = m := hm'
        have HXj := Lib.hid hx
        have HStep := Lib.hid (closeL_step (q := p.quorum) (en := p.enact) (ms := ms) (ep := ep) hLj)
        have hMO := hH.out.1
        have hmem := List.mem_of_getElem? hx
        have hmok := hMO.ok _ hmem
        have HMok := Lib.hid hmok
        obtain ⟨hat1, hab⟩ := hMO.at_ _ hmem
        have HAt := Lib.hid (And.intro hat1 hab)
        have k30 : wr.cell? ⟨g, j * 33 + 30, none⟩ = some (.int .i64 m'.state) := hMO.own.cellAt motC_size hx (i := 30) rfl
        have k28 : wr.cell? ⟨g, j * 33 + 28, none⟩ = some (.int .i64 m'.ends) := hMO.own.cellAt motC_size hx (i := 28) rfl
        have z1 : (0 : Int) ≤ (j : Int) := by omega
        have z2 : (j : Int) < (n' : Int) := by omega
        clear hat hx hLj hMO hmem hmok hat1 hab
        by_cases hs : m'.state = 1 ∧ m'.ends ≤ ep
        case neg =>
          have HC : Hid (closeM p.quorum p.enact ms ep m' = m') := Lib.hid (by unfold closeM; rw [if_neg hs])
          have HNext : Hid (MO wr w0.heap.size g n' cap zs ∧ zs.map (·.1) = (L.take (j + 1)).map (closeM p.quorum p.enact ms ep) ++ L.drop (j + 1) ∧ Below w.heap.size w wr ∧ row wr w.heap.size = some p.cells) := Lib.hid ⟨hH.out.1, by
            rw [← HStep.out, HC.out, ← hH.out.2.1]
            refine List.ext_getElem? fun k => ?_
            rw [List.getElem?_set]
            split
            · rename_i hk; subst hk
              split
              · rw [List.getElem?_map, HXj.out]; rfl
              · rename_i hk
                rw [List.getElem?_eq_none (by omega)]
            · rfl, hH.out.2.2⟩
          by_cases h1 : m'.state = 1
          · have e1 : (m'.state != 1) = false := bne_eq_false_iff_eq.2 h1
            have e2 : ep < m'.ends := by have : ¬ m'.ends ≤ ep := fun h => hs ⟨h1, h⟩; omega
            clear h1 hs k30
            have k30 : wr.cell? ⟨g, j * 33 + 30, none⟩ = some (.int .i64 m'.state) := hH.out.1.own.cellAt motC_size HXj.out (i := 30) rfl
            go_wp2_with fail
            exact ⟨⟨j + 1, zs, by go_num, by omega, HNext⟩, by simp [intOf]; omega⟩
          · have e1 : (m'.state != 1) = true := bne_iff_ne.2 h1
            clear h1 hs
            go_wp2_with fail
            exact ⟨⟨j + 1, zs, by go_num, by omega, HNext⟩, by simp [intOf]; omega⟩
        case pos =>
        obtain ⟨hs1, hs2⟩ := hs
        have e1 : (m'.state != 1) = false := bne_eq_false_iff_eq.2 hs1
        have e2 : ¬ ep < m'.ends := by omega
        have HC : Hid (closeM p.quorum p.enact ms ep m' = if okC p.quorum ms m' then { m' with state := 2, due := dueV ep p.enact } else { m' with state := 4 }) := Lib.hid (by unfold closeM; rw [if_pos ⟨hs1, hs2⟩])
        clear hs1 hs2
        have HCnt : Hid (∀ W, Below wr.heap.size wr W → Calls Try.prog 104 #[.slice A1 n1 c1, .slice a.a1 m'.yes.length a.c1, .slice a.a2 m'.no.length a.c2] W fun e w' => e = .returned (.tuple #[.agg (cntT ms m'.yes m'.no n1), .int .i64 (toldE (total (selL ms (fun _ => true) n1)))]) ∧ Below W.heap.size W w') := Lib.hid fun W h =>
          bcount_any A1 a.a1 a.a2 n1 c1 _ a.c1 _ a.c2 ms m'.yes m'.no HN1.out hm1 (fun m hm => (HOk.out m hm).s.eff) rfl HMok.out.yes.1 rfl HMok.out.no.1 W (HU.out.below (Below.then hH.out.2.2.1 h) (Nat.le_refl _)) (HAt.out.1.yes.below h (Nat.le_refl _)) (HAt.out.1.no.below h (Nat.le_refl _))
        have HSt : Hid (∀ (s : Int) W, i64ok s → MO W w0.heap.size g n' cap zs → MO (W.setCell ⟨g, j * 33 + 30, none⟩ (.int .i64 s)) w0.heap.size g n' cap (zs.set j ({ m' with state := s }, a))) := Lib.hid fun s W hs h => by
          obtain ⟨ha, hab⟩ := h.at_ _ (List.mem_of_getElem? HXj.out)
          exact h.setAt (x' := ({ m' with state := s }, a)) HXj.out (i := 30) (by omega) (u := .int .i64 s) rfl ⟨⟨ha.yes, ha.no, ha.n1, ha.n2⟩, hab⟩ (stateC_ok' HMok.out hs)
        have HFar : Hid (∀ q u W, Below w.heap.size w W → row W w.heap.size = some p.cells → Below w.heap.size w (W.setCell ⟨g, q, none⟩ u) ∧ row (W.setCell ⟨g, q, none⟩ u) w.heap.size = some p.cells) := Lib.hid fun q u W h1 h2 => ⟨Below.setCell h1 (p := ⟨g, q, none⟩) (Nat.le_of_lt hg0) _, (row_far W ⟨g, q, none⟩ u _ (Nat.ne_of_lt hg0)).trans h2⟩
        have HFail : Hid (closeM p.quorum p.enact ms ep m' = { m' with state := 4 } → ∀ W, Below wr.heap.size wr W → MO (W.setCell ⟨g, j * 33 + 30, none⟩ (.int .i64 4)) w0.heap.size g n' cap (zs.set j ({ m' with state := 4 }, a)) ∧ (zs.set j ({ m' with state := 4 }, a)).map (·.1) = (L.take (j + 1)).map (closeM p.quorum p.enact ms ep) ++ L.drop (j + 1) ∧ Below w.heap.size w (W.setCell ⟨g, j * 33 + 30, none⟩ (.int .i64 4)) ∧ row (W.setCell ⟨g, j * 33 + 30, none⟩ (.int .i64 4)) w.heap.size = some p.cells) := Lib.hid fun hc W h => by
          obtain ⟨h1, h2⟩ := HFar.out (j * 33 + 30) (.int .i64 4) W (Below.then hH.out.2.2.1 h) (below_row' h hH.out.2.2.2)
          exact ⟨HSt.out 4 W (by unfold i64ok; omega) (hH.out.1.stay h), by rw [map_set_new, hH.out.2.1, ← HStep.out, hc], h1, h2⟩
        have k31 : wr.cell? ⟨g, j * 33 + 31, none⟩ = some (.slice a.a1 m'.yes.length a.c1) := hH.out.1.own.cellAt motC_size HXj.out (i := 31) rfl
        have k32 : wr.cell? ⟨g, j * 33 + 32, none⟩ = some (.slice a.a2 m'.no.length a.c2) := hH.out.1.own.cellAt motC_size HXj.out (i := 32) rfl
        go_upto_region 7 with fail
        go_cut [12, 13] (fun s12 s13 wx => ∃ (V : World) (gT : Nat), s12 = .pointer (some ⟨gT, 0, none⟩) ∧ s13 = .int .i64 (toldE (total (selL ms (fun _ => true) n1))) ∧ V = wx ∧ Below wr.heap.size wr V ∧ row V gT = some (cntT ms m'.yes m'.no n1))
        case first =>
          have HM : Hid (∀ W, Below wr.heap.size wr W → W.cell? ⟨g, j * 33 + 31, none⟩ = some (.slice a.a1 m'.yes.length a.c1) ∧ W.cell? ⟨g, j * 33 + 32, none⟩ = some (.slice a.a2 m'.no.length a.c2)) := Lib.hid fun W h => ⟨(hH.out.1.stay h).own.cellAt motC_size HXj.out (i := 31) rfl, (hH.out.1.stay h).own.cellAt motC_size HXj.out (i := 32) rfl⟩
          go_region_held3 (fun W => W.cell? ⟨g, j * 33 + 31, none⟩ = some (.slice a.a1 m'.yes.length a.c1) ∧ W.cell? ⟨g, j * 33 + 32, none⟩ = some (.slice a.a2 m'.no.length a.c2)) (exact HM.out _ (by (repeat (first | exact Below.refl _ _ | assumption | (refine Below.allocT ?_ _) | refine Below.drew ?_ | refine below_drewN ?_ _ | (refine Below.then ?_ (by assumption)) | (refine Below.setRow ?_ ?_ _; rotate_left; (focus (first | exact Nat.lt_succ_self _ | ((repeat rw [World.size_alloc]); omega) | (simp; done) | (simp; omega) | omega))) | (refine Below.setCell ?_ ?_ _; rotate_left; (focus (first | exact Nat.lt_succ_self _ | ((repeat rw [World.size_alloc]); omega) | (simp; done) | (simp; omega) | omega))) | (refine Below.then' ?_ (by assumption) ?_; rotate_left; (focus (first | exact Nat.lt_succ_self _ | ((repeat rw [World.size_alloc]); omega) | (simp; done) | (simp; omega) | omega))) | fail)); (first | done | fail))) (first | (go_at_call 104; refine (HCnt.out _ (by (repeat (first | exact Below.refl _ _ | assumption | (refine Below.allocT ?_ _) | refine Below.drew ?_ | refine below_drewN ?_ _ | (refine Below.then ?_ (by assumption)) | (refine Below.setRow ?_ ?_ _; rotate_left; (focus (first | exact Nat.lt_succ_self _ | ((repeat rw [World.size_alloc]); omega) | (simp; done) | (simp; omega) | omega))) | (refine Below.setCell ?_ ?_ _; rotate_left; (focus (first | exact Nat.lt_succ_self _ | ((repeat rw [World.size_alloc]); omega) | (simp; done) | (simp; omega) | omega))) | (refine Below.then' ?_ (by assumption) ?_; rotate_left; (focus (first | exact Nat.lt_succ_self _ | ((repeat rw [World.size_alloc]); omega) | (simp; done) | (simp; omega) | omega))) | fail)); (first | done | fail))).mono ?_; rintro e w5 ⟨rfl, hb5⟩; (try (have hx5 : (row w5 wr.heap.size).map (·.size) = some 3 := (congrArg (Option.map (·.size)) (row_below hb5 (show wr.heap.size < _ from by first | exact Nat.lt_succ_self _ | (simp; done) | omega | (simp only [World.size_alloc, size_drew9]; omega)))).trans (congrArg (Option.map (·.size)) (show row _ wr.heap.size = some #[.int .u64 0, .int .u64 0, .int .u64 0] from (by (repeat (first | assumption | (refine row_at _ _ _ _ ?_; first | rfl | (simp only [World.size_alloc]; done) | (simp only [World.size_alloc]; omega)) | (refine (row_past _ _ _ ?_).trans ?_; (focus (first | exact Nat.lt_succ_self _ | ((repeat rw [World.size_alloc]); omega) | (simp; done) | (simp; omega) | omega))) | rw [row_drewN] | rw [row_drew])); (first | done | fail))))))))
          all_goals
            go_wp2_with fail
            go_meet
            first
              | exact ⟨_, _, rfl, rfl, rfl, (by (repeat (first | exact Below.refl _ _ | assumption | (refine Below.allocT ?_ _) | refine Below.drew ?_ | refine below_drewN ?_ _ | (refine Below.then ?_ (by assumption)) | (refine Below.setRow ?_ ?_ _; rotate_left; (focus (first | exact Nat.lt_succ_self _ | ((repeat rw [World.size_alloc]); omega) | (simp; done) | (simp; omega) | omega))) | (refine Below.setCell ?_ ?_ _; rotate_left; (focus (first | exact Nat.lt_succ_self _ | ((repeat rw [World.size_alloc]); omega) | (simp; done) | (simp; omega) | omega))) | (refine Below.then' ?_ (by assumption) ?_; rotate_left; (focus (first | exact Nat.lt_succ_self _ | ((repeat rw [World.size_alloc]); omega) | (simp; done) | (simp; omega) | omega))) | fail)); (first | done | fail)), row_at _ _ _ _ rfl⟩
              | exact ⟨_, _, rfl, rfl, rfl, (by (repeat (first | exact Below.refl _ _ | assumption | (refine Below.allocT ?_ _) | refine Below.drew ?_ | refine below_drewN ?_ _ | (refine Below.then ?_ (by assumption)) | (refine Below.setRow ?_ ?_ _; rotate_left; (focus (first | exact Nat.lt_succ_self _ | ((repeat rw [World.size_alloc]); omega) | (simp; done) | (simp; omega) | omega))) | (refine Below.setCell ?_ ?_ _; rotate_left; (focus (first | exact Nat.lt_succ_self _ | ((repeat rw [World.size_alloc]); omega) | (simp; done) | (simp; omega) | omega))) | (refine Below.then' ?_ (by assumption) ?_; rotate_left; (focus (first | exact Nat.lt_succ_self _ | ((repeat rw [World.size_alloc]); omega) | (simp; done) | (simp; omega) | omega))) | fail)); (first | done | fail)), row_setRow (Option.map_eq_some_iff.1 hx5).choose_spec.1⟩
        case rest =>
          obtain ⟨V, gT, rfl, rfl, rfl, hBV, rT⟩ := hcut
          have HBV := Lib.hid hBV
          have hMV := hH.out.1.stay hBV
          have HMV := Lib.hid hMV
          have kV : V.cell? ⟨g, j * 33 + 30, none⟩ = some (.int .i64 m'.state) := hMV.own.cellAt motC_size HXj.out (i := 30) rfl
          have kD : V.cell? ⟨g, j * 33 + 29, none⟩ = some (.int .i64 m'.due) := hMV.own.cellAt motC_size HXj.out (i := 29) rfl
          have hfr := hMV.own.free (j * 33 + 30)
          have hfd := hMV.own.free (j * 33 + 29)
          have HOC : Hid (okC p.quorum ms m' = (decide (total (selL ms (fun _ => true) n1) ≤ 18446744073709551615) && passB p.quorum (fit (total (selL ms (fun k => getB m'.yes k) n1))) (fit (total (selL ms (fun k => getB m'.no k) n1))) (total (selL ms (fun _ => true) n1)))) := Lib.hid (by unfold okC actN votN; rw [HN1.out])
          have hcnt : cntT ms m'.yes m'.no n1 = if total (selL ms (fun _ => true) n1) ≤ 18446744073709551615 then #[.int .u64 ((fit (total (selL ms (fun k => getB m'.yes k) n1)) : Nat) : Int), .int .u64 ((fit (total (selL ms (fun k => getB m'.no k) n1)) : Nat) : Int), .int .u64 ((total (selL ms (fun _ => true) n1) : Nat) : Int)] else #[.int .u64 0, .int .u64 0, .int .u64 0] := rfl
          generalize cntT ms m'.yes m'.no n1 = cnt at *
          generalize total (selL ms (fun _ => true) n1) = act at *
          generalize total (selL ms (fun k => getB m'.yes k) n1) = vy at *
          generalize total (selL ms (fun k => getB m'.no k) n1) = vn at *
          have hvy : fit vy < 18446744073709551616 := fit_lt' vy
          have hvn : fit vn < 18446744073709551616 := fit_lt' vn
          generalize fit vy = fy at *
          generalize fit vn = fn at *
          clear hMV hBV k30 k28 k31 k32 HCnt
          by_cases hact : act ≤ 18446744073709551615
          case neg =>
            have hT : toldE act = 10 := by unfold toldE; rw [if_neg (show ¬ act ≤ mostN from hact)]
            have HN' := Lib.hid (HFail.out (by rw [HC.out, HOC.out, decide_eq_false hact]; rfl) V HBV.out)
            rw [hT]
            clear hT hact rT hcnt
            go_wp2_with fail
            exact ⟨⟨j + 1, _, by go_num, by omega, HN'⟩, by simp [intOf]; omega⟩
          case pos =>
          have hT : toldE act = 0 := by unfold toldE; rw [if_pos (show act ≤ mostN from hact)]
          rw [if_pos hact] at hcnt
          rw [hcnt] at rT
          have HO2 : Hid (okC p.quorum ms m' = passB p.quorum fy fn act) := Lib.hid (by rw [HOC.out, decide_eq_true hact]; rfl)
          have HPs := Lib.hid (fun W => bpasses_any p fy fn act hvy hvn (by omega) HP.out.quorum W)
          have rP := below_row' HBV.out hH.out.2.2.2
          rw [hT]
          clear hT hcnt hact HOC kD hfd
          cases hpb : passB p.quorum fy fn act
          case false =>
            rw [hpb] at HPs HO2
            have HF' := Lib.hid (HFail.out (by rw [HC.out, HO2.out]; rfl))
            go_wp2_with fail
            refine (HPs.out _).mono ?_
            rintro e w7 ⟨rfl, hb7⟩
            have HN' := Lib.hid (HF'.out w7 (Below.then HBV.out hb7))
            have hM7 := HMV.out.stay hb7
            have k7 : w7.cell? ⟨g, j * 33 + 30, none⟩ = some (.int .i64 m'.state) := hM7.own.cellAt motC_size HXj.out (i := 30) rfl
            have f7 := hM7.own.free (j * 33 + 30)
            clear hM7 hb7 rT rP kV hfr
            go_wp2_with fail
            exact ⟨⟨j + 1, _, by go_num, by omega, HN'⟩, by simp [intOf]; omega⟩
          case true =>
          rw [hpb] at HPs HO2
          go_wp2_with fail
          refine (HPs.out _).mono ?_
          rintro e w7 ⟨rfl, hb7⟩
          have hM7 := HMV.out.stay hb7
          have HM7 := Lib.hid hM7
          have H07 := Lib.hid (Below.then HBV.out hb7)
          have k7 : w7.cell? ⟨g, j * 33 + 30, none⟩ = some (.int .i64 m'.state) := hM7.own.cellAt motC_size HXj.out (i := 30) rfl
          have d7 : w7.cell? ⟨g, j * 33 + 29, none⟩ = some (.int .i64 m'.due) := hM7.own.cellAt motC_size HXj.out (i := 29) rfl
          have f7 := hM7.own.free (j * 33 + 30)
          have f8 := hM7.own.free (j * 33 + 29)
          have rP7 := below_row' hb7 rP
          clear hM7 hb7 rT rP kV hfr
          go_upto_region 11 with fail
          refine of_world (fun W => MO W w0.heap.size g n' cap (zs.set j ({ m' with state := 2 }, a)) ∧ Below w.heap.size w W ∧ row W w.heap.size = some p.cells) ⟨HSt.out 2 w7 (by unfold i64ok; omega) HM7.out, HFar.out (j * 33 + 30) (.int .i64 2) w7 (Below.then hH.out.2.2.1 H07.out) rP7⟩ ?_
          rintro w8 ⟨hM8, hB8, rP8⟩
          have hjl : j < zs.length := by rw [← hH.out.1.own.num]; exact hlt
          have hx8 : (zs.set j (({ m' with state := 2 } : Mot), a))[j]? = some (({ m' with state := 2 } : Mot), a) := by rw [List.getElem?_set]; simp [hjl]
          have k8 : w8.cell? ⟨g, j * 33 + 29, none⟩ = some (.int .i64 m'.due) := hM8.own.cellAt motC_size hx8 (i := 29) rfl
          have f9 := hM8.own.free (j * 33 + 29)
          have c22 : w8.cell? ⟨w.heap.size, 22, none⟩ = some (.int .i64 p.enact) := row_cell rP8 22
          have HN' : Hid (MO (w8.setCell ⟨g, j * 33 + 29, none⟩ (.int .i64 (dueV ep p.enact))) w0.heap.size g n' cap (zs.set j ({ m' with state := 2, due := dueV ep p.enact }, a)) ∧ (zs.set j ({ m' with state := 2, due := dueV ep p.enact }, a)).map (·.1) = (L.take (j + 1)).map (closeM p.quorum p.enact ms ep) ++ L.drop (j + 1) ∧ Below w.heap.size w (w8.setCell ⟨g, j * 33 + 29, none⟩ (.int .i64 (dueV ep p.enact))) ∧ row (w8.setCell ⟨g, j * 33 + 29, none⟩ (.int .i64 (dueV ep p.enact))) w.heap.size = some p.cells) := Lib.hid (by
            obtain ⟨ha, hab⟩ := hM8.at_ _ (List.mem_of_getElem? hx8)
            have h1 := hM8.setAt (x' := ({ m' with state := 2, due := dueV ep p.enact }, a)) hx8 (i := 29) (by omega) (u := .int .i64 (dueV ep p.enact)) rfl ⟨⟨ha.yes, ha.no, ha.n1, ha.n2⟩, hab⟩ (dueC_ok' (stateC_ok' (s := 2) HMok.out (by unfold i64ok; omega)) (i64_wrap_ok _))
            rw [List.set_set] at h1
            obtain ⟨h2, h3⟩ := HFar.out (j * 33 + 29) (.int .i64 (dueV ep p.enact)) w8 hB8 rP8
            exact ⟨h1, by rw [map_set_new, hH.out.2.1, ← HStep.out, HC.out, HO2.out]; rfl, h2, h3⟩)
          unfold dueV at HN'
          clear hx8 hM8 hB8 rP8 k7 d7 f7 f8 rP7
          go_wp2_with fail
          exact ⟨⟨j + 1, _, by go_num, by omega, HN'⟩, by simp [intOf]; omega⟩
      · obtain rfl : j = n' := by omega
        have hEnd : RetM w (closeL p.quorum p.enact ms ep L) (.returned (.slice (some ⟨g, 0, none⟩) j cap)) wr := ⟨_, j, cap, zs, rfl, hH.out.1.own.num.symm, hH.out.1.ml, by
          rw [hH.out.2.1]
          unfold closeL
          rw [List.take_of_length_le (by rw [HLn.out]; exact Nat.le_refl _), List.drop_eq_nil_of_le (by rw [HLn.out]; exact Nat.le_refl _), List.append_nil], (fun h => by cases h), hH.out.2.2.1⟩
        have HEnd := Lib.hid hEnd
        clear hEnd
        go_wp2_with fail
        go_ret
        exact HEnd.out
end Go.Proofs.Ytnakkjgnjffkpaa
