/-
  A plate's power comes back; a sector is read.
-/
import Derived.Test.YtkkncijbedfdfaaPlate4
namespace Go.Proofs.Ytkkncijbedfdfaa
open Go.RowKit
set_option linter.unusedVariables false

theorem upL_snoc (keep : List Bool) : ∀ (P : List (Nat × Sec)) (k : Nat) (S : List Sec) (e : Nat × Sec), upL keep k S (P ++ [e]) = if keep.getD (k + P.length) false then landS (upL keep k S P) e else upL keep k S P
  | [], k, S, e => by simp [upL]
  | x :: r, k, S, e => by
    rw [List.cons_append, upL, upL_snoc keep r, upL, List.length_cons, Nat.add_right_comm, Nat.add_assoc]
theorem upL_take (keep : List Bool) (S : List Sec) (l : List (Nat × Sec)) (j : Nat) (e : Nat × Sec) (h : l[j]? = some e) : upL keep 0 S (l.take (j + 1)) = if keep.getD j false then landS (upL keep 0 S (l.take j)) e else upL keep 0 S (l.take j) := by
  obtain ⟨hi, rfl⟩ := List.getElem?_eq_some_iff.1 h
  rw [List.take_succ_eq_append_getElem hi, upL_snoc, List.length_take, Nat.zero_add, Nat.min_eq_left (by omega)]
set_option maxRecDepth 100000 in
set_option maxHeartbeats 4000000 in
theorem up_any (g gs : Nat) (pv : Value) (A : Option Addr) (c : Nat) (s : Ps) (w : World) (h : PlAt w g gs pv A c s) :
    Calls Try.prog 18 #[.pointer (some ⟨g, 0, none⟩)] w fun e w' => e = .returned (.tuple #[]) ∧ PlTo w (PS g gs pv A) g s.up w' := by
  have HI := Lib.hid (is_yes g gs pv A c s w h)
  obtain ⟨Ap, cp, hpv, hSl, _, _⟩ := h.pend.form entC_size
  have k1 : w.cell? ⟨g, 1, none⟩ = some (.slice Ap s.pend.length cp) := (h.cells 1).trans (by rw [← hpv]; rfl)
  have H1 := Lib.hid h
  have HSl := Lib.hid hSl
  have HPv := Lib.hid hpv
  clear h hSl hpv
  generalize hn : s.pend.length = n at *
  have HN := Lib.hid hn
  clear hn
  go_enter Try.func18, Try.ntmps18
  go_wp2_with fail
  refine (HI.out).mono ?_
  rintro e w1 ⟨rfl, rfl⟩
  go_wp2_with fail
  go_loopw [12] (fun i wr => ∃ j : Nat, i = .int .i64 j ∧ j ≤ n ∧ Hid (PlAt wr g gs pv A c { s with sure := upL s.keep 0 s.sure (s.pend.take j) } ∧ Chg (fun x => x = gs) w wr)) (fun i _ => n - (intOf i).toNat)
  case atStart => exact ⟨0, rfl, by omega, Lib.hid ⟨H1.out, Chg.refl _ _⟩⟩
  case round =>
    obtain ⟨j, rfl, hj, hH⟩ := hrel
    clear k1
    by_cases hlt : j < n
    · obtain ⟨e, hxj⟩ : ∃ e, s.pend[j]? = some e := ⟨_, List.getElem?_eq_getElem (by rw [HN.out]; omega)⟩
      have hok := H1.out.ok.1 e (List.mem_of_getElem? hxj)
      obtain ⟨b, off, rfl, hr⟩ := ent_at (HSl.out.chg hH.out.2 (fun a ha he => H1.out.ne3 ((congrArg Value.ownBlock HPv.out).trans (by rw [ha]; exact congrArg some he)))) hxj
      have hfold := Lib.hid (upL_take s.keep s.sure s.pend j e hxj)
      have hlen1 := upL_len s.keep (s.pend.take j) 0 s.sure
      have HL := Lib.hid (fun W (h : PlAt W g gs pv A c { s with sure := upL s.keep 0 s.sure (s.pend.take j) }) => land_any g gs pv A c _ e (by show e.1 < (upL s.keep 0 s.sure (s.pend.take j)).length; rw [hlen1]; exact hok) W h)
      have hi : (Try.prog.info? 81).map (·.size) = some (Value.int .i64 (e.1 : Int) :: secC e.2).length := by rw [ent_size, List.length_cons, secC_len]
      have z1 : (0 : Int) ≤ (j : Int) := by omega
      have z2 : (j : Int) < (n : Int) := by omega
      have hsz : (Value.int .i64 (e.1 : Int) :: secC e.2).toArray.size = 65 := entC_size e
      have hone : allOne (Value.int .i64 (e.1 : Int) :: secC e.2).toArray = true := entC_one e
      have r4 : row (wr.alloc (.cells (Value.int .i64 (e.1 : Int) :: secC e.2).toArray 81)) wr.heap.size = some (Value.int .i64 (e.1 : Int) :: secC e.2).toArray := row_at _ _ _ _ rfl
      have hr4 : (wr.alloc (.cells (Value.int .i64 (e.1 : Int) :: secC e.2).toArray 81)).rangeAt wr.heap.size 0 (Value.int .i64 (e.1 : Int) :: secC e.2) := fun k v hv => by
        rw [row_cell r4 (0 + k), List.getElem?_toArray, Nat.zero_add]; exact hv
      have P4 := Lib.hid (hH.out.1.stay ((Below.refl _ wr).alloc (Nat.le_refl _) (.cells (Value.int .i64 (e.1 : Int) :: secC e.2).toArray 81)))
      have C4 := Lib.hid (hH.out.2.alloc (.cells (Value.int .i64 (e.1 : Int) :: secC e.2).toArray 81))
      have c4 : (wr.alloc (.cells (Value.int .i64 (e.1 : Int) :: secC e.2).toArray 81)).cell? ⟨g, 4, none⟩ = some (.slice A s.keep.length c) := P4.out.cells 4
      have HK := Lib.hid P4.out.keep
      clear hxj hok hlen1 r4 hH
      by_cases hk : j < s.keep.length
      · obtain ⟨x, hx⟩ : ∃ x, s.keep[j]? = some x := ⟨_, List.getElem?_eq_getElem hk⟩
        obtain ⟨kb, ko, rfl, _, hkx⟩ := HK.out (by show 0 < s.keep.length; omega)
        have hkc : (wr.alloc (.cells (Value.int .i64 (e.1 : Int) :: secC e.2).toArray 81)).cell? ⟨kb, ko + j, none⟩ = some (.bool x) := by
          have := hkx j x hx 0 (.bool x) rfl
          rwa [Nat.mul_one, Nat.add_zero] at this
        have hgd : s.keep.getD j false = x := by rw [List.getD_eq_getElem?_getD, hx]; rfl
        rw [hgd] at hfold
        have z3 : (j : Int) < (s.keep.length : Int) := by omega
        clear hgd hkx hx HK
        cases x
        · have HF2 : Hid (upL s.keep 0 s.sure (s.pend.take (j + 1)) = upL s.keep 0 s.sure (s.pend.take j)) := Lib.hid hfold.out
          clear hfold HL
          go_wp2_with (first | (refine wpList_load_mid rfl 81 _ (by rfl) b (off + j * 65) (by rfl) (Value.int .i64 (e.1 : Int) :: secC e.2) _ hr ent_under rfl hi ?_) | (refine wpList_load_mid rfl 81 _ (by rfl) wr.heap.size 0 (by rfl) (Value.int .i64 (e.1 : Int) :: secC e.2) _ hr4 ent_under rfl hi ?_))
          exact ⟨⟨j + 1, by go_num, by omega, Lib.hid ⟨by rw [HF2.out]; exact P4.out, C4.out⟩⟩, by simp [intOf]; omega⟩
        · have HF2 : Hid (upL s.keep 0 s.sure (s.pend.take (j + 1)) = landS (upL s.keep 0 s.sure (s.pend.take j)) e) := Lib.hid hfold.out
          clear hfold
          go_wp2_with (first | (refine wpList_load_mid rfl 81 _ (by rfl) b (off + j * 65) (by rfl) (Value.int .i64 (e.1 : Int) :: secC e.2) _ hr ent_under rfl hi ?_) | (refine wpList_load_mid rfl 81 _ (by rfl) wr.heap.size 0 (by rfl) (Value.int .i64 (e.1 : Int) :: secC e.2) _ hr4 ent_under rfl hi ?_))
          refine (HL.out _ P4.out).mono ?_
          rintro e' w5 ⟨rfl, hP5, hC5⟩
          have P5 := Lib.hid hP5
          have C5 := Lib.hid (C4.out.andThen hC5 (fun k hk => .inl hk))
          clear hP5 hC5 P4 C4 hr hr4 HL c4 hkc
          go_wp2_with fail
          exact ⟨⟨j + 1, by go_num, by omega, Lib.hid ⟨by rw [HF2.out]; exact P5.out, C5.out⟩⟩, by simp [intOf]; omega⟩
      · have hgd : s.keep.getD j false = false := by rw [List.getD_eq_getElem?_getD, List.getElem?_eq_none (by omega)]; rfl
        rw [hgd] at hfold
        have HF2 : Hid (upL s.keep 0 s.sure (s.pend.take (j + 1)) = upL s.keep 0 s.sure (s.pend.take j)) := Lib.hid hfold.out
        have z3 : ¬ (j : Int) < (s.keep.length : Int) := by omega
        clear hfold HL hgd HK
        go_wp2_with (first | (refine wpList_load_mid rfl 81 _ (by rfl) b (off + j * 65) (by rfl) (Value.int .i64 (e.1 : Int) :: secC e.2) _ hr ent_under rfl hi ?_) | (refine wpList_load_mid rfl 81 _ (by rfl) wr.heap.size 0 (by rfl) (Value.int .i64 (e.1 : Int) :: secC e.2) _ hr4 ent_under rfl hi ?_))
        exact ⟨⟨j + 1, by go_num, by omega, Lib.hid ⟨by rw [HF2.out]; exact P4.out, C4.out⟩⟩, by simp [intOf]; omega⟩
    · obtain rfl : j = n := by omega
      have hPt := hH.out.1
      rw [List.take_of_length_le (by rw [HN.out]; exact Nat.le_refl _)] at hPt
      have f1 := hPt.free 1
      have f2 := hPt.free 2
      have f3 := hPt.free 3
      have f4 := hPt.free 4
      have f5 := hPt.free 5
      have k1 : wr.cell? ⟨g, 1, none⟩ = some (.slice Ap j cp) := (hPt.cells 1).trans (by show some pv = _; rw [HPv.out])
      have k2 := hPt.cells 2
      have k3 := hPt.cells 3
      have k4 := hPt.cells 4
      have k5 := hPt.cells 5
      obtain ⟨hP6, hC6⟩ := hPt.clear (.slice none 0 0) rfl
      have P6 := Lib.hid hP6
      have C6 := Lib.hid (hH.out.2.mono (S' := PS g gs pv A) (fun x hx => .inr (.inl hx)) |>.andThen hC6 (fun x hx => .inl (.inl hx)))
      clear hPt hP6 hC6 hH
      go_wp2_with fail
      go_end0
      have hc7 : Chg (fun x => x = g) (wr.setCell ⟨g, 1, none⟩ (.slice none 0 0)) (((((wr.setCell ⟨g, 1, none⟩ (.slice none 0 0)).setCell ⟨g, 2, none⟩ (.bool false)).setCell ⟨g, 3, none⟩ (.int .i64 0)).setCell ⟨g, 4, none⟩ (.slice none 0 0)).setCell ⟨g, 5, none⟩ (.bool false)) := ((((Chg.refl (fun x => x = g) _).setCell (p := ⟨g, 2, none⟩) (.inl rfl) _).setCell (p := ⟨g, 3, none⟩) (.inl rfl) _).setCell (p := ⟨g, 4, none⟩) (.inl rfl) _).setCell (p := ⟨g, 5, none⟩) (.inl rfl) _
      refine ⟨rfl, gs, .slice none 0 0, none, 0, P6.out.rearm (s' := s.up) hc7 ?_ rfl rfl (SliceOf.nil _ _) (fun a ha => by cases ha) ⟨by simp [Ps.up], P6.out.ok.2.1, by show i64ok 0; unfold i64ok; omega⟩ (by simp [Ps.up]), fun x hx => .inl ?_, C6.out.andThen hc7 (fun k hk => .inl (.inl hk))⟩
      · rw [row_set (row_set (row_set (row_set P6.out.row 2 _) 3 _) 4 _) 5 _]; rfl
      · rcases hx with hx | hx | hx | ⟨a, ha, _⟩
        · exact .inl hx
        · exact .inr (.inl hx)
        · cases hx
        · cases ha
end Go.Proofs.Ytkkncijbedfdfaa
