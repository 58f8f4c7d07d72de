/-
  A sector is read, and written; a plate is made.
-/
import Derived.Test.YtkkncijbedfdfaaPlate5
import Derived.Test.YtkkncijbedfdfaaCoderP
namespace Go.Proofs.Ytkkncijbedfdfaa
open Go.RowKit
set_option linter.unusedVariables false

theorem seen_snoc (i : Nat) : ∀ (P : List (Nat × Sec)) (d : Sec) (e : Nat × Sec), seen i d (P ++ [e]) = if e.1 = i then e.2 else seen i d P
  | [], d, e => by simp [seen]
  | x :: r, d, e => by rw [List.cons_append, seen, seen_snoc i r, seen]
theorem seen_take (i : Nat) (d : Sec) (l : List (Nat × Sec)) (j : Nat) (e : Nat × Sec) (h : l[j]? = some e) : seen i d (l.take (j + 1)) = if e.1 = i then e.2 else seen i d (l.take j) := by
  obtain ⟨hi, rfl⟩ := List.getElem?_eq_some_iff.1 h
  rw [List.take_succ_eq_append_getElem hi, seen_snoc]
theorem sec_bys {W : World} {g : Nat} {d : Sec} (h : row W g = some (secC d).toArray) : Bys W (some ⟨g, 0, none⟩) d.1 := fun hp => by
  refine ⟨g, 0, rfl, row_lt h, fun i hi => ?_⟩
  rw [row_cell h (0 + i), List.getElem?_toArray, Nat.zero_add]
  unfold secC
  rw [List.getElem?_map, List.getD_eq_getElem?_getD, List.getElem?_eq_getElem hi]; rfl
def ReadPost8 (w : World) (d : Sec) (e : Ending) (w' : World) : Prop := ∃ B c, e = .returned (.tuple #[.slice B 64 c, .int .i64 0]) ∧ OwnB w' (.slice B 64 c) d.1 ∧ (∀ a, B = some a → w.heap.size ≤ a.block) ∧ Below w.heap.size w w'
set_option maxRecDepth 100000 in
set_option maxHeartbeats 4000000 in
theorem read_any (g gs : Nat) (pv : Value) (A : Option Addr) (c : Nat) (s : Ps) (i : Nat) (d : Sec) (hd : s.sure[i]? = some d) (hdn : s.down = false) (w : World) (h : PlAt w g gs pv A c s) :
    Calls Try.prog 35 #[.pointer (some ⟨g, 0, none⟩), .int .i64 i] w (ReadPost8 w (seen i d s.pend)) := by
  have HI := Lib.hid (is_yes g gs pv A c s w h)
  have hil := (List.getElem?_eq_some_iff.1 hd).1
  have hfs := h.fews
  have c0 : w.cell? ⟨g, 0, none⟩ = some (.slice (some ⟨gs, 0, none⟩) s.sure.length s.sure.length) := h.cells 0
  have c5 : w.cell? ⟨g, 5, none⟩ = some (.bool false) := (h.cells 5).trans (by rw [← hdn]; rfl)
  obtain ⟨Ap, cp, hpv, hSl, _, _⟩ := h.pend.form entC_size
  have H1 := Lib.hid h
  have HSl := Lib.hid hSl
  have HPv := Lib.hid hpv
  have hr := h.sec i d hd
  have hi64 : (Try.prog.info? 79).map (·.size) = some (secC d).length := by rw [sec_info, secC_len]
  have hsz : (secC d).toArray.size = 64 := by rw [List.size_toArray, secC_len]
  have hone : allOne (secC d).toArray = true := by
    unfold allOne; rw [Array.all_eq_true']; intro v hv; exact secC_one d v (by simpa using hv)
  have r6 : row (w.alloc (.cells (secC d).toArray 79)) w.heap.size = some (secC d).toArray := row_at _ _ _ _ rfl
  have B6 : Below w.heap.size w (w.alloc (.cells (secC d).toArray 79)) := (by (repeat (first | exact Below.refl _ _ | assumption | (refine Below.allocT ?_ _) | refine Below.drew ?_ | refine below_drewN ?_ _ | (refine Below.then ?_ (by assumption)) | (refine Below.setRow ?_ ?_ _; rotate_left; (focus (first | exact Nat.lt_succ_self _ | ((repeat rw [World.size_alloc]); omega) | (simp; done) | (simp; omega) | omega))) | (refine Below.setCell ?_ ?_ _; rotate_left; (focus (first | exact Nat.lt_succ_self _ | ((repeat rw [World.size_alloc]); omega) | (simp; done) | (simp; omega) | omega))) | (refine Below.then' ?_ (by assumption) ?_; rotate_left; (focus (first | exact Nat.lt_succ_self _ | ((repeat rw [World.size_alloc]); omega) | (simp; done) | (simp; omega) | omega))) | fail)); (first | done | fail))
  have k1 : (w.alloc (.cells (secC d).toArray 79)).cell? ⟨g, 1, none⟩ = some (.slice Ap s.pend.length cp) := ((h.stay B6).cells 1).trans (by show some pv = _; rw [hpv])
  have y1 : (0 : Int) ≤ (i : Int) := by omega
  have y2 : (i : Int) < (s.sure.length : Int) := by omega
  have y3 : ¬ (i : Int) < 0 := by omega
  generalize s.sure.length = N at *
  clear h hd hdn hSl hpv
  generalize hn : s.pend.length = n at *
  have HN := Lib.hid hn
  clear hn
  go_enter Try.func35, Try.ntmps35
  go_wp2_with fail
  refine (HI.out).mono ?_
  rintro e w1 ⟨rfl, rfl⟩
  go_wp2_with (refine wpList_load_mid rfl 79 _ (by rfl) gs (i * 64) (by rfl) (secC d) _ hr sec_under rfl hi64 ?_)
  go_loopw [42] (fun q wr => ∃ j : Nat, q = .int .i64 j ∧ j ≤ n ∧ Hid (Below w.heap.size w wr ∧ row wr w.heap.size = some (secC (seen i d (s.pend.take j))).toArray)) (fun q _ => n - (intOf q).toNat)
  case atStart => exact ⟨0, rfl, by omega, Lib.hid ⟨B6, r6⟩⟩
  case round =>
    obtain ⟨j, rfl, hj, hH⟩ := hrel
    clear k1 r6 B6 c0 c5 hr hsz hone
    by_cases hlt : j < n
    · obtain ⟨⟨a, x⟩, hxj⟩ : ∃ e, s.pend[j]? = some e := ⟨_, List.getElem?_eq_getElem (by rw [HN.out]; omega)⟩
      obtain ⟨b, off, rfl, hr⟩ := ent_at (HSl.out.below hH.out.1 (Nat.le_refl _)) hxj
      have hfold := Lib.hid (seen_take i d s.pend j _ hxj)
      have hi : (Try.prog.info? 81).map (·.size) = some (Value.int .i64 (a : Int) :: secC x).length := by rw [ent_size, List.length_cons, secC_len]
      have hix : (Try.prog.info? 79).map (·.size) = some (secC x).length := by rw [sec_info, secC_len]
      have z1 : (0 : Int) ≤ (j : Int) := by omega
      have z2 : (j : Int) < (n : Int) := by omega
      have hsz : (Value.int .i64 (a : Int) :: secC x).toArray.size = 65 := entC_size (a, x)
      have hone : allOne (Value.int .i64 (a : Int) :: secC x).toArray = true := entC_one (a, x)
      have hszx : (secC x).toArray.size = 64 := by rw [List.size_toArray, secC_len]
      have hl64 : (secC x).length = 64 := secC_len x
      have honex : allOne (secC x).toArray = true := by
        unfold allOne; rw [Array.all_eq_true']; intro v hv; exact secC_one x v (by simpa using hv)
      have r8 : row (wr.alloc (.cells (Value.int .i64 (a : Int) :: secC x).toArray 81)) wr.heap.size = some (Value.int .i64 (a : Int) :: secC x).toArray := row_at _ _ _ _ rfl
      have k8 : (wr.alloc (.cells (Value.int .i64 (a : Int) :: secC x).toArray 81)).cell? ⟨wr.heap.size, 0, none⟩ = some (.int .i64 (a : Int)) := row_cell r8 0
      have hr8 : (wr.alloc (.cells (Value.int .i64 (a : Int) :: secC x).toArray 81)).rangeAt wr.heap.size 1 (secC x) := fun k v hv => by
        rw [row_cell r8 (1 + k), List.getElem?_toArray, Nat.add_comm, List.getElem?_cons_succ]; exact hv
      have B8 := Lib.hid (Below.allocT hH.out.1 (.cells (Value.int .i64 (a : Int) :: secC x).toArray 81))
      have r6 : row (wr.alloc (.cells (Value.int .i64 (a : Int) :: secC x).toArray 81)) w.heap.size = some (secC (seen i d (s.pend.take j))).toArray := (row_past _ _ _ (row_lt hH.out.2)).trans hH.out.2
      have hl6 : (secC (seen i d (s.pend.take j))).length = 64 := secC_len _
      clear hxj r8 hH
      generalize seen i d (s.pend.take j) = sd at *
      by_cases heq : a = i
      · subst heq
        rw [if_pos rfl] at hfold
        have r9 := Lib.hid (row_setRow (new := (secC x).toArray) r6)
        have B9 := Lib.hid (Below.setRow B8.out (Nat.le_refl w.heap.size) (secC x).toArray)
        go_wp2_with (first | (refine wpList_load_mid rfl 81 _ (by rfl) b (off + j * 65) (by rfl) (Value.int .i64 (a : Int) :: secC x) _ hr ent_under rfl hi ?_) | (refine wpList_load_mid rfl 79 _ (by rfl) wr.heap.size 1 (by rfl) (secC x) _ hr8 sec_under rfl hix ?_))
        exact ⟨⟨j + 1, by go_num, by omega, Lib.hid ⟨B9.out, by rw [hfold.out]; exact r9.out⟩⟩, by simp [intOf]; omega⟩
      · rw [if_neg heq] at hfold
        have hq : ((a : Int) == (i : Int)) = false := beq_eq_false_iff_ne.2 (by omega)
        have R6 := Lib.hid r6
        clear heq r6 hr8
        go_wp2_with (refine wpList_load_mid rfl 81 _ (by rfl) b (off + j * 65) (by rfl) (Value.int .i64 (a : Int) :: secC x) _ hr ent_under rfl hi ?_)
        exact ⟨⟨j + 1, by go_num, by omega, Lib.hid ⟨B8.out, by rw [hfold.out]; exact R6.out⟩⟩, by simp [intOf]; omega⟩
    · obtain rfl : j = n := by omega
      have hrw := hH.out.2
      rw [List.take_of_length_le (by rw [HN.out]; exact Nat.le_refl _)] at hrw
      have HRw := Lib.hid hrw
      have BH := Lib.hid hH.out.1
      clear hrw hH
      generalize seen i d s.pend = sd at *
      go_wp2_with (at_builtin; refine wpList_appb rfl _ _ rfl (.slice none 0 0) [] sd.1 (some ⟨w.heap.size, 0, none⟩) 64 64 (OwnB.nil _) (sec_bys HRw.out) rfl rfl sd.2 (by rw [sd.2, List.length_nil]; omega) ?_; intro v' w9 hAp; obtain ⟨B9, c9, hv9⟩ := hAp.form; rw [sd.2, List.length_nil, Nat.zero_add] at hv9; subst hv9; have HAp := Lib.hid hAp; clear hAp)
      go_ret2
      have ho1 : ∀ k, (Value.slice none 0 0).ownBlock = some k → w.heap.size ≤ k := fun k hk => by cases hk
      refine ⟨B9, c9, rfl, HAp.out.1, fun a ha => ?_, BH.out.grown HAp.out.2.1 BH.out.size ho1⟩
      subst ha
      rcases HAp.out.2.2 with h3 | h3
      · cases h3
      · have h4 : some a.block = some wr.heap.size := h3
        rw [Option.some.injEq] at h4
        rw [h4]; exact BH.out.size
end Go.Proofs.Ytkkncijbedfdfaa
