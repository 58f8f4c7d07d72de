/-
  What a plate's methods do.
-/
import Derived.Test.YtkkncijbedfdfaaPlate
import Derived.IntWalk
import Derived.StillTailTactics
import Derived.Deep.Cut
namespace Go.Proofs.Ytkkncijbedfdfaa
open Go.RowKit
set_option linter.unusedVariables false

theorem is_yes (g gs : Nat) (pv : Value) (A : Option Addr) (c : Nat) (s : Ps) (w : World) (h : PlAt w g gs pv A c s) : Calls Try.prog 31 #[.pointer (some ⟨g, 0, none⟩)] w fun e w' => e = .returned (.bool true) ∧ w = w' := by
  have c0 : w.cell? ⟨g, 0, none⟩ = some (.slice (some ⟨gs, 0, none⟩) s.sure.length s.sure.length) := h.cells 0
  have hp := h.ok.2.1
  clear h
  go_enter Try.func31, Try.ntmps31
  go_wp2_with fail
  go_ret
  exact ⟨rfl, rfl⟩
theorem is_nil (w : World) : Calls Try.prog 31 #[.pointer none] w fun e w' => e = .returned (.bool false) ∧ w = w' := by
  go_enter Try.func31, Try.ntmps31
  go_wp2_with fail
  go_ret
  exact ⟨rfl, rfl⟩
theorem is_zero (g : Nat) (w : World) (c0 : w.cell? ⟨g, 0, none⟩ = some (.slice none 0 0)) : Calls Try.prog 31 #[.pointer (some ⟨g, 0, none⟩)] w fun e w' => e = .returned (.bool false) ∧ w = w' := by
  go_enter Try.func31, Try.ntmps31
  go_wp2_with fail
  go_ret
  exact ⟨rfl, rfl⟩
theorem down_any (g gs : Nat) (pv : Value) (A : Option Addr) (c : Nat) (s : Ps) (w : World) (h : PlAt w g gs pv A c s) : Calls Try.prog 20 #[.pointer (some ⟨g, 0, none⟩)] w fun e w' => e = .returned (.bool s.down) ∧ w = w' := by
  have c5 : w.cell? ⟨g, 5, none⟩ = some (.bool s.down) := h.cells 5
  have HI := Lib.hid (is_yes g gs pv A c s w h)
  clear h
  go_enter Try.func20, Try.ntmps20
  go_wp2_with fail
  refine (HI.out).mono ?_
  rintro e w1 ⟨rfl, rfl⟩
  go_wp2_with fail
  go_ret
  exact ⟨rfl, rfl⟩
theorem len_any (g gs : Nat) (pv : Value) (A : Option Addr) (c : Nat) (s : Ps) (w : World) (h : PlAt w g gs pv A c s) : Calls Try.prog 22 #[.pointer (some ⟨g, 0, none⟩)] w fun e w' => e = .returned (.int .i64 (s.sure.length : Int)) ∧ w = w' := by
  have c0 : w.cell? ⟨g, 0, none⟩ = some (.slice (some ⟨gs, 0, none⟩) s.sure.length s.sure.length) := h.cells 0
  have HI := Lib.hid (is_yes g gs pv A c s w h)
  clear h
  go_enter Try.func22, Try.ntmps22
  go_wp2_with fail
  refine (HI.out).mono ?_
  rintro e w1 ⟨rfl, rfl⟩
  go_wp2_with fail
  go_ret
  exact ⟨rfl, rfl⟩
theorem Ps.power_ok {s : Ps} (h : s.Ok) : s.power.2.Ok ∧ s.power.2.sure = s.sure ∧ s.power.2.pend = s.pend ∧ s.power.2.keep = s.keep ∧ s.power.2.armed = s.armed := by
  unfold Ps.power
  split
  · exact ⟨h, rfl, rfl, rfl, rfl⟩
  · split
    · exact ⟨⟨h.1, h.2.1, h.2.2⟩, rfl, rfl, rfl, rfl⟩
    · exact ⟨⟨h.1, h.2.1, (by show i64ok (IntKind.i64.wrap (s.left - 1)); unfold i64ok; rw [IntKind.wrap_i64]; omega)⟩, rfl, rfl, rfl, rfl⟩
theorem power_any (g gs : Nat) (pv : Value) (A : Option Addr) (c : Nat) (s : Ps) (w : World) (h : PlAt w g gs pv A c s) : Calls Try.prog 54 #[.pointer (some ⟨g, 0, none⟩)] w fun e w' => e = .returned (.bool s.power.1) ∧ PlTo w (PS g gs pv A) g s.power.2 w' := by
  have c2 : w.cell? ⟨g, 2, none⟩ = some (.bool s.armed) := h.cells 2
  have c3 : w.cell? ⟨g, 3, none⟩ = some (.int .i64 s.left) := h.cells 3
  have c5 : w.cell? ⟨g, 5, none⟩ = some (.bool s.down) := h.cells 5
  have f3 : w.frozen? ⟨g, 3, none⟩ = false := h.free 3
  have f5 : w.frozen? ⟨g, 5, none⟩ = false := h.free 5
  obtain ⟨ok, x1, x2, x3, x4⟩ := Ps.power_ok h.ok
  have H := Lib.hid h
  have HO := Lib.hid ok
  have HX := Lib.hid (And.intro x1 (And.intro x2 x3))
  by_cases hd0 : s.down = true
  rotate_left
  · have hd : s.down = false := by simpa using hd0
    rw [hd] at c5
    by_cases ha : s.armed = true ∧ s.left ≤ 0
    · have HV : Hid (s.power = (false, { s with down := true })) := Lib.hid (by unfold Ps.power; rw [hd, if_neg (by simp), if_pos ha])
      rw [ha.1] at c2
      have h1 := ha.2
      rw [HV.out]
      clear h ok x1 x2 x3 x4 ha
      go_enter Try.func54, Try.ntmps54
      go_wp2_with fail
      go_ret
      refine ⟨rfl, H.out.head (s' := { s with down := true }) ((Chg.refl (fun x => x = g) w).setCell (p := ⟨g, 5, none⟩) (.inl rfl) _) ?_ rfl rfl rfl (by rw [HV.out] at HO; exact HO.out)⟩
      rw [row_set H.out.row 5 _]; rfl
    · have HV : Hid (s.power = (true, { s with left := IntKind.i64.wrap (s.left - 1) })) := Lib.hid (by unfold Ps.power; rw [hd, if_neg (by simp), if_neg ha])
      rw [HV.out]
      by_cases hb0 : s.armed = true
      rotate_left
      · have hb : s.armed = false := by simpa using hb0
        rw [hb] at c2
        clear h ok x1 x2 x3 x4 ha hb hb0 hd hd0
        go_enter Try.func54, Try.ntmps54
        go_wp2_with fail
        go_ret
        refine ⟨rfl, H.out.head (s' := { s with left := IntKind.i64.wrap (s.left - 1) }) ((Chg.refl (fun x => x = g) w).setCell (p := ⟨g, 3, none⟩) (.inl rfl) _) ?_ rfl rfl rfl (by rw [HV.out] at HO; exact HO.out)⟩
        rw [row_set H.out.row 3 _, ← IntWalk.i64_left]; rfl
      · have hb := hb0
        rw [hb] at c2
        have h1 : ¬ s.left ≤ 0 := fun h => ha ⟨hb, h⟩
        clear h ok x1 x2 x3 x4 ha hb hb0 hd hd0
        go_enter Try.func54, Try.ntmps54
        go_wp2_with fail
        go_ret
        refine ⟨rfl, H.out.head (s' := { s with left := IntKind.i64.wrap (s.left - 1) }) ((Chg.refl (fun x => x = g) w).setCell (p := ⟨g, 3, none⟩) (.inl rfl) _) ?_ rfl rfl rfl (by rw [HV.out] at HO; exact HO.out)⟩
        rw [row_set H.out.row 3 _, ← IntWalk.i64_left]; rfl
  · have hd := hd0
    have HV : Hid (s.power = (false, s)) := Lib.hid (by unfold Ps.power; rw [hd, if_pos rfl])
    rw [hd] at c5
    rw [HV.out]
    clear h ok x1 x2 x3 x4
    go_enter Try.func54, Try.ntmps54
    go_wp2_with fail
    go_ret
    exact ⟨rfl, H.out.self⟩
set_option maxRecDepth 100000 in
set_option maxHeartbeats 2000000 in
theorem land_run (g gs N a : Nat) (cs : List Value) (hcs : cs.length = 64) (h1 : ∀ v ∈ cs, v.oneCell' = true) (ha : a < N) (w : World) (c0 : w.cell? ⟨g, 0, none⟩ = some (.slice (some ⟨gs, 0, none⟩) N N)) (hg : g < w.heap.size) (hgs : gs < w.heap.size) (hne : gs ≠ g) (ht : w.there gs (a * 64) 64) :
    Calls Try.prog 32 #[.pointer (some ⟨g, 0, none⟩), .agg (Value.int .i64 (a : Int) :: cs).toArray] w fun e w' => e = .returned (.tuple #[]) ∧ w' = (w.alloc (.cells (Value.int .i64 (a : Int) :: cs).toArray 81)).drew.setCells gs (a * 64) cs := by
  have hk0 : (0 : Int) ≤ (a : Int) := Int.natCast_nonneg _
  have hk8 : (a : Int) < (N : Int) := by omega
  have hu := sec_under
  have hi : (Try.prog.info? 79).map (·.size) = some cs.length := by rw [sec_info, hcs]
  have r0 : row (w.alloc (.cells (Value.int .i64 (a : Int) :: cs).toArray 81)) w.heap.size = some (Value.int .i64 (a : Int) :: cs).toArray := row_at _ _ _ _ rfl
  have k0 : (w.alloc (.cells (Value.int .i64 (a : Int) :: cs).toArray 81)).cell? ⟨g, 0, none⟩ = some (.slice (some ⟨gs, 0, none⟩) N N) := (((Below.refl w.heap.size w).alloc (Nat.le_refl _) _).cell (p := ⟨g, 0, none⟩) hg).trans c0
  have k1 : (w.alloc (.cells (Value.int .i64 (a : Int) :: cs).toArray 81)).cell? ⟨w.heap.size, 0, none⟩ = some (.int .i64 (a : Int)) := row_cell r0 0
  have k2 : (w.alloc (.cells (Value.int .i64 (a : Int) :: cs).toArray 81)).rangeAt w.heap.size 1 cs := fun j v hv => by
    rw [row_cell r0 (1 + j), List.getElem?_toArray, Nat.add_comm, List.getElem?_cons_succ]; exact hv
  have k3 : (w.alloc (.cells (Value.int .i64 (a : Int) :: cs).toArray 81)).there gs (a * 64) 64 := World.there_alloc ht _
  clear r0
  go_enter Try.func32, Try.ntmps32
  go_upto_region 1 with fail
  generalize hw0 : w.alloc (.cells (Value.int .i64 (a : Int) :: cs).toArray 81) = w0 at *
  go_region_held3 (fun w' => w'.cell? ⟨g, 0, none⟩ = some (.slice (some ⟨gs, 0, none⟩) N N) ∧ w'.cell? ⟨w.heap.size, 0, none⟩ = some (.int .i64 (a : Int)) ∧ w'.rangeAt w.heap.size 1 cs ∧ w'.there gs (a * 64) 64) (first | go_keep_ranges | exact ⟨(World.cell?_setCells_out gs cs _ _ _ (fun h1 _ => absurd h1.symm hne)).trans k0, (World.cell?_setCells_out gs cs _ _ _ (fun h1 _ => absurd h1 (by show w.heap.size ≠ gs; omega))).trans k1, World.rangeAt_setCells_apart (by simpa using k2) _ _ _ (.inl (by omega)), World.there_setCells (by simpa using k3) _ _ _⟩) (fail)
  go_end0
  exact ⟨rfl, by rw [hw0]⟩
end Go.Proofs.Ytkkncijbedfdfaa
