/-
  Sums put together: annals.together.
-/
import Derived.Test.YtnakkjgnjffkpaaSums
import Derived.Test.YtnakkjgnjffkpaaMoney
import Derived.Test.YtnakkjgnjffkpaaCoder6
import Derived.Deep.QuietTactic
import Derived.BigQuiet
import Derived.IntWalk
namespace Go.Proofs.Ytnakkjgnjffkpaa
open Go.RowKit
set_option linter.unusedVariables false

def Sm.mon (s : Sm) : Nat → Nat
  | 0 => s.minted
  | 1 => s.paid
  | 2 => s.kept
  | 3 => s.burned
  | _ => s.fees
def addS (o s : Sm) : Sm := ⟨o.ticks + s.ticks, o.quorums + s.quorums, o.leaks + s.leaks, o.minted + s.minted, o.paid + s.paid, o.kept + s.kept, o.burned + s.burned, o.fees + s.fees, o.out + s.out, o.left + s.left, o.started + s.started, o.done + s.done⟩
theorem addS_mon (o s : Sm) (k : Nat) : (addS o s).mon k = o.mon k + s.mon k := by
  match k with
  | 0 => rfl
  | 1 => rfl
  | 2 => rfl
  | 3 => rfl
  | k + 4 => rfl
def totS (l : List Sm) : Sm := l.foldl addS Sm.zero
theorem totS_mono (k : Nat) : ∀ (l : List Sm) (o : Sm), o.mon k ≤ (l.foldl addS o).mon k
  | [], o => Nat.le_refl _
  | s :: r, o => by
    rw [List.foldl_cons]
    have := totS_mono k r (addS o s)
    rw [addS_mon] at this
    omega
def fitsS (s : Sm) : Prop := ∀ k, k < 5 → s.mon k ≤ 18446744073709551615
instance (s : Sm) : Decidable (fitsS s) := decidable_of_iff (s.minted ≤ 18446744073709551615 ∧ s.paid ≤ 18446744073709551615 ∧ s.kept ≤ 18446744073709551615 ∧ s.burned ≤ 18446744073709551615 ∧ s.fees ≤ 18446744073709551615) ⟨fun h k hk => by
  match k, hk with
  | 0, _ => exact h.1
  | 1, _ => exact h.2.1
  | 2, _ => exact h.2.2.1
  | 3, _ => exact h.2.2.2.1
  | 4, _ => exact h.2.2.2.2
  | k + 5, h => omega, fun h => ⟨h 0 (by omega), h 1 (by omega), h 2 (by omega), h 3 (by omega), h 4 (by omega)⟩⟩
def togE (l : List Sm) : Int := if fitsS (totS l) then 0 else 10
def togV (l : List Sm) : Sm := if fitsS (totS l) then totS l else Sm.zero
/-- What is counted is small. -/
structure Sm.Few (s : Sm) (M : Nat) : Prop where
  ticks : s.ticks ≤ M
  quorums : s.quorums ≤ M
  leaks : s.leaks ≤ M
  out : s.out ≤ M
  left : s.left ≤ M
  started : s.started ≤ M
  done : s.done ≤ M
theorem Sm.Few.add {o s : Sm} {M N : Nat} (h : o.Few M) (k : s.Few N) : (addS o s).Few (M + N) := ⟨Nat.add_le_add h.ticks k.ticks, Nat.add_le_add h.quorums k.quorums, Nat.add_le_add h.leaks k.leaks, Nat.add_le_add h.out k.out, Nat.add_le_add h.left k.left, Nat.add_le_add h.started k.started, Nat.add_le_add h.done k.done⟩
theorem fold_few {N : Nat} : ∀ (l : List Sm) (o : Sm) (M : Nat), o.Few M → (∀ s ∈ l, s.Few N) → (l.foldl addS o).Few (M + l.length * N)
  | [], o, M, h, _ => by simpa using h
  | s :: r, o, M, h, hs => by
    have h1 := fold_few r (addS o s) (M + N) (h.add (hs s (List.mem_cons_self ..))) (fun x hx => hs x (List.mem_cons_of_mem _ hx))
    rw [List.foldl_cons, List.length_cons, Nat.add_mul, Nat.one_mul]
    rwa [Nat.add_assoc, Nat.add_comm N] at h1
/-- The first k sums of money are put together. -/
def outK (o s : Sm) (k : Nat) : Sm := { o with minted := if 0 < k then o.minted + s.minted else o.minted, paid := if 1 < k then o.paid + s.paid else o.paid, kept := if 2 < k then o.kept + s.kept else o.kept, burned := if 3 < k then o.burned + s.burned else o.burned, fees := if 4 < k then o.fees + s.fees else o.fees }
theorem outK_zero (o s : Sm) : outK o s 0 = o := rfl
theorem outK_at (o s : Sm) (k : Nat) (h : k < 5) : (smC (outK o s k))[3 + k]? = some (.int .u64 ((o.mon k : Nat) : Int)) := by
  match k, h with
  | 0, _ => rfl
  | 1, _ => rfl
  | 2, _ => rfl
  | 3, _ => rfl
  | 4, _ => rfl
  | k + 5, h => omega
theorem outK_set (o s : Sm) (k : Nat) (h : k < 5) : (smC (outK o s k)).setIfInBounds (3 + k) (.int .u64 ((o.mon k + s.mon k : Nat) : Int)) = smC (outK o s (k + 1)) := by
  match k, h with
  | 0, _ => rfl
  | 1, _ => rfl
  | 2, _ => rfl
  | 3, _ => rfl
  | 4, _ => rfl
  | k + 5, h => omega
def tenA (g : Nat) (s : Sm) : Array Value := #[.pointer (some ⟨g, 3, none⟩), .int .u64 (s.minted : Int), .pointer (some ⟨g, 4, none⟩), .int .u64 (s.paid : Int), .pointer (some ⟨g, 5, none⟩), .int .u64 (s.kept : Int), .pointer (some ⟨g, 6, none⟩), .int .u64 (s.burned : Int), .pointer (some ⟨g, 7, none⟩), .int .u64 (s.fees : Int)]
theorem tenA_ptr (g : Nat) (s : Sm) (k : Nat) (h : k < 5) : (tenA g s)[k * 2]? = some (.pointer (some ⟨g, 3 + k, none⟩)) := by
  match k, h with
  | 0, _ => rfl
  | 1, _ => rfl
  | 2, _ => rfl
  | 3, _ => rfl
  | 4, _ => rfl
  | k + 5, h => omega
theorem tenA_num (g : Nat) (s : Sm) (k : Nat) (h : k < 5) : (tenA g s)[k * 2 + 1]? = some (.int .u64 ((s.mon k : Nat) : Int)) := by
  match k, h with
  | 0, _ => rfl
  | 1, _ => rfl
  | 2, _ => rfl
  | 3, _ => rfl
  | 4, _ => rfl
  | k + 5, h => omega
theorem of_world {P : Program} {c : Code} {a : Act} {Q : Exit → Act → World → Prop} {W : World} (S : World → Prop) (h : S W) (k : ∀ W, S W → Code.wp P c Q a W) : Code.wp P c Q a W := k W h
set_option maxRecDepth 100000 in
set_option maxHeartbeats 8000000 in
theorem together_any (A : Option Addr) (n c : Nat) (xs : List Sm) (hn : xs.length = n) (hm : n ≤ 1000) (hfew : ∀ s ∈ xs, s.Few 1000000000000) (hmon : ∀ s ∈ xs, ∀ k, s.mon k < 18446744073709551616) (w : World) (hU : SliceOf 12 smC w A xs) :
    Calls Try.prog 55 #[.slice A n c] w fun e w' => e = .returned (.tuple #[.agg (smC (togV xs)), .int .i64 (togE xs)]) ∧ Below w.heap.size w w' := by
  have r0 : row ((w.alloc (.cells (smC Sm.zero) 45)).alloc (.cells (smC Sm.zero) 45)) w.heap.size = some (smC Sm.zero) := (row_past _ _ _ (by rw [World.size_alloc]; omega)).trans (row_at _ _ _ _ rfl)
  have q0 : row ((w.alloc (.cells (smC Sm.zero) 45)).alloc (.cells (smC Sm.zero) 45)) (w.heap.size + 1) = some (smC Sm.zero) := row_at _ _ _ _ (by rw [World.size_alloc])
  have hB0 : Below w.heap.size w ((w.alloc (.cells (smC Sm.zero) 45)).alloc (.cells (smC Sm.zero) 45)) := (by (repeat (first | exact Below.refl _ _ | assumption | (refine Below.allocT ?_ _) | refine Below.drew ?_ | refine below_drewN ?_ _ | (refine Below.then ?_ (by assumption)) | (refine Below.setRow ?_ ?_ _; rotate_left; (focus (first | exact Nat.lt_succ_self _ | ((repeat rw [World.size_alloc]); omega) | (simp; done) | (simp; omega) | omega))) | (refine Below.setCell ?_ ?_ _; rotate_left; (focus (first | exact Nat.lt_succ_self _ | ((repeat rw [World.size_alloc]); omega) | (simp; done) | (simp; omega) | omega))) | (refine Below.then' ?_ (by assumption) ?_; rotate_left; (focus (first | exact Nat.lt_succ_self _ | ((repeat rw [World.size_alloc]); omega) | (simp; done) | (simp; omega) | omega))) | fail)); (first | done | fail))
  have HN := Lib.hid hn
  have HU := Lib.hid hU
  have HF := Lib.hid hfew
  have HM := Lib.hid hmon
  have HT : Hid (togE xs = (if fitsS (totS xs) then 0 else 10) ∧ togV xs = if fitsS (totS xs) then totS xs else Sm.zero) := Lib.hid ⟨rfl, rfl⟩
  clear hn hU hfew hmon
  go_enter Try.func55, Try.ntmps55
  go_upto_region 2 with fail
  change Code.wp _ _ _ _ ((w.alloc (.cells (smC Sm.zero) 45)).alloc (.cells (smC Sm.zero) 45))
  first | rw [World.size_alloc] | skip
  generalize (w.alloc (.cells (smC Sm.zero) 45)).alloc (.cells (smC Sm.zero) 45) = w0 at *
  have hp0 : w.heap.size < w.heap.size + 1 := by omega
  obtain ⟨go, hgo⟩ : ∃ go, go = w.heap.size + 1 := ⟨_, rfl⟩
  rw [← hgo] at q0 ⊢
  have HGo : Hid (w.heap.size < go) := Lib.hid (by omega)
  clear hgo hp0
  go_wp2_with fail
  go_loopw [13] (fun i wr => ∃ j : Nat, i = .int .i64 j ∧ j ≤ n ∧ Hid (row wr w.heap.size = some (smC Sm.zero) ∧ row wr go = some (smC (totS (xs.take j))) ∧ fitsS (totS (xs.take j)) ∧ Below w.heap.size w wr)) (fun i _ => n - (intOf i).toNat)
  case atStart => exact ⟨0, rfl, by omega, Lib.hid ⟨r0, q0, (by intro k hk; match k, hk with | 0, _ => exact Nat.zero_le _ | 1, _ => exact Nat.zero_le _ | 2, _ => exact Nat.zero_le _ | 3, _ => exact Nat.zero_le _ | 4, _ => exact Nat.zero_le _ | k + 5, h => omega), hB0⟩⟩
  case round =>
    obtain ⟨j, rfl, hj, hH⟩ := hrel
    clear r0 q0 hB0
    by_cases hlt : j < n
    · obtain ⟨b, off, rfl, hbb, hcell⟩ := HU.out (by rw [HN.out]; omega)
      obtain ⟨s, hxj⟩ : ∃ s, xs[j]? = some s := ⟨_, List.getElem?_eq_getElem (by rw [HN.out]; exact hlt)⟩
      have hr := range_below (hcell j s hxj) hH.out.2.2.2 hbb
      have hmem := List.mem_of_getElem? hxj
      have HS := Lib.hid (And.intro (HF.out s hmem) (HM.out s hmem))
      have hstep : totS (xs.take (j + 1)) = addS (totS (xs.take j)) s := by
        obtain ⟨hjl, hjz⟩ := List.getElem?_eq_some_iff.1 hxj
        unfold totS
        rw [List.take_succ_eq_append_getElem hjl, hjz, List.foldl_append]; rfl
      have HStep := Lib.hid hstep
      have hmono : ∀ k, (addS (totS (xs.take j)) s).mon k ≤ (totS xs).mon k := fun k => by
        rw [← hstep]
        have := totS_mono k (xs.drop (j + 1)) (totS (xs.take (j + 1)))
        unfold totS at *
        rwa [← List.foldl_append, List.take_append_drop] at this
      have HMono := Lib.hid hmono
      have hfo : (totS (xs.take j)).Few (0 + (xs.take j).length * 1000000000000) := fold_few (xs.take j) Sm.zero 0 ⟨Nat.le_refl _, Nat.le_refl _, Nat.le_refl _, Nat.le_refl _, Nat.le_refl _, Nat.le_refl _, Nat.le_refl _⟩ (fun x hx => HF.out x (List.mem_of_mem_take hx))
      have hlj : (xs.take j).length ≤ 1000 := by rw [List.length_take, HN.out]; omega
      have HFo := Lib.hid (And.intro hfo hlj)
      have hi : (Try.prog.info? 45).map (·.size) = some (smC s).toList.length := by rw [sums_info]; rfl
      have z1 : (0 : Int) ≤ (j : Int) := by omega
      have z2 : (j : Int) < (n : Int) := by omega
      clear hcell hxj hmem hstep hmono hfo hlj
      generalize totS (xs.take j) = o at *
      have v6 : row (wr.alloc (.cells (smC s) 45)) wr.heap.size = some (smC s) := row_at _ _ _ _ rfl
      have m3 : (wr.alloc (.cells (smC s) 45)).cell? ⟨wr.heap.size, 3, none⟩ = some (.int .u64 (s.minted : Int)) := row_cell v6 3
      have m4 : (wr.alloc (.cells (smC s) 45)).cell? ⟨wr.heap.size, 4, none⟩ = some (.int .u64 (s.paid : Int)) := row_cell v6 4
      have m5 : (wr.alloc (.cells (smC s) 45)).cell? ⟨wr.heap.size, 5, none⟩ = some (.int .u64 (s.kept : Int)) := row_cell v6 5
      have m6 : (wr.alloc (.cells (smC s) 45)).cell? ⟨wr.heap.size, 6, none⟩ = some (.int .u64 (s.burned : Int)) := row_cell v6 6
      have m7 : (wr.alloc (.cells (smC s) 45)).cell? ⟨wr.heap.size, 7, none⟩ = some (.int .u64 (s.fees : Int)) := row_cell v6 7
      go_wp2_with (refine wpList_load_mid rfl 45 _ (by rfl) b (off + j * 12) (by rfl) (smC s).toList _ hr sums_under rfl hi ?_)
      have g1 : go < wr.heap.size := row_lt hH.out.2.1
      have g0 : w.heap.size < go := HGo.out
      refine of_world (fun W => row W w.heap.size = some (smC Sm.zero) ∧ row W go = some (smC o) ∧ row W wr.heap.size = some (smC s) ∧ row W (wr.heap.size + 1) = some (tenA go s) ∧ Below w.heap.size w W) ?_ ?_
      · refine ⟨?_, ?_, ?_, ?_, ?_⟩
        · exact (row_below (show Below wr.heap.size wr _ from (by (repeat (first | exact Below.refl _ _ | assumption | (refine Below.allocT ?_ _) | refine Below.drew ?_ | refine below_drewN ?_ _ | (refine Below.then ?_ (by assumption)) | (refine Below.setRow ?_ ?_ _; rotate_left; (focus (first | exact Nat.lt_succ_self _ | ((repeat rw [World.size_alloc]); omega) | (simp; done) | (simp; omega) | omega))) | (refine Below.setCell ?_ ?_ _; rotate_left; (focus (first | exact Nat.lt_succ_self _ | ((repeat rw [World.size_alloc]); omega) | (simp; done) | (simp; omega) | omega))) | (refine Below.then' ?_ (by assumption) ?_; rotate_left; (focus (first | exact Nat.lt_succ_self _ | ((repeat rw [World.size_alloc]); omega) | (simp; done) | (simp; omega) | omega))) | fail)); (first | done | fail))) (row_lt hH.out.1)).trans hH.out.1
        · exact (row_below (show Below wr.heap.size wr _ from (by (repeat (first | exact Below.refl _ _ | assumption | (refine Below.allocT ?_ _) | refine Below.drew ?_ | refine below_drewN ?_ _ | (refine Below.then ?_ (by assumption)) | (refine Below.setRow ?_ ?_ _; rotate_left; (focus (first | exact Nat.lt_succ_self _ | ((repeat rw [World.size_alloc]); omega) | (simp; done) | (simp; omega) | omega))) | (refine Below.setCell ?_ ?_ _; rotate_left; (focus (first | exact Nat.lt_succ_self _ | ((repeat rw [World.size_alloc]); omega) | (simp; done) | (simp; omega) | omega))) | (refine Below.then' ?_ (by assumption) ?_; rotate_left; (focus (first | exact Nat.lt_succ_self _ | ((repeat rw [World.size_alloc]); omega) | (simp; done) | (simp; omega) | omega))) | fail)); (first | done | fail))) (row_lt hH.out.2.1)).trans hH.out.2.1
        · exact (row_past _ _ _ (by rw [World.size_alloc]; omega)).trans v6
        · exact row_at _ _ _ _ (by rw [World.size_alloc])
        · have hbb := hH.out.2.2.2
          exact (by (repeat (first | exact Below.refl _ _ | assumption | (refine Below.allocT ?_ _) | refine Below.drew ?_ | refine below_drewN ?_ _ | (refine Below.then ?_ (by assumption)) | (refine Below.setRow ?_ ?_ _; rotate_left; (focus (first | exact Nat.lt_succ_self _ | ((repeat rw [World.size_alloc]); omega) | (simp; done) | (simp; omega) | omega))) | (refine Below.setCell ?_ ?_ _; rotate_left; (focus (first | exact Nat.lt_succ_self _ | ((repeat rw [World.size_alloc]); omega) | (simp; done) | (simp; omega) | omega))) | (refine Below.then' ?_ (by assumption) ?_; rotate_left; (focus (first | exact Nat.lt_succ_self _ | ((repeat rw [World.size_alloc]); omega) | (simp; done) | (simp; omega) | omega))) | fail)); (first | done | fail))
      intro W hW
      have HW := Lib.hid hW
      have HFit := hH.out.2.2.1
      have HOF := Lib.hid HFit
      clear hW v6 m3 m4 m5 m6 m7 hr hbb hH HFit hi
      generalize wr.heap.size = g6 at *
      have HG1 := Lib.hid (And.intro g0 g1)
      clear g0 g1 z1 z2
      go_loopw [39] (fun i wr => ∃ k : Nat, i = .int .i64 k ∧ k ≤ 5 ∧ Hid (row wr w.heap.size = some (smC Sm.zero) ∧ row wr go = some (smC (outK o s k)) ∧ row wr g6 = some (smC s) ∧ row wr (g6 + 1) = some (tenA go s) ∧ (∀ i < k, o.mon i + s.mon i ≤ 18446744073709551615) ∧ Below w.heap.size w wr)) (fun i _ => 5 - (intOf i).toNat)
      case atStart => exact ⟨0, rfl, by omega, Lib.hid ⟨HW.out.1, HW.out.2.1, HW.out.2.2.1, HW.out.2.2.2.1, fun i hi => absurd hi (Nat.not_lt_zero i), HW.out.2.2.2.2⟩⟩
      case round =>
        obtain ⟨k, rfl, hk, hI⟩ := hrel
        clear HW
        by_cases hk5 : k < 5
        · have x1 : (0 : Int) ≤ (k : Int) := by omega
          have x2 : (k : Int) < 5 := by omega
          have c0 : wr.cell? ⟨g6 + 1, k * 2, none⟩ = some (.pointer (some ⟨go, 3 + k, none⟩)) := (row_cell hI.out.2.2.2.1 _).trans (tenA_ptr go s k hk5)
          have c1 : wr.cell? ⟨g6 + 1, k * 2 + 1, none⟩ = some (.int .u64 ((s.mon k : Nat) : Int)) := (row_cell hI.out.2.2.2.1 _).trans (tenA_num go s k hk5)
          go_upto_region 8 with fail
          refine of_world (fun W => W.cell? ⟨wr.heap.size, 0, none⟩ = some (.pointer (some ⟨go, 3 + k, none⟩)) ∧ W.cell? ⟨wr.heap.size, 1, none⟩ = some (.int .u64 ((s.mon k : Nat) : Int)) ∧ W.cell? ⟨go, 3 + k, none⟩ = some (.int .u64 ((o.mon k : Nat) : Int)) ∧ W.frozen? ⟨go, 3 + k, none⟩ = false ∧ Hid (row W w.heap.size = some (smC Sm.zero) ∧ row W go = some (smC (outK o s k)) ∧ row W g6 = some (smC s) ∧ row W (g6 + 1) = some (tenA go s) ∧ Below w.heap.size w W)) ?_ ?_
          · refine ⟨row_cell (row_at _ _ _ _ rfl) 0, row_cell (row_at _ _ _ _ rfl) 1, (row_cell ((row_below (show Below wr.heap.size wr _ from (by (repeat (first | exact Below.refl _ _ | assumption | (refine Below.allocT ?_ _) | refine Below.drew ?_ | refine below_drewN ?_ _ | (refine Below.then ?_ (by assumption)) | (refine Below.setRow ?_ ?_ _; rotate_left; (focus (first | exact Nat.lt_succ_self _ | ((repeat rw [World.size_alloc]); omega) | (simp; done) | (simp; omega) | omega))) | (refine Below.setCell ?_ ?_ _; rotate_left; (focus (first | exact Nat.lt_succ_self _ | ((repeat rw [World.size_alloc]); omega) | (simp; done) | (simp; omega) | omega))) | (refine Below.then' ?_ (by assumption) ?_; rotate_left; (focus (first | exact Nat.lt_succ_self _ | ((repeat rw [World.size_alloc]); omega) | (simp; done) | (simp; omega) | omega))) | fail)); (first | done | fail))) (row_lt hI.out.2.1)).trans hI.out.2.1) _).trans (outK_at o s k hk5), row_frozen ((row_below (show Below wr.heap.size wr _ from (by (repeat (first | exact Below.refl _ _ | assumption | (refine Below.allocT ?_ _) | refine Below.drew ?_ | refine below_drewN ?_ _ | (refine Below.then ?_ (by assumption)) | (refine Below.setRow ?_ ?_ _; rotate_left; (focus (first | exact Nat.lt_succ_self _ | ((repeat rw [World.size_alloc]); omega) | (simp; done) | (simp; omega) | omega))) | (refine Below.setCell ?_ ?_ _; rotate_left; (focus (first | exact Nat.lt_succ_self _ | ((repeat rw [World.size_alloc]); omega) | (simp; done) | (simp; omega) | omega))) | (refine Below.then' ?_ (by assumption) ?_; rotate_left; (focus (first | exact Nat.lt_succ_self _ | ((repeat rw [World.size_alloc]); omega) | (simp; done) | (simp; omega) | omega))) | fail)); (first | done | fail))) (row_lt hI.out.2.1)).trans hI.out.2.1) _, Lib.hid ⟨?_, (row_below (show Below wr.heap.size wr _ from (by (repeat (first | exact Below.refl _ _ | assumption | (refine Below.allocT ?_ _) | refine Below.drew ?_ | refine below_drewN ?_ _ | (refine Below.then ?_ (by assumption)) | (refine Below.setRow ?_ ?_ _; rotate_left; (focus (first | exact Nat.lt_succ_self _ | ((repeat rw [World.size_alloc]); omega) | (simp; done) | (simp; omega) | omega))) | (refine Below.setCell ?_ ?_ _; rotate_left; (focus (first | exact Nat.lt_succ_self _ | ((repeat rw [World.size_alloc]); omega) | (simp; done) | (simp; omega) | omega))) | (refine Below.then' ?_ (by assumption) ?_; rotate_left; (focus (first | exact Nat.lt_succ_self _ | ((repeat rw [World.size_alloc]); omega) | (simp; done) | (simp; omega) | omega))) | fail)); (first | done | fail))) (row_lt hI.out.2.1)).trans hI.out.2.1, ?_, ?_, ?_⟩⟩
            · exact (row_below (show Below wr.heap.size wr _ from (by (repeat (first | exact Below.refl _ _ | assumption | (refine Below.allocT ?_ _) | refine Below.drew ?_ | refine below_drewN ?_ _ | (refine Below.then ?_ (by assumption)) | (refine Below.setRow ?_ ?_ _; rotate_left; (focus (first | exact Nat.lt_succ_self _ | ((repeat rw [World.size_alloc]); omega) | (simp; done) | (simp; omega) | omega))) | (refine Below.setCell ?_ ?_ _; rotate_left; (focus (first | exact Nat.lt_succ_self _ | ((repeat rw [World.size_alloc]); omega) | (simp; done) | (simp; omega) | omega))) | (refine Below.then' ?_ (by assumption) ?_; rotate_left; (focus (first | exact Nat.lt_succ_self _ | ((repeat rw [World.size_alloc]); omega) | (simp; done) | (simp; omega) | omega))) | fail)); (first | done | fail))) (row_lt hI.out.1)).trans hI.out.1
            · exact (row_below (show Below wr.heap.size wr _ from (by (repeat (first | exact Below.refl _ _ | assumption | (refine Below.allocT ?_ _) | refine Below.drew ?_ | refine below_drewN ?_ _ | (refine Below.then ?_ (by assumption)) | (refine Below.setRow ?_ ?_ _; rotate_left; (focus (first | exact Nat.lt_succ_self _ | ((repeat rw [World.size_alloc]); omega) | (simp; done) | (simp; omega) | omega))) | (refine Below.setCell ?_ ?_ _; rotate_left; (focus (first | exact Nat.lt_succ_self _ | ((repeat rw [World.size_alloc]); omega) | (simp; done) | (simp; omega) | omega))) | (refine Below.then' ?_ (by assumption) ?_; rotate_left; (focus (first | exact Nat.lt_succ_self _ | ((repeat rw [World.size_alloc]); omega) | (simp; done) | (simp; omega) | omega))) | fail)); (first | done | fail))) (row_lt hI.out.2.2.1)).trans hI.out.2.2.1
            · exact (row_below (show Below wr.heap.size wr _ from (by (repeat (first | exact Below.refl _ _ | assumption | (refine Below.allocT ?_ _) | refine Below.drew ?_ | refine below_drewN ?_ _ | (refine Below.then ?_ (by assumption)) | (refine Below.setRow ?_ ?_ _; rotate_left; (focus (first | exact Nat.lt_succ_self _ | ((repeat rw [World.size_alloc]); omega) | (simp; done) | (simp; omega) | omega))) | (refine Below.setCell ?_ ?_ _; rotate_left; (focus (first | exact Nat.lt_succ_self _ | ((repeat rw [World.size_alloc]); omega) | (simp; done) | (simp; omega) | omega))) | (refine Below.then' ?_ (by assumption) ?_; rotate_left; (focus (first | exact Nat.lt_succ_self _ | ((repeat rw [World.size_alloc]); omega) | (simp; done) | (simp; omega) | omega))) | fail)); (first | done | fail))) (row_lt hI.out.2.2.2.1)).trans hI.out.2.2.2.1
            · have hbb := hI.out.2.2.2.2.2
              exact (by (repeat (first | exact Below.refl _ _ | assumption | (refine Below.allocT ?_ _) | refine Below.drew ?_ | refine below_drewN ?_ _ | (refine Below.then ?_ (by assumption)) | (refine Below.setRow ?_ ?_ _; rotate_left; (focus (first | exact Nat.lt_succ_self _ | ((repeat rw [World.size_alloc]); omega) | (simp; done) | (simp; omega) | omega))) | (refine Below.setCell ?_ ?_ _; rotate_left; (focus (first | exact Nat.lt_succ_self _ | ((repeat rw [World.size_alloc]); omega) | (simp; done) | (simp; omega) | omega))) | (refine Below.then' ?_ (by assumption) ?_; rotate_left; (focus (first | exact Nat.lt_succ_self _ | ((repeat rw [World.size_alloc]); omega) | (simp; done) | (simp; omega) | omega))) | fail)); (first | done | fail))
          intro W hW
          obtain ⟨d0, d1, d2, d3, HR⟩ := hW
          have hoM : o.mon k < 18446744073709551616 := by have := HOF.out k hk5; omega
          have hsM : s.mon k < 18446744073709551616 := HS.out.2 k
          have hprev := hI.out.2.2.2.2.1
          have HP := Lib.hid hprev
          have HK : Hid (s.mon k = s.mon k) := Lib.hid rfl
          clear c0 c1 hI hprev
          generalize wr.heap.size = g8 at *
          by_cases hov : o.mon k + s.mon k ≤ 18446744073709551615
          · have HA : Hid (∀ V, Calls Try.prog 113 #[.int .u64 ((o.mon k : Nat) : Int), .int .u64 ((s.mon k : Nat) : Int)] V fun e V' => e = .returned (.tuple #[.int .u64 ((o.mon k + s.mon k : Nat) : Int), .int .i64 0]) ∧ V' = V) := Lib.hid fun V => (madd_any _ _ hoM hsM V).mono fun e V' h => ⟨by rw [h.1, show fit (o.mon k + s.mon k) = o.mon k + s.mon k from if_pos hov, show toldE (o.mon k + s.mon k) = 0 from if_pos hov], h.2.symm⟩
            have HS1 := Lib.hid (outK_set o s k hk5)
            have HP2 : Hid (∀ i < k + 1, o.mon i + s.mon i ≤ 18446744073709551615) := Lib.hid fun i hi => by
              rcases Nat.lt_succ_iff_lt_or_eq.1 hi with h | rfl
              · exact HP.out i h
              · exact hov
            generalize o.mon k + s.mon k = mk at *
            generalize o.mon k = ok at *
            generalize s.mon k = sk at *
            clear hov hoM hsM HP
            go_quiet ((go_at_call 113; exact Calls.quiet_of_same (HA.out _)))
            go_wp2_with fail
            refine ⟨⟨k + 1, by go_num, by omega, Lib.hid ⟨?_, ?_, ?_, ?_, HP2.out, ?_⟩⟩, by simp [intOf]; omega⟩
            · rw [row_far _ _ _ _ (by have := HG1.out; show _ ≠ go; omega), row_drewN]; exact HR.out.1
            · rw [row_setCell, row_drewN, HR.out.2.1]; exact congrArg some HS1.out
            · rw [row_far _ _ _ _ (by have := HG1.out; show _ ≠ go; omega), row_drewN]; exact HR.out.2.2.1
            · rw [row_far _ _ _ _ (by have := HG1.out; show _ ≠ go; omega), row_drewN]; exact HR.out.2.2.2.1
            · exact Below.setCell (below_drewN HR.out.2.2.2.2 _) (p := ⟨go, 3 + k, none⟩) (by have := HG1.out; show w.heap.size ≤ go; omega) _
          · have HA : Hid (∀ V, Calls Try.prog 113 #[.int .u64 ((o.mon k : Nat) : Int), .int .u64 ((s.mon k : Nat) : Int)] V fun e V' => e = .returned (.tuple #[.int .u64 ((0 : Nat) : Int), .int .i64 10]) ∧ V' = V) := Lib.hid fun V => (madd_any _ _ hoM hsM V).mono fun e V' h => ⟨by rw [h.1, show fit (o.mon k + s.mon k) = 0 from if_neg hov, show toldE (o.mon k + s.mon k) = 10 from if_neg hov], h.2.symm⟩
            have hnf : ¬ fitsS (totS xs) := fun h => by
              have h1 := h k hk5
              have h2 := HMono.out k
              rw [addS_mon] at h2
              omega
            have HVV : Hid (togE xs = 10 ∧ togV xs = Sm.zero) := Lib.hid ⟨by rw [HT.out.1, if_neg hnf], by rw [HT.out.2, if_neg hnf]⟩
            generalize o.mon k = ok at *
            generalize s.mon k = sk at *
            clear hov hoM hsM HP hnf
            go_quiet ((go_at_call 113; exact Calls.quiet_of_same (HA.out _)))
            go_upto_region 10 with fail
            refine of_world (fun V => row V w.heap.size = some (smC Sm.zero) ∧ Below w.heap.size w V) ⟨(row_drewN W _ w.heap.size).trans HR.out.1, below_drewN HR.out.2.2.2.2 _⟩ ?_
            intro V hV
            have y0 := hV.1
            have HV2 := Lib.hid hV.2
            clear d0 d1 d2 d3 HR hV
            obtain ⟨t9, ht9⟩ := row_heap (row_setRow (new := smC Sm.zero) y0)
            have HT9 := Lib.hid ht9
            clear ht9
            go_wp2_with (refine wpList_build_to (smC Sm.zero) rfl 45 _ rfl (by kernel_rfl) ?_)
            exact bodyPost_ret (v := .tuple #[.agg (smC Sm.zero), .int .i64 10]) (results_cell_tmp Try.results55 _ _ w.heap.size _ (smC Sm.zero) (0, 0) _ rfl HT9.out sums_under rfl sums_info) rfl ⟨by rw [HVV.out.1, HVV.out.2], Below.setRow HV2.out (Nat.le_refl _) _⟩
        · obtain rfl : k = 5 := by omega
          have fg : ∀ i, wr.frozen? ⟨go, i, none⟩ = false := fun i => row_frozen hI.out.2.1 i
          have a0 : wr.cell? ⟨go, 0, none⟩ = some (.int .i64 (o.ticks : Int)) := row_cell hI.out.2.1 0
          have a1 : wr.cell? ⟨go, 1, none⟩ = some (.int .i64 (o.quorums : Int)) := row_cell hI.out.2.1 1
          have a2 : wr.cell? ⟨go, 2, none⟩ = some (.int .i64 (o.leaks : Int)) := row_cell hI.out.2.1 2
          have a8 : wr.cell? ⟨go, 8, none⟩ = some (.int .i64 (o.out : Int)) := row_cell hI.out.2.1 8
          have a9 : wr.cell? ⟨go, 9, none⟩ = some (.int .i64 (o.left : Int)) := row_cell hI.out.2.1 9
          have a10 : wr.cell? ⟨go, 10, none⟩ = some (.int .i64 (o.started : Int)) := row_cell hI.out.2.1 10
          have a11 : wr.cell? ⟨go, 11, none⟩ = some (.int .i64 (o.done : Int)) := row_cell hI.out.2.1 11
          have b0 : wr.cell? ⟨g6, 0, none⟩ = some (.int .i64 (s.ticks : Int)) := row_cell hI.out.2.2.1 0
          have b1 : wr.cell? ⟨g6, 1, none⟩ = some (.int .i64 (s.quorums : Int)) := row_cell hI.out.2.2.1 1
          have b2 : wr.cell? ⟨g6, 2, none⟩ = some (.int .i64 (s.leaks : Int)) := row_cell hI.out.2.2.1 2
          have b8 : wr.cell? ⟨g6, 8, none⟩ = some (.int .i64 (s.out : Int)) := row_cell hI.out.2.2.1 8
          have b9 : wr.cell? ⟨g6, 9, none⟩ = some (.int .i64 (s.left : Int)) := row_cell hI.out.2.2.1 9
          have b10 : wr.cell? ⟨g6, 10, none⟩ = some (.int .i64 (s.started : Int)) := row_cell hI.out.2.2.1 10
          have b11 : wr.cell? ⟨g6, 11, none⟩ = some (.int .i64 (s.done : Int)) := row_cell hI.out.2.2.1 11
          have e1 : go ≠ g6 := by have := HG1.out; omega
          have e2 : g6 ≠ go := by have := HG1.out; omega
          have wt : IntKind.i64.wrap ((o.ticks : Int) + (s.ticks : Int)) = ((o.ticks + s.ticks : Nat) : Int) := by
            have := HFo.out.1.ticks; have := HS.out.1.ticks; have := HFo.out.2; rw [IntKind.wrap_i64]; omega
          have wq : IntKind.i64.wrap ((o.quorums : Int) + (s.quorums : Int)) = ((o.quorums + s.quorums : Nat) : Int) := by
            have := HFo.out.1.quorums; have := HS.out.1.quorums; have := HFo.out.2; rw [IntKind.wrap_i64]; omega
          have wl : IntKind.i64.wrap ((o.leaks : Int) + (s.leaks : Int)) = ((o.leaks + s.leaks : Nat) : Int) := by
            have := HFo.out.1.leaks; have := HS.out.1.leaks; have := HFo.out.2; rw [IntKind.wrap_i64]; omega
          have wo : IntKind.i64.wrap ((o.out : Int) + (s.out : Int)) = ((o.out + s.out : Nat) : Int) := by
            have := HFo.out.1.out; have := HS.out.1.out; have := HFo.out.2; rw [IntKind.wrap_i64]; omega
          have we : IntKind.i64.wrap ((o.left : Int) + (s.left : Int)) = ((o.left + s.left : Nat) : Int) := by
            have := HFo.out.1.left; have := HS.out.1.left; have := HFo.out.2; rw [IntKind.wrap_i64]; omega
          have ws : IntKind.i64.wrap ((o.started : Int) + (s.started : Int)) = ((o.started + s.started : Nat) : Int) := by
            have := HFo.out.1.started; have := HS.out.1.started; have := HFo.out.2; rw [IntKind.wrap_i64]; omega
          have wd : IntKind.i64.wrap ((o.done : Int) + (s.done : Int)) = ((o.done + s.done : Nat) : Int) := by
            have := HFo.out.1.done; have := HS.out.1.done; have := HFo.out.2; rw [IntKind.wrap_i64]; omega
          go_wp2_with fail
          refine ⟨⟨j + 1, by go_num, by omega, Lib.hid ⟨?_, ?_, ?_, ?_⟩⟩, by simp [intOf]; omega⟩
          · have := HG1.out
            rw [row_far _ _ _ _ (by show _ ≠ go; omega), row_far _ _ _ _ (by show _ ≠ go; omega), row_far _ _ _ _ (by show _ ≠ go; omega), row_far _ _ _ _ (by show _ ≠ go; omega), row_far _ _ _ _ (by show _ ≠ go; omega), row_far _ _ _ _ (by show _ ≠ go; omega), row_far _ _ _ _ (by show _ ≠ go; omega)]
            exact hI.out.1
          · rw [HStep.out, row_setCell, row_setCell, row_setCell, row_setCell, row_setCell, row_setCell, row_setCell, hI.out.2.1]
            rfl
          · rw [HStep.out]
            intro i hi
            rw [addS_mon]
            exact hI.out.2.2.2.2.1 i hi
          · have hg : w.heap.size ≤ go := by have := HG1.out; omega
            have B0 := hI.out.2.2.2.2.2
            exact Below.setCell (Below.setCell (Below.setCell (Below.setCell (Below.setCell (Below.setCell (Below.setCell B0 (p := ⟨go, 0, none⟩) hg _) (p := ⟨go, 1, none⟩) hg _) (p := ⟨go, 2, none⟩) hg _) (p := ⟨go, 8, none⟩) hg _) (p := ⟨go, 9, none⟩) hg _) (p := ⟨go, 10, none⟩) hg _) (p := ⟨go, 11, none⟩) hg _
    · obtain rfl : j = n := by omega
      have hts : xs.take j = xs := List.take_of_length_le (by rw [HN.out]; exact Nat.le_refl _)
      have hgo := hH.out.2.1
      rw [hts] at hgo
      have HVV : Hid (togE xs = 0 ∧ togV xs = totS xs) := Lib.hid (by
        have h3 := hH.out.2.2.1
        rw [hts] at h3
        exact ⟨by rw [HT.out.1, if_pos h3], by rw [HT.out.2, if_pos h3]⟩)
      have hp := hH.out.1
      have B9 := Lib.hid hH.out.2.2.2
      generalize totS xs = tt at *
      obtain ⟨t9, ht9⟩ := row_heap (row_setRow (new := smC tt) hp)
      have HT9 := Lib.hid ht9
      clear ht9 hH hts
      go_wp2_with fail
      exact bodyPost_ret (v := .tuple #[.agg (smC tt), .int .i64 0]) (results_cell_tmp Try.results55 _ _ w.heap.size _ (smC tt) (0, 0) _ rfl HT9.out sums_under rfl sums_info) rfl ⟨by rw [HVV.out.1, HVV.out.2], Below.setRow B9.out (Nat.le_refl _) _⟩
end Go.Proofs.Ytnakkjgnjffkpaa
