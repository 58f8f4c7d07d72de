/-
  The plain law of parameters' bytes: what is written, and what is read.
  Parameters written: param.wides, narrows, Write and Encode.
  A writer through many calls: what it holds now, and what has turned since a world.
  Parameters written: param.Write and Encode.
  Parameters read: param.Read and Decode.
  Parameters that are read by a reader that is none.
-/
import Derived.Test.YtecdfphfgaeodaaPar
import Derived.Test.YtecdfphfgaeodaaCoderP
import Derived.Test.YtecdfphfgaeodaaCoder2
import Derived.Test.YtecdfphfgaeodaaCheck
import Derived.Test.YtecdfphfgaeodaaSlices
import Derived.IntWalk
import Derived.Test.YtecdfphfgaeodaaCoder
import Derived.Test.YtecdfphfgaeodaaCoder6
import Derived.Test.YtecdfphfgaeodaaBackP
import Derived.Test.YtecdfphfgaeodaaSt
import Derived.Test.YtecdfphfgaeodaaFine2
namespace Go.Proofs.Ytecdfphfgaeodaa
open Go.RowKit
set_option linter.unusedVariables false

def wideL (P : Par) : List Nat := [P.inc, P.maxEff, P.floor, P.cap, P.up, P.down, P.bias, P.quot, P.biasEm, P.quotEm, P.recover, P.scoreCap, P.rate, P.bond]
def narrL (P : Par) : List Int := [P.delay, P.streak, P.boost, P.absent, P.burn, P.churn, P.wait, P.poll, P.enact, P.quorum]
theorem wideL_len (P : Par) : (wideL P).length = 14 := rfl
theorem narrL_len (P : Par) : (narrL P).length = 10 := rfl
def wtW (s : Wt) (P : Par) (i : Nat) : Wt := ((wideL P).take i).foldl Wt.num s
def wtI (s : Wt) (P : Par) (i : Nat) : Wt := ((narrL P).take i).foldl Wt.int (wtW s P 14)
def wtP (s : Wt) (P : Par) : Wt := wtI s P 10
def formP (P : Par) : List Nat := (wideL P).flatMap formN ++ (narrL P).flatMap fun n => formN n.toNat
theorem fold_step {α β : Type} (f : β → α → β) (b : β) (l : List α) (i : Nat) (x : α) (h : l[i]? = some x) : (l.take (i + 1)).foldl f b = f ((l.take i).foldl f b) x := by
  obtain ⟨hi, rfl⟩ := List.getElem?_eq_some_iff.1 h
  rw [List.take_succ_eq_append_getElem hi, List.foldl_append]; rfl
theorem wtW_succ (s : Wt) (P : Par) (i : Nat) (n : Nat) (h : (wideL P)[i]? = some n) : wtW s P (i + 1) = (wtW s P i).num n := fold_step _ _ _ _ _ h
theorem wtI_succ (s : Wt) (P : Par) (i : Nat) (n : Int) (h : (narrL P)[i]? = some n) : wtI s P (i + 1) = (wtI s P i).int n := fold_step _ _ _ _ _ h
theorem wtI_zero (s : Wt) (P : Par) : wtI s P 0 = wtW s P 14 := rfl
theorem fold_ok {α : Type} {f : Wt → α → Wt} (hf : ∀ s x, s.Ok → (f s x).Ok) : ∀ (l : List α) (s : Wt), s.Ok → (l.foldl f s).Ok
  | [], s, h => h
  | x :: r, s, h => fold_ok hf r (f s x) (hf s x h)
theorem wtW_ok {s : Wt} (h : s.Ok) (P : Par) (i : Nat) : (wtW s P i).Ok := fold_ok (fun s x h => h.num x) _ _ h
theorem wtI_ok {s : Wt} (h : s.Ok) (P : Par) (i : Nat) : (wtI s P i).Ok := fold_ok (fun s x h => h.int x) _ _ (wtW_ok h P 14)
theorem flat_le {α : Type} (f : α → List Nat) : ∀ (l : List α), (∀ x ∈ l, (f x).length ≤ 10) → (l.flatMap f).length ≤ 10 * l.length
  | [], _ => by simp
  | x :: r, h => by
    have h1 := h x (List.mem_cons_self ..)
    have h2 := flat_le f r (fun y hy => h y (List.mem_cons_of_mem _ hy))
    rw [List.flatMap_cons, List.length_append, List.length_cons]; omega
theorem fold_put {α : Type} (g : Wt → α → Wt) (f : α → List Nat) : ∀ (l : List α) (s : Wt), (∀ x ∈ l, (f x).length ≤ 10 ∧ ∀ s : Wt, g s x = s.put (f x)) → s.e = 0 → s.xs.length + 10 * l.length ≤ 131072 → l.foldl g s = ⟨s.xs ++ l.flatMap f, 0⟩
  | [], s, _, h0, _ => by cases s; simp at h0; simp [h0]
  | x :: r, s, h, h0, hl => by
    obtain ⟨h1, h2⟩ := h x (List.mem_cons_self ..)
    rw [List.length_cons] at hl
    rw [List.foldl_cons, h2, Wt.put_fit h0 (by omega), fold_put g f r ⟨s.xs ++ f x, 0⟩ (fun y hy => h y (List.mem_cons_of_mem _ hy)) rfl (by rw [List.length_append]; omega)]
    simp
theorem int_put {s : Wt} {n : Int} (h : 0 ≤ n) : s.int n = s.put (formN n.toNat) := by
  unfold Wt.int; rw [if_neg (by omega)]; rfl
structure Fits7 (P : Par) : Prop where
  wide : ∀ n ∈ wideL P, n < 18446744073709551616
  narr : ∀ n ∈ narrL P, 0 ≤ n ∧ n ≤ 2147483647
theorem wtP_form {s : Wt} {P : Par} (h : Fits7 P) (h0 : s.e = 0) (hl : s.xs.length ≤ 100000) : wtP s P = ⟨s.xs ++ formP P, 0⟩ := by
  unfold wtP wtI wtW
  rw [List.take_of_length_le (Nat.le_of_eq (narrL_len P)), List.take_of_length_le (Nat.le_of_eq (wideL_len P))]
  have e1 := fold_put Wt.num formN (wideL P) s (fun x hx => ⟨formN_len10 (h.wide x hx), fun _ => rfl⟩) h0 (by rw [wideL_len]; omega)
  have hl2 := flat_le formN (wideL P) (fun x hx => formN_len10 (h.wide x hx))
  rw [wideL_len] at hl2
  rw [e1, fold_put Wt.int (fun n => formN n.toNat) (narrL P) ⟨s.xs ++ (wideL P).flatMap formN, 0⟩ (fun x hx => ⟨formN_len10 (by have := h.narr x hx; omega), fun s => int_put (h.narr x hx).1⟩) rfl (by rw [narrL_len, List.length_append]; omega)]
  unfold formP
  rw [List.append_assoc]
theorem formP_len {P : Par} (h : Fits7 P) : (formP P).length ≤ 240 := by
  have h1 := flat_le formN (wideL P) (fun x hx => formN_len10 (h.wide x hx))
  have h2 := flat_le (fun n : Int => formN n.toNat) (narrL P) (fun x hx => formN_len10 (by have := h.narr x hx; omega))
  rw [wideL_len] at h1
  rw [narrL_len] at h2
  unfold formP
  rw [List.length_append]; omega
theorem formP_ok (P : Par) : bytesOk (formP P) := .of fun x hx => by
  unfold formP at hx
  rcases List.mem_append.1 hx with hx | hx
  · obtain ⟨n, _, hn⟩ := List.mem_flatMap.1 hx; exact formN_mem _ x hn
  · obtain ⟨n, _, hn⟩ := List.mem_flatMap.1 hx; exact formN_mem _ x hn
/-! ### Reading -/
def rdW (t : Rd) : Nat → List Nat × Rd
  | 0 => ([], t)
  | i + 1 => ((rdW t i).1 ++ [((rdW t i).2.num 18446744073709551615).1], ((rdW t i).2.num 18446744073709551615).2)
def rdI (t : Rd) : Nat → List Nat × Rd
  | 0 => ([], t)
  | i + 1 => ((rdI t i).1 ++ [((rdI t i).2.num 2147483647).1], ((rdI t i).2.num 2147483647).2)
theorem rdW_len (t : Rd) : ∀ i, (rdW t i).1.length = i
  | 0 => rfl
  | i + 1 => by rw [rdW, List.length_append, rdW_len t i]; rfl
theorem rdI_len (t : Rd) : ∀ i, (rdI t i).1.length = i
  | 0 => rfl
  | i + 1 => by rw [rdI, List.length_append, rdI_len t i]; rfl
theorem rdW_ok {t : Rd} (h : t.Ok) : ∀ i, (rdW t i).2.Ok ∧ (rdW t i).2.xs = t.xs
  | 0 => ⟨h, rfl⟩
  | i + 1 => ⟨(rdW_ok h i).1.num _, ((rdW t i).2.num_xs _).trans (rdW_ok h i).2⟩
theorem rdI_ok {t : Rd} (h : t.Ok) : ∀ i, (rdI t i).2.Ok ∧ (rdI t i).2.xs = t.xs
  | 0 => ⟨h, rfl⟩
  | i + 1 => ⟨(rdI_ok h i).1.num _, ((rdI t i).2.num_xs _).trans (rdI_ok h i).2⟩
def parOf (a b : List Nat) : Par := ⟨a.getD 0 0, a.getD 1 0, a.getD 2 0, a.getD 3 0, a.getD 4 0, a.getD 5 0, a.getD 6 0, a.getD 7 0, a.getD 8 0, a.getD 9 0, a.getD 10 0, a.getD 11 0, a.getD 12 0, a.getD 13 0, ((b.getD 0 0 : Nat) : Int), ((b.getD 1 0 : Nat) : Int), ((b.getD 2 0 : Nat) : Int), ((b.getD 3 0 : Nat) : Int), ((b.getD 4 0 : Nat) : Int), ((b.getD 5 0 : Nat) : Int), ((b.getD 6 0 : Nat) : Int), ((b.getD 7 0 : Nat) : Int), ((b.getD 8 0 : Nat) : Int), ((b.getD 9 0 : Nat) : Int)⟩
def readP (t : Rd) : Par := parOf (rdW t 14).1 (rdI (rdW t 14).2 10).1
def readT (t : Rd) : Rd := (rdI (rdW t 14).2 10).2
theorem readT_ok {t : Rd} (h : t.Ok) : (readT t).Ok ∧ (readT t).xs = t.xs := by
  have h1 := rdW_ok h 14
  have h2 := rdI_ok h1.1 10
  exact ⟨h2.1, h2.2.trans h1.2⟩
def Par.zero : Par := parOf [] []
theorem set_wide (b : List Nat) (n : Nat) : ∀ (l : List Nat), l.length < 14 → (parOf l b).cells.setIfInBounds l.length (.int .u64 (n : Int)) = (parOf (l ++ [n]) b).cells
  | [], _ => rfl
  | [x0], _ => rfl
  | [x0, x1], _ => rfl
  | [x0, x1, x2], _ => rfl
  | [x0, x1, x2, x3], _ => rfl
  | [x0, x1, x2, x3, x4], _ => rfl
  | [x0, x1, x2, x3, x4, x5], _ => rfl
  | [x0, x1, x2, x3, x4, x5, x6], _ => rfl
  | [x0, x1, x2, x3, x4, x5, x6, x7], _ => rfl
  | [x0, x1, x2, x3, x4, x5, x6, x7, x8], _ => rfl
  | [x0, x1, x2, x3, x4, x5, x6, x7, x8, x9], _ => rfl
  | [x0, x1, x2, x3, x4, x5, x6, x7, x8, x9, x10], _ => rfl
  | [x0, x1, x2, x3, x4, x5, x6, x7, x8, x9, x10, x11], _ => rfl
  | [x0, x1, x2, x3, x4, x5, x6, x7, x8, x9, x10, x11, x12], _ => rfl
  | x0 :: x1 :: x2 :: x3 :: x4 :: x5 :: x6 :: x7 :: x8 :: x9 :: x10 :: x11 :: x12 :: x13 :: r, h => by simp only [List.length_cons] at h; omega
theorem set_narr (a : List Nat) (n : Nat) : ∀ (l : List Nat), l.length < 10 → (parOf a l).cells.setIfInBounds (14 + l.length) (.int .i64 (n : Int)) = (parOf a (l ++ [n])).cells
  | [], _ => rfl
  | [x0], _ => rfl
  | [x0, x1], _ => rfl
  | [x0, x1, x2], _ => rfl
  | [x0, x1, x2, x3], _ => rfl
  | [x0, x1, x2, x3, x4], _ => rfl
  | [x0, x1, x2, x3, x4, x5], _ => rfl
  | [x0, x1, x2, x3, x4, x5, x6], _ => rfl
  | [x0, x1, x2, x3, x4, x5, x6, x7], _ => rfl
  | [x0, x1, x2, x3, x4, x5, x6, x7, x8], _ => rfl
  | x0 :: x1 :: x2 :: x3 :: x4 :: x5 :: x6 :: x7 :: x8 :: x9 :: r, h => by simp only [List.length_cons] at h; omega
theorem wide_at (P : Par) (i : Nat) (h : i < 14) : ∃ n, (wideL P)[i]? = some n ∧ P.cells[i]? = some (.int .u64 (n : Int)) := by
  match i, h with
  | 0, _ => exact ⟨_, rfl, rfl⟩
  | 1, _ => exact ⟨_, rfl, rfl⟩
  | 2, _ => exact ⟨_, rfl, rfl⟩
  | 3, _ => exact ⟨_, rfl, rfl⟩
  | 4, _ => exact ⟨_, rfl, rfl⟩
  | 5, _ => exact ⟨_, rfl, rfl⟩
  | 6, _ => exact ⟨_, rfl, rfl⟩
  | 7, _ => exact ⟨_, rfl, rfl⟩
  | 8, _ => exact ⟨_, rfl, rfl⟩
  | 9, _ => exact ⟨_, rfl, rfl⟩
  | 10, _ => exact ⟨_, rfl, rfl⟩
  | 11, _ => exact ⟨_, rfl, rfl⟩
  | 12, _ => exact ⟨_, rfl, rfl⟩
  | 13, _ => exact ⟨_, rfl, rfl⟩
  | k + 14, h => omega
theorem narr_at (P : Par) (i : Nat) (h : i < 10) : ∃ n, (narrL P)[i]? = some n ∧ P.cells[14 + i]? = some (.int .i64 n) := by
  match i, h with
  | 0, _ => exact ⟨_, rfl, rfl⟩
  | 1, _ => exact ⟨_, rfl, rfl⟩
  | 2, _ => exact ⟨_, rfl, rfl⟩
  | 3, _ => exact ⟨_, rfl, rfl⟩
  | 4, _ => exact ⟨_, rfl, rfl⟩
  | 5, _ => exact ⟨_, rfl, rfl⟩
  | 6, _ => exact ⟨_, rfl, rfl⟩
  | 7, _ => exact ⟨_, rfl, rfl⟩
  | 8, _ => exact ⟨_, rfl, rfl⟩
  | 9, _ => exact ⟨_, rfl, rfl⟩
  | k + 10, h => omega
end Go.Proofs.Ytecdfphfgaeodaa

namespace Go.Proofs.Ytecdfphfgaeodaa
open Go.RowKit
set_option linter.unusedVariables false

def ptrsV (g o n : Nat) : Array Value := ((List.range n).map fun i => Value.pointer (some ⟨g, o + i, none⟩)).toArray
theorem ptrsV_at {g o n i : Nat} (h : i < n) : (ptrsV g o n)[i]? = some (.pointer (some ⟨g, o + i, none⟩)) := by
  unfold ptrsV
  rw [List.getElem?_toArray, List.getElem?_map, List.getElem?_range h]; rfl
def RetPtr (w : World) (g o n : Nat) (e : Ending) (w' : World) : Prop := ∃ h c, e = .returned (.slice (some ⟨h, 0, none⟩) n c) ∧ row w' h = some (ptrsV g o n) ∧ w.heap.size ≤ h ∧ Below w.heap.size w w'
theorem wides_list (v : Value) (w : World) : Calls Try.prog 95 #[v] w fun e w' => e = .returned v ∧ w = w' := by
  go_enter Try.func95, Try.ntmps95
  go_wp2_with fail
  go_ret
  exact ⟨rfl, rfl⟩
set_option maxRecDepth 100000 in
set_option maxHeartbeats 2000000 in
theorem wides_any (g : Nat) (w : World) : Calls Try.prog 77 #[.pointer (some ⟨g, 0, none⟩)] w (RetPtr w g 0 14) := by
  go_enter Try.func77, Try.ntmps77
  go_wp2_with fail
  go_region_held3 (fun w' => True) (exact trivial) (first | (go_at_call 95; refine (wides_list _ _).mono ?_; rintro e w1 ⟨rfl, rfl⟩))
  go_wp2_with fail
  go_ret
  exact ⟨w.heap.size, 14, rfl, (by (repeat (first | assumption | (refine row_at _ _ _ _ ?_; first | rfl | (simp only [World.size_alloc]; done) | (simp only [World.size_alloc]; omega)) | (refine (row_past _ _ _ ?_).trans ?_; (focus (first | exact Nat.lt_succ_self _ | ((repeat rw [World.size_alloc]); omega) | (simp; done) | (simp; omega) | omega))) | rw [row_drewN] | rw [row_drew])); (first | done | fail)), Nat.le_refl _, (by (repeat (first | exact Below.refl _ _ | assumption | (refine Below.allocT ?_ _) | refine Below.drew ?_ | refine below_drewN ?_ _ | (refine Below.then ?_ (by assumption)) | (refine Below.setRow ?_ ?_ _; rotate_left; (focus (first | exact Nat.lt_succ_self _ | ((repeat rw [World.size_alloc]); omega) | (simp; done) | (simp; omega) | omega))) | (refine Below.setCell ?_ ?_ _; rotate_left; (focus (first | exact Nat.lt_succ_self _ | ((repeat rw [World.size_alloc]); omega) | (simp; done) | (simp; omega) | omega))) | (refine Below.then' ?_ (by assumption) ?_; rotate_left; (focus (first | exact Nat.lt_succ_self _ | ((repeat rw [World.size_alloc]); omega) | (simp; done) | (simp; omega) | omega))) | fail)); (first | done | fail))⟩
theorem narrows_list (v : Value) (w : World) : Calls Try.prog 96 #[v] w fun e w' => e = .returned v ∧ w = w' := by
  go_enter Try.func96, Try.ntmps96
  go_wp2_with fail
  go_ret
  exact ⟨rfl, rfl⟩
set_option maxRecDepth 100000 in
set_option maxHeartbeats 2000000 in
theorem narrows_any (g : Nat) (w : World) : Calls Try.prog 78 #[.pointer (some ⟨g, 0, none⟩)] w (RetPtr w g 14 10) := by
  go_enter Try.func78, Try.ntmps78
  go_wp2_with fail
  go_region_held3 (fun w' => True) (exact trivial) (first | (go_at_call 96; refine (narrows_list _ _).mono ?_; rintro e w1 ⟨rfl, rfl⟩))
  go_wp2_with fail
  go_ret
  exact ⟨w.heap.size, 10, rfl, (by (repeat (first | assumption | (refine row_at _ _ _ _ ?_; first | rfl | (simp only [World.size_alloc]; done) | (simp only [World.size_alloc]; omega)) | (refine (row_past _ _ _ ?_).trans ?_; (focus (first | exact Nat.lt_succ_self _ | ((repeat rw [World.size_alloc]); omega) | (simp; done) | (simp; omega) | omega))) | rw [row_drewN] | rw [row_drew])); (first | done | fail)), Nat.le_refl _, (by (repeat (first | exact Below.refl _ _ | assumption | (refine Below.allocT ?_ _) | refine Below.drew ?_ | refine below_drewN ?_ _ | (refine Below.then ?_ (by assumption)) | (refine Below.setRow ?_ ?_ _; rotate_left; (focus (first | exact Nat.lt_succ_self _ | ((repeat rw [World.size_alloc]); omega) | (simp; done) | (simp; omega) | omega))) | (refine Below.setCell ?_ ?_ _; rotate_left; (focus (first | exact Nat.lt_succ_self _ | ((repeat rw [World.size_alloc]); omega) | (simp; done) | (simp; omega) | omega))) | (refine Below.then' ?_ (by assumption) ?_; rotate_left; (focus (first | exact Nat.lt_succ_self _ | ((repeat rw [World.size_alloc]); omega) | (simp; done) | (simp; omega) | omega))) | fail)); (first | done | fail))⟩
end Go.Proofs.Ytecdfphfgaeodaa

namespace Go.Proofs.Ytecdfphfgaeodaa
open Go.RowKit
set_option linter.unusedVariables false

def WtGo (w0 : World) (g : Nat) (o : Option Nat) (s : Wt) (W : World) : Prop := ∃ o', WtAt W g o' s ∧ (o' = o ∨ ∃ k, o' = some k ∧ w0.heap.size ≤ k) ∧ Chg (WS g o) w0 W
section
variable {w0 W w' : World} {g : Nat} {o : Option Nat} {s s' : Wt}
theorem WtGo.start (h : WtAt W g o s) : WtGo W g o s W := ⟨o, h, .inl rfl, Chg.refl _ _⟩
theorem WtGo.trans {o1 : Option Nat} {W1 : World} (h1 : WtAt W1 g o1 s) (h2 : o1 = o ∨ ∃ k, o1 = some k ∧ w0.heap.size ≤ k) (h3 : Chg (WS g o) w0 W1) (h : WtGo W1 g o1 s' W) : WtGo w0 g o s' W := by
  obtain ⟨o', a, b, c⟩ := h
  refine ⟨o', a, ?_, h3.andThen c ?_⟩
  · rcases b with rfl | ⟨k, rfl, hk⟩
    · exact h2
    · exact .inr ⟨k, rfl, Nat.le_trans h3.size hk⟩
  · intro k hk
    rcases hk with rfl | hk
    · exact .inl (.inl rfl)
    · rcases h2 with rfl | ⟨j, rfl, hj⟩
      · exact .inl (.inr hk)
      · cases hk; exact .inr hj
theorem WtGo.step {o1 : Option Nat} {W1 : World} {e : Ending} (h1 : WtAt W1 g o1 s) (h2 : o1 = o ∨ ∃ k, o1 = some k ∧ w0.heap.size ≤ k) (h3 : Chg (WS g o) w0 W1) (hp : WtPost W1 g o1 s' e w') : e = unitE ∧ WtGo w0 g o s' w' :=
  ⟨hp.1, WtGo.trans h1 h2 h3 hp.2⟩
theorem WtGo.call {P : Program} {f : FuncId} {args : Array Value} (h : WtGo w0 g o s W) (hc : ∀ o', WtAt W g o' s → Calls P f args W (WtPost W g o' s')) : Calls P f args W fun e w' => e = unitE ∧ WtGo w0 g o s' w' := by
  obtain ⟨o1, h1, h2, h3⟩ := h
  exact (hc o1 h1).mono fun e w' hp => WtGo.step h1 h2 h3 hp
theorem WtGo.row (h : WtGo w0 g o s W) {k : Nat} (hk : k < w0.heap.size) (hn : ¬ WS g o k) : row W k = row w0 k := by
  obtain ⟨o1, h1, h2, h3⟩ := h
  exact h3.row hk hn
theorem WtGo.size (h : WtGo w0 g o s W) : w0.heap.size ≤ W.heap.size := by
  obtain ⟨o1, h1, h2, h3⟩ := h
  exact h3.size
theorem WtGo.below {W' : World} (h : WtGo w0 g o s W) (hb : Below W.heap.size W W') : WtGo w0 g o s W' := by
  obtain ⟨o1, h1, h2, h3⟩ := h
  exact ⟨o1, h1.stay hb, h2, h3.below_then hb (Nat.le_refl _)⟩
theorem WtGo.before {w1 : World} (hb : Below w0.heap.size w0 w1) (h : WtGo w1 g o s W) : WtGo w0 g o s W := by
  obtain ⟨o1, h1, h2, h3⟩ := h
  refine ⟨o1, h1, ?_, ((Chg.of_below (S := WS g o) hb (Nat.le_refl _)).andThen h3 fun k hk => .inl hk)⟩
  rcases h2 with rfl | ⟨k, rfl, hk⟩
  · exact .inl rfl
  · exact .inr ⟨k, rfl, Nat.le_trans hb.size hk⟩
theorem WS_not {k : Nat} {W : World} (h : WtAt W g o s) (hk : W.heap.size ≤ k) : ¬ WS g o k := fun hs => by
  rcases hs with rfl | hs
  · exact absurd h.lt.1 (by omega)
  · exact absurd (h.lt.2 k hs) (by omega)
end
end Go.Proofs.Ytecdfphfgaeodaa

namespace Go.Proofs.Ytecdfphfgaeodaa
open Go.RowKit
set_option linter.unusedVariables false

theorem right_fits {P : Par} (h : rightB P = true) : Fits7 P := by
  obtain ⟨h1, h2, h3, _, _⟩ := right_facts h
  have a := stakes_facts h1
  have b := scores_facts h2
  have c := others_facts h3
  refine ⟨fun n hn => ?_, fun n hn => ?_⟩
  · simp only [wideL, List.mem_cons, List.not_mem_nil, or_false] at hn
    rcases hn with rfl | rfl | rfl | rfl | rfl | rfl | rfl | rfl | rfl | rfl | rfl | rfl | rfl | rfl <;> omega
  · simp only [narrL, List.mem_cons, List.not_mem_nil, or_false] at hn
    rcases hn with rfl | rfl | rfl | rfl | rfl | rfl | rfl | rfl | rfl | rfl <;> omega
set_option maxRecDepth 100000 in
set_option maxHeartbeats 8000000 in
theorem pwrite_yes (g : Nat) (o : Option Nat) (s : Wt) (hs : s.Ok) (P : Par) (hr : rightB P = true) (w : World) (hW : WtAt w g o s) : Calls Try.prog 51 #[.pointer (some ⟨g, 0, none⟩), .agg P.cells] w fun e w' => e = .returned (.int .i64 0) ∧ WtGo w g o (wtP s P) w' := by
  have r0 : row (w.alloc (.cells P.cells 24)) w.heap.size = some P.cells := row_at _ _ _ _ rfl
  have hB0 : Below w.heap.size w (w.alloc (.cells P.cells 24)) := (by (repeat (first | exact Below.refl _ _ | assumption | (refine Below.allocT ?_ _) | refine Below.drew ?_ | refine below_drewN ?_ _ | (refine Below.then ?_ (by assumption)) | (refine Below.setRow ?_ ?_ _; rotate_left; (focus (first | exact Nat.lt_succ_self _ | ((repeat rw [World.size_alloc]); omega) | (simp; done) | (simp; omega) | omega))) | (refine Below.setCell ?_ ?_ _; rotate_left; (focus (first | exact Nat.lt_succ_self _ | ((repeat rw [World.size_alloc]); omega) | (simp; done) | (simp; omega) | omega))) | (refine Below.then' ?_ (by assumption) ?_; rotate_left; (focus (first | exact Nat.lt_succ_self _ | ((repeat rw [World.size_alloc]); omega) | (simp; done) | (simp; omega) | omega))) | fail)); (first | done | fail))
  have HC := Lib.hid (fun W => check_any P W)
  rw [show checkE P = 0 by simp [checkE, hr]] at HC
  have HF := Lib.hid (right_fits hr)
  have HS := Lib.hid hs
  have HN : Hid (¬ WS g o w.heap.size) := Lib.hid (WS_not hW (Nat.le_refl _))
  have HW := Lib.hid hW
  have HP : Hid (wtP s P = wtI s P 10) := Lib.hid rfl
  have HZ := Lib.hid (wtI_zero s P)
  have HE : Hid (∀ W, WtGo w g o (wtI s P 10) W → WtGo w g o (wtP s P) W) := Lib.hid fun W h => h
  clear hr hs hW
  go_enter Try.func51, Try.ntmps51
  go_wp2_with fail
  generalize w.alloc (.cells P.cells 24) = w0 at *
  refine (HC.out _).mono ?_
  rintro e w1 ⟨rfl, hb1⟩
  have r1 := (row_below hb1 (row_lt r0)).trans r0
  have hB1 := Below.then hB0 hb1
  clear r0 hB0 hb1
  go_wp2_with fail
  refine (wides_any w.heap.size _).mono ?_
  rintro e w2 ⟨h, c2, rfl, q2, hh, hb2⟩
  have r2 := (row_below hb2 (row_lt r1)).trans r1
  have B2 := Lib.hid (Below.then hB1 hb2)
  have A2 := Lib.hid (HW.out.stay B2.out)
  have L2 := Lib.hid (And.intro (row_lt r2) (row_lt q2))
  have N2 : Hid (¬ WS g o h) := Lib.hid (WS_not HW.out (Nat.le_trans hB1.size hh))
  clear r1 hB1 hb2 hh
  go_wp2_with fail
  go_loopw [17] (fun i wr => ∃ j : Nat, i = .int .i64 j ∧ j ≤ 14 ∧ Hid (WtGo w2 g o (wtW s P j) wr)) (fun i _ => 14 - (intOf i).toNat)
  case atStart => exact ⟨0, rfl, by omega, Lib.hid (WtGo.start A2.out)⟩
  case round =>
    obtain ⟨j, rfl, hj, hG⟩ := hrel
    have rr := (hG.out.row L2.out.1 HN.out).trans r2
    have qr := (hG.out.row L2.out.2 N2.out).trans q2
    by_cases hlt : j < 14
    · obtain ⟨n, hn1, hn2⟩ := wide_at P j hlt
      have k1 := (row_cell rr j).trans hn2
      have k2 := (row_cell qr j).trans (ptrsV_at hlt)
      rw [Nat.zero_add] at k2
      have hnl := HF.out.wide n (List.mem_of_getElem? hn1)
      have HX := Lib.hid (hG.out.call (s' := wtW s P (j + 1)) (fun o' ho => (wnum_any g o' (wtW s P j) (wtW_ok HS.out P j) n hnl wr ho).mono fun e w' hp => hp.cast (wtW_succ s P j n hn1).symm))
      have z1 : (0 : Int) ≤ (j : Int) := by omega
      have z2 : (j : Int) < 14 := by omega
      clear hn1 hn2 rr qr hnl
      go_wp2_with fail
      refine (HX.out).mono ?_
      rintro e w3 ⟨rfl, hG3⟩
      have HG3 := Lib.hid hG3
      clear hG3
      go_wp2_with fail
      exact ⟨⟨j + 1, by go_num, by omega, HG3⟩, by simp [intOf]; omega⟩
    · obtain rfl : j = 14 := by omega
      clear qr q2 N2
      go_wp2_with fail
      refine (narrows_any w.heap.size _).mono ?_
      rintro e w4 ⟨h4, c4, rfl, q4, hh4, hb4⟩
      have r4 := (row_below hb4 (row_lt rr)).trans rr
      obtain ⟨o4, A4r, V4, C4r⟩ := hG.out
      have A4 := A4r.stay hb4
      have C4 := Lib.hid (C4r.below_then hb4 (Nat.le_refl _))
      have V4' := Lib.hid V4
      have L4 := Lib.hid (And.intro (row_lt r4) (row_lt q4))
      have N4 : Hid (¬ WS g o4 w.heap.size) := Lib.hid fun hk => by
        rcases hk with hk | hk
        · exact HN.out (.inl hk)
        · rcases V4 with rfl | ⟨k, rfl, hkk⟩
          · exact HN.out (.inr hk)
          · cases hk; have := L2.out.1; omega
      have M4 : Hid (¬ WS g o4 h4) := Lib.hid (WS_not A4r hh4)
      have A4h := Lib.hid A4
      clear rr r2 hG A4r C4r V4 A4 hb4 hh4
      go_wp2_with fail
      go_loopw [29] (fun i wr => ∃ j : Nat, i = .int .i64 j ∧ j ≤ 10 ∧ Hid (WtGo w4 g o4 (wtI s P j) wr)) (fun i _ => 10 - (intOf i).toNat)
      case atStart => exact ⟨0, rfl, by omega, Lib.hid (WtGo.start A4h.out)⟩
      case round =>
        obtain ⟨j, rfl, hj, hG⟩ := hrel
        have rr := (hG.out.row L4.out.1 N4.out).trans r4
        have qr := (hG.out.row L4.out.2 M4.out).trans q4
        by_cases hlt : j < 10
        · obtain ⟨n, hn1, hn2⟩ := narr_at P j hlt
          have k1 := (row_cell rr (14 + j)).trans hn2
          have k2 := (row_cell qr j).trans (ptrsV_at hlt)
          have hnl := HF.out.narr n (List.mem_of_getElem? hn1)
          have HX := Lib.hid (hG.out.call (s' := wtI s P (j + 1)) (fun o' ho => (wint_any g o' (wtI s P j) (wtI_ok HS.out P j) n (by unfold i64ok; omega) wr ho).mono fun e w' hp => hp.cast (wtI_succ s P j n hn1).symm))
          have z1 : (0 : Int) ≤ (j : Int) := by omega
          have z2 : (j : Int) < 10 := by omega
          clear hn1 hn2 rr qr hnl
          go_wp2_with fail
          refine (HX.out).mono ?_
          rintro e w5 ⟨rfl, hG5⟩
          have HG5 := Lib.hid hG5
          clear hG5
          go_wp2_with fail
          exact ⟨⟨j + 1, by go_num, by omega, HG5⟩, by simp [intOf]; omega⟩
        · obtain rfl : j = 10 := by omega
          clear rr qr
          go_wp2_with fail
          go_ret
          exact ⟨rfl, HE.out _ (WtGo.before B2.out (WtGo.trans A4h.out V4'.out C4.out hG.out))⟩
theorem pwrite_no (v : Value) (P : Par) (hr : rightB P = false) (w : World) : Calls Try.prog 51 #[v, .agg P.cells] w fun e w' => e = .returned (.int .i64 70) ∧ Below w.heap.size w w' := by
  have hB0 : Below w.heap.size w (w.alloc (.cells P.cells 24)) := (by (repeat (first | exact Below.refl _ _ | assumption | (refine Below.allocT ?_ _) | refine Below.drew ?_ | refine below_drewN ?_ _ | (refine Below.then ?_ (by assumption)) | (refine Below.setRow ?_ ?_ _; rotate_left; (focus (first | exact Nat.lt_succ_self _ | ((repeat rw [World.size_alloc]); omega) | (simp; done) | (simp; omega) | omega))) | (refine Below.setCell ?_ ?_ _; rotate_left; (focus (first | exact Nat.lt_succ_self _ | ((repeat rw [World.size_alloc]); omega) | (simp; done) | (simp; omega) | omega))) | (refine Below.then' ?_ (by assumption) ?_; rotate_left; (focus (first | exact Nat.lt_succ_self _ | ((repeat rw [World.size_alloc]); omega) | (simp; done) | (simp; omega) | omega))) | fail)); (first | done | fail))
  have HC := Lib.hid (fun W => check_any P W)
  rw [show checkE P = 70 by simp [checkE, hr]] at HC
  clear hr
  go_enter Try.func51, Try.ntmps51
  go_wp2_with fail
  generalize w.alloc (.cells P.cells 24) = w0 at *
  refine (HC.out _).mono ?_
  rintro e w1 ⟨rfl, hb1⟩
  have hB1 := Below.then hB0 hb1
  clear hB0 hb1
  go_wp2_with fail
  go_ret
  exact ⟨rfl, hB1⟩
set_option maxRecDepth 100000 in
set_option maxHeartbeats 8000000 in
theorem pwrite_nil (P : Par) (hr : rightB P = true) (w : World) : Calls Try.prog 51 #[.pointer none, .agg P.cells] w fun e w' => e = .returned (.int .i64 0) ∧ Below w.heap.size w w' := by
  have r0 : row (w.alloc (.cells P.cells 24)) w.heap.size = some P.cells := row_at _ _ _ _ rfl
  have hB0 : Below w.heap.size w (w.alloc (.cells P.cells 24)) := (by (repeat (first | exact Below.refl _ _ | assumption | (refine Below.allocT ?_ _) | refine Below.drew ?_ | refine below_drewN ?_ _ | (refine Below.then ?_ (by assumption)) | (refine Below.setRow ?_ ?_ _; rotate_left; (focus (first | exact Nat.lt_succ_self _ | ((repeat rw [World.size_alloc]); omega) | (simp; done) | (simp; omega) | omega))) | (refine Below.setCell ?_ ?_ _; rotate_left; (focus (first | exact Nat.lt_succ_self _ | ((repeat rw [World.size_alloc]); omega) | (simp; done) | (simp; omega) | omega))) | (refine Below.then' ?_ (by assumption) ?_; rotate_left; (focus (first | exact Nat.lt_succ_self _ | ((repeat rw [World.size_alloc]); omega) | (simp; done) | (simp; omega) | omega))) | fail)); (first | done | fail))
  have HC := Lib.hid (fun W => check_any P W)
  rw [show checkE P = 0 by simp [checkE, hr]] at HC
  clear hr
  go_enter Try.func51, Try.ntmps51
  go_wp2_with fail
  generalize w.alloc (.cells P.cells 24) = w0 at *
  refine (HC.out _).mono ?_
  rintro e w1 ⟨rfl, hb1⟩
  have r1 := (row_below hb1 (row_lt r0)).trans r0
  have hB1 := Below.then hB0 hb1
  clear r0 hB0 hb1
  go_wp2_with fail
  refine (wides_any w.heap.size _).mono ?_
  rintro e w2 ⟨h, c2, rfl, q2, hh, hb2⟩
  have r2 := (row_below hb2 (row_lt r1)).trans r1
  have B2 := Lib.hid (Below.then hB1 hb2)
  clear r1 hB1 hb2 hh
  go_wp2_with fail
  go_loopw [17] (fun i wr => ∃ j : Nat, i = .int .i64 j ∧ j ≤ 14 ∧ wr = w2) (fun i _ => 14 - (intOf i).toNat)
  case atStart => exact ⟨0, rfl, by omega, rfl⟩
  case round =>
    obtain ⟨j, rfl, hj, rfl⟩ := hrel
    by_cases hlt : j < 14
    · obtain ⟨n, hn1, hn2⟩ := wide_at P j hlt
      have k1 := (row_cell r2 j).trans hn2
      have k2 := (row_cell q2 j).trans (ptrsV_at hlt)
      rw [Nat.zero_add] at k2
      have z1 : (0 : Int) ≤ (j : Int) := by omega
      have z2 : (j : Int) < 14 := by omega
      have HX := Lib.hid (fun W => wnum_nil (n : Int) W)
      clear hn1 hn2
      go_wp2_with fail
      refine (HX.out _).mono ?_
      rintro e w3 ⟨rfl, rfl⟩
      go_wp2_with fail
      exact ⟨⟨j + 1, by go_num, by omega, trivial⟩, by simp [intOf]; omega⟩
    · obtain rfl : j = 14 := by omega
      go_wp2_with fail
      refine (narrows_any w.heap.size _).mono ?_
      rintro e w4 ⟨h4, c4, rfl, q4, hh4, hb4⟩
      have r4 := (row_below hb4 (row_lt r2)).trans r2
      have B4 := Lib.hid (Below.then B2.out hb4)
      clear r2 q2 B2 hb4 hh4
      go_wp2_with fail
      go_loopw [29] (fun i wr => ∃ j : Nat, i = .int .i64 j ∧ j ≤ 10 ∧ wr = w4) (fun i _ => 10 - (intOf i).toNat)
      case atStart => exact ⟨0, rfl, by omega, rfl⟩
      case round =>
        obtain ⟨j, rfl, hj, rfl⟩ := hrel
        by_cases hlt : j < 10
        · obtain ⟨n, hn1, hn2⟩ := narr_at P j hlt
          have k1 := (row_cell r4 (14 + j)).trans hn2
          have k2 := (row_cell q4 j).trans (ptrsV_at hlt)
          have z1 : (0 : Int) ≤ (j : Int) := by omega
          have z2 : (j : Int) < 10 := by omega
          have HX := Lib.hid (fun W => wint_nil n W)
          clear hn1 hn2
          go_wp2_with fail
          refine (HX.out _).mono ?_
          rintro e w5 ⟨rfl, rfl⟩
          go_wp2_with fail
          exact ⟨⟨j + 1, by go_num, by omega, trivial⟩, by simp [intOf]; omega⟩
        · obtain rfl : j = 10 := by omega
          go_wp2_with fail
          go_ret
          exact ⟨rfl, B4.out⟩
/-- What Encode answers: the bytes, or that the parameters are not right. -/
def encL (P : Par) : List Nat := if rightB P then formP P else []
def EncPost (w : World) (P : Par) (e : Ending) (w' : World) : Prop := ∃ A c, e = .returned (.tuple #[.slice A (encL P).length c, .int .i64 (checkE P)]) ∧ OwnB w' (.slice A (encL P).length c) (encL P) ∧ (∀ a, A = some a → w.heap.size ≤ a.block) ∧ Below w.heap.size w w'
set_option maxRecDepth 100000 in
set_option maxHeartbeats 4000000 in
theorem pencode_any (P : Par) (w : World) : Calls Try.prog 24 #[.agg P.cells] w (EncPost w P) := by
  have r0 : row (w.alloc (.cells P.cells 24)) w.heap.size = some P.cells := row_at _ _ _ _ rfl
  have hB0 : Below w.heap.size w (w.alloc (.cells P.cells 24)) := (by (repeat (first | exact Below.refl _ _ | assumption | (refine Below.allocT ?_ _) | refine Below.drew ?_ | refine below_drewN ?_ _ | (refine Below.then ?_ (by assumption)) | (refine Below.setRow ?_ ?_ _; rotate_left; (focus (first | exact Nat.lt_succ_self _ | ((repeat rw [World.size_alloc]); omega) | (simp; done) | (simp; omega) | omega))) | (refine Below.setCell ?_ ?_ _; rotate_left; (focus (first | exact Nat.lt_succ_self _ | ((repeat rw [World.size_alloc]); omega) | (simp; done) | (simp; omega) | omega))) | (refine Below.then' ?_ (by assumption) ?_; rotate_left; (focus (first | exact Nat.lt_succ_self _ | ((repeat rw [World.size_alloc]); omega) | (simp; done) | (simp; omega) | omega))) | fail)); (first | done | fail))
  cases hr : rightB P
  · have HN := Lib.hid (fun v W => pwrite_no v P hr W)
    have HV : Hid (encL P = [] ∧ checkE P = 70) := Lib.hid ⟨by simp [encL, hr], by simp [checkE, hr]⟩
    clear hr
    go_enter Try.func24, Try.ntmps24
    go_wp2_with (refine wpList_build_to #[.slice none 0 0, .int .i64 0] rfl 85 _ rfl (by kernel_rfl) ?_)
    have r1 := (row_past _ (.cells #[.slice none 0 0, .int .i64 0] 85) _ (row_lt r0)).trans r0
    have B1 := Lib.hid (Below.allocT hB0 (.cells #[.slice none 0 0, .int .i64 0] 85))
    clear r0 hB0
    go_wp2_with fail
    refine (HN.out _ _).mono ?_
    rintro e w2 ⟨rfl, hb2⟩
    have B2 := Lib.hid (Below.then B1.out hb2)
    clear hb2
    go_wp2_with fail
    go_ret2
    exact ⟨none, 0, by rw [HV.out.1, HV.out.2]; rfl, by rw [HV.out.1]; exact OwnB.nil _, (fun a h => by cases h), B2.out⟩
  · have HV : Hid (encL P = formP P ∧ checkE P = 0) := Lib.hid ⟨by simp [encL, hr], by simp [checkE, hr]⟩
    have HY := Lib.hid (fun g o W h => pwrite_yes g o Wt.none Wt.none_ok P hr W h)
    rw [show wtP Wt.none P = ⟨formP P, 0⟩ from (wtP_form (right_fits hr) rfl (by simp [Wt.none])).trans (by simp [Wt.none])] at HY
    have hok : Wt.Ok ⟨formP P, 0⟩ := ⟨formP_ok P, by have := formP_len (right_fits hr); show (formP P).length ≤ 131072; omega, by simp, by simp⟩
    have HO := Lib.hid (fun g o W h => wout_any g o ⟨formP P, 0⟩ hok W h)
    unfold OutPost at HO
    rw [show outL ⟨formP P, 0⟩ = formP P by simp [outL]] at HO
    clear hr hok
    go_enter Try.func24, Try.ntmps24
    go_wp2_with (refine wpList_build_to #[.slice none 0 0, .int .i64 0] rfl 85 _ rfl (by kernel_rfl) ?_)
    have r1 := (row_past _ (.cells #[.slice none 0 0, .int .i64 0] 85) _ (row_lt r0)).trans r0
    have B1 := Below.allocT hB0 (.cells #[.slice none 0 0, .int .i64 0] 85)
    have A1 := WtAt.fresh (w.alloc (.cells P.cells 24)) 85
    have hg1 : Hid (w.heap.size ≤ (w.alloc (.cells P.cells 24)).heap.size) := Lib.hid hB0.size
    clear r0 hB0
    go_wp2_with fail
    generalize (w.alloc (.cells P.cells 24)).alloc (.cells #[.slice none 0 0, .int .i64 0] 85) = w1 at *
    first | (simp only [World.size_alloc] at A1 hg1) | skip
    refine (HY.out _ _ _ A1).mono ?_
    rintro e w2 ⟨rfl, o2, A2, V2, C2⟩
    have B2 : Hid (Below w.heap.size w w2) := Lib.hid (B1.trans (C2.toBelow (B := w.heap.size) (fun k hk => by
      rcases hk with rfl | hk
      · first | exact hg1.out | (have := hg1.out; omega)
      · cases hk) B1.size))
    have A2h := Lib.hid A2
    clear A2 V2 C2 A1 B1 r1
    go_wp2_with fail
    refine (HO.out _ _ _ A2h.out).mono ?_
    rintro e w3 ⟨A3, c3, rfl, hO3, hA3, hb3⟩
    have B3 := Lib.hid (Below.then B2.out hb3)
    have O3 := Lib.hid hO3
    have A3h := Lib.hid hA3
    clear hO3 hA3 hb3
    go_wp2_with fail
    go_ret2
    exact ⟨A3, c3, by rw [HV.out.1, HV.out.2]; rfl, by rw [HV.out.1]; exact O3.out, fun a h => Nat.le_trans B2.out.size (A3h.out a h), B3.out⟩
end Go.Proofs.Ytecdfphfgaeodaa

namespace Go.Proofs.Ytecdfphfgaeodaa
open Go.RowKit
set_option linter.unusedVariables false

theorem par_some (P : Par) {j : Nat} (h : j < 24) : ∃ v, P.cells[j]? = some v := ⟨P.cells[j]'(by rw [Par.cells_size]; exact h), Array.getElem?_eq_getElem _⟩
theorem only_row {w : World} (g : Nat) (cs : Array Value) : Chg (only g) w (w.setRow g cs) := (Chg.refl (only g) w).setRow (.inl rfl) cs
def readE (t : Rd) : Int := if (readT t).e = 0 then checkE (readP t) else (readT t).e
def readQ (t : Rd) : Par := if readE t = 0 then readP t else Par.zero
theorem readE_bad {t : Rd} (h : (readT t).e ≠ 0) : readE t = (readT t).e ∧ readQ t = Par.zero := by
  have h1 : readE t = (readT t).e := by unfold readE; rw [if_neg h]
  exact ⟨h1, by unfold readQ; rw [h1, if_neg h]⟩
theorem readE_no {t : Rd} (h : (readT t).e = 0) (hr : rightB (readP t) = false) : readE t = 70 ∧ readQ t = Par.zero := by
  have h1 : readE t = 70 := by unfold readE; rw [if_pos h]; simp [checkE, hr]
  exact ⟨h1, by unfold readQ; rw [h1, if_neg (by omega)]⟩
theorem readE_yes {t : Rd} (h : (readT t).e = 0) (hr : rightB (readP t) = true) : readE t = 0 ∧ readQ t = readP t := by
  have h1 : readE t = 0 := by unfold readE; rw [if_pos h]; simp [checkE, hr]
  exact ⟨h1, by unfold readQ; rw [if_pos h1]⟩
def ReadPost (w : World) (g : Nat) (A : Option Addr) (c : Nat) (t : Rd) (e : Ending) (w' : World) : Prop := e = .returned (.tuple #[.agg (readQ t).cells, .int .i64 (readE t)]) ∧ RdAt w' g A c (readT t) ∧ Chg (only g) w w'
set_option maxRecDepth 100000 in
set_option maxHeartbeats 8000000 in
theorem pread_any (g : Nat) (A : Option Addr) (c : Nat) (t : Rd) (ht : t.Ok) (w : World) (hR : RdAt w g A c t) : Calls Try.prog 55 #[.pointer (some ⟨g, 0, none⟩)] w (ReadPost w g A c t) := by
  have r0 : row (w.alloc (.cells #[.int .u64 0, .int .u64 0, .int .u64 0, .int .u64 0, .int .u64 0, .int .u64 0, .int .u64 0, .int .u64 0, .int .u64 0, .int .u64 0, .int .u64 0, .int .u64 0, .int .u64 0, .int .u64 0, .int .i64 0, .int .i64 0, .int .i64 0, .int .i64 0, .int .i64 0, .int .i64 0, .int .i64 0, .int .i64 0, .int .i64 0, .int .i64 0] 24)) w.heap.size = some Par.zero.cells := row_at _ _ _ _ rfl
  have hB0 : Below w.heap.size w (w.alloc (.cells #[.int .u64 0, .int .u64 0, .int .u64 0, .int .u64 0, .int .u64 0, .int .u64 0, .int .u64 0, .int .u64 0, .int .u64 0, .int .u64 0, .int .u64 0, .int .u64 0, .int .u64 0, .int .u64 0, .int .i64 0, .int .i64 0, .int .i64 0, .int .i64 0, .int .i64 0, .int .i64 0, .int .i64 0, .int .i64 0, .int .i64 0, .int .i64 0] 24)) := (by (repeat (first | exact Below.refl _ _ | assumption | (refine Below.allocT ?_ _) | refine Below.drew ?_ | refine below_drewN ?_ _ | (refine Below.then ?_ (by assumption)) | (refine Below.setRow ?_ ?_ _; rotate_left; (focus (first | exact Nat.lt_succ_self _ | ((repeat rw [World.size_alloc]); omega) | (simp; done) | (simp; omega) | omega))) | (refine Below.setCell ?_ ?_ _; rotate_left; (focus (first | exact Nat.lt_succ_self _ | ((repeat rw [World.size_alloc]); omega) | (simp; done) | (simp; omega) | omega))) | (refine Below.then' ?_ (by assumption) ?_; rotate_left; (focus (first | exact Nat.lt_succ_self _ | ((repeat rw [World.size_alloc]); omega) | (simp; done) | (simp; omega) | omega))) | fail)); (first | done | fail))
  have HA : Hid (0 < t.xs.length → ∀ a, A = some a → a.block < w.heap.size) := Lib.hid (fun h => hR.bys.lt h)
  have HG := Lib.hid hR.lt
  have HR := Lib.hid hR
  have HW := Lib.hid (fun i => rdW_ok ht i)
  have HI := Lib.hid (fun i => rdI_ok (rdW_ok ht 14).1 i)
  have HC := Lib.hid (fun W => check_any (readP t) W)
  have hT : Hid (readT t = (rdI (rdW t 14).2 10).2 ∧ readP t = parOf (rdW t 14).1 (rdI (rdW t 14).2 10).1) := Lib.hid ⟨rfl, rfl⟩
  clear hR ht
  go_enter Try.func55, Try.ntmps55
  go_upto_region 1 with fail
  generalize w.alloc (.cells #[.int .u64 0, .int .u64 0, .int .u64 0, .int .u64 0, .int .u64 0, .int .u64 0, .int .u64 0, .int .u64 0, .int .u64 0, .int .u64 0, .int .u64 0, .int .u64 0, .int .u64 0, .int .u64 0, .int .i64 0, .int .i64 0, .int .i64 0, .int .i64 0, .int .i64 0, .int .i64 0, .int .i64 0, .int .i64 0, .int .i64 0, .int .i64 0] 24) = w0 at *
  go_wp2_with fail
  refine (wides_any w.heap.size _).mono ?_
  rintro e w2 ⟨h, c2, rfl, q2, hh, hb2⟩
  have r2 := (row_below hb2 (row_lt r0)).trans r0
  have B2 := Below.then hB0 hb2
  have R2 := Lib.hid (HR.out.stay B2)
  have C2 : Hid (Chg (only g) w w2) := Lib.hid (Chg.of_below B2 (Nat.le_refl _))
  have hne : h ≠ w.heap.size := by have := row_lt r0; omega
  have NE : Hid (h ≠ w.heap.size ∧ w.heap.size ≤ h ∧ w.heap.size ≠ g ∧ h ≠ g) := Lib.hid ⟨hne, by have := hB0.size; omega, by have := HG.out; omega, by have := HG.out; have := hB0.size; omega⟩
  clear r0 hB0 hb2 hh B2 hne HR
  go_wp2_with fail
  go_loopw [12] (fun i wr => ∃ j : Nat, i = .int .i64 j ∧ j ≤ 14 ∧ Hid (RdAt wr g A c (rdW t j).2 ∧ Chg (only g) w wr ∧ row wr w.heap.size = some (parOf (rdW t j).1 []).cells ∧ row wr h = some (ptrsV w.heap.size 0 14))) (fun i _ => 14 - (intOf i).toNat)
  case atStart => exact ⟨0, rfl, by omega, Lib.hid ⟨R2.out, C2.out, r2, q2⟩⟩
  case round =>
    obtain ⟨j, rfl, hj, hH⟩ := hrel
    clear r2 q2
    by_cases hlt : j < 14
    · have k1 := (row_cell hH.out.2.2.2 j).trans (ptrsV_at hlt)
      rw [Nat.zero_add] at k1
      have hj' : j < 24 := by omega
      obtain ⟨v, hv⟩ := par_some (parOf (rdW t j).1 []) hj'
      have HV := Lib.hid hv
      have HX := Lib.hid (rnum_any g A c (rdW t j).2 (HW.out j).1 18446744073709551615 (by omega) wr hH.out.1)
      have S1 : Hid (rdW t (j + 1) = ((rdW t j).1 ++ [((rdW t j).2.num 18446744073709551615).1], ((rdW t j).2.num 18446744073709551615).2)) := Lib.hid rfl
      have SW : Hid (∀ n : Nat, (parOf (rdW t j).1 []).cells.setIfInBounds j (.int .u64 (n : Int)) = (parOf ((rdW t j).1 ++ [n]) []).cells) := Lib.hid fun n => by
        have := set_wide [] n (rdW t j).1 (by rw [rdW_len]; exact hlt)
        rwa [rdW_len] at this
      have z1 : (0 : Int) ≤ (j : Int) := by omega
      have z2 : (j : Int) < 14 := by omega
      clear hv
      go_wp2_with fail
      refine (HX.out).mono ?_
      rintro e w3 ⟨rfl, hR3, hC3⟩
      have g3 := (hC3.row (row_lt hH.out.2.2.1) NE.out.2.2.1).trans hH.out.2.2.1
      have p3 := Lib.hid ((hC3.row (row_lt hH.out.2.2.2) NE.out.2.2.2).trans hH.out.2.2.2)
      have C3 := Lib.hid (hH.out.2.1.andThen hC3 (fun k hk => .inl hk))
      have R3 := Lib.hid hR3
      have cv := (row_cell g3 j).trans HV.out
      have fv := row_frozen g3 j
      have G3 := Lib.hid g3
      clear g3 hR3 hC3 k1
      go_wp2_with fail
      refine ⟨⟨j + 1, by go_num, by omega, Lib.hid ⟨?_, ?_, ?_, ?_⟩⟩, by simp [intOf]; omega⟩
      · rw [S1.out]
        exact R3.out.chg' (only_set w.heap.size j _) (fun he => NE.out.2.2.1 he.symm) (fun h0 a ha he => by
          have hx := (HW.out (j + 1)).2
          rw [S1.out] at hx
          rw [hx] at h0
          have := HA.out h0 a ha
          have he' : a.block = w.heap.size := he
          omega)
      · exact C3.out.setCell (p := ⟨w.heap.size, j, none⟩) (.inr (Nat.le_refl _)) _
      · rw [row_set G3.out, S1.out, SW.out]
      · exact (row_far w3 ⟨w.heap.size, j, none⟩ _ _ NE.out.1).trans p3.out
    · obtain rfl : j = 14 := by omega
      go_wp2_with fail
      refine (narrows_any w.heap.size _).mono ?_
      rintro e w4 ⟨h4, c4, rfl, q4, hh4, hb4⟩
      have r4 := (row_below hb4 (row_lt hH.out.2.2.1)).trans hH.out.2.2.1
      have R4 := Lib.hid (hH.out.1.stay hb4)
      have C4 := Lib.hid (hH.out.2.1.below_then hb4 (Nat.le_refl _))
      have NE4 : Hid (h4 ≠ w.heap.size ∧ w.heap.size ≤ h4 ∧ w.heap.size ≠ g ∧ h4 ≠ g) := Lib.hid (by
        have h1 := row_lt hH.out.2.2.1
        have h2 := hH.out.1.lt
        have h3 := NE.out
        exact ⟨by omega, by omega, h3.2.2.1, by omega⟩)
      clear hH hb4 hh4
      go_wp2_with fail
      go_loopw [23] (fun i wr => ∃ j : Nat, i = .int .i64 j ∧ j ≤ 10 ∧ Hid (RdAt wr g A c (rdI (rdW t 14).2 j).2 ∧ Chg (only g) w wr ∧ row wr w.heap.size = some (parOf (rdW t 14).1 (rdI (rdW t 14).2 j).1).cells ∧ row wr h4 = some (ptrsV w.heap.size 14 10))) (fun i _ => 10 - (intOf i).toNat)
      case atStart => exact ⟨0, rfl, by omega, Lib.hid ⟨R4.out, C4.out, r4, q4⟩⟩
      case round =>
        obtain ⟨j, rfl, hj, hH⟩ := hrel
        clear r4 q4
        by_cases hlt : j < 10
        · have k1 := (row_cell hH.out.2.2.2 j).trans (ptrsV_at hlt)
          have hj' : 14 + j < 24 := by omega
          obtain ⟨v, hv⟩ := par_some (parOf (rdW t 14).1 (rdI (rdW t 14).2 j).1) hj'
          have HV := Lib.hid hv
          have HX := Lib.hid (rint_any g A c (rdI (rdW t 14).2 j).2 (HI.out j).1 2147483647 (by unfold i64ok; omega) wr hH.out.1)
          rw [show (2147483647 : Int) = ((2147483647 : Nat) : Int) by omega, int_nat] at HX
          have S1 : Hid (rdI (rdW t 14).2 (j + 1) = ((rdI (rdW t 14).2 j).1 ++ [((rdI (rdW t 14).2 j).2.num 2147483647).1], ((rdI (rdW t 14).2 j).2.num 2147483647).2)) := Lib.hid rfl
          have SW : Hid (∀ n : Nat, (parOf (rdW t 14).1 (rdI (rdW t 14).2 j).1).cells.setIfInBounds (14 + j) (.int .i64 (n : Int)) = (parOf (rdW t 14).1 ((rdI (rdW t 14).2 j).1 ++ [n])).cells) := Lib.hid fun n => by
            have := set_narr (rdW t 14).1 n (rdI (rdW t 14).2 j).1 (by rw [rdI_len]; exact hlt)
            rwa [rdI_len] at this
          have z1 : (0 : Int) ≤ (j : Int) := by omega
          have z2 : (j : Int) < 10 := by omega
          clear hv
          go_wp2_with fail
          refine (HX.out).mono ?_
          rintro e w3 ⟨rfl, hR3, hC3⟩
          have g3 := (hC3.row (row_lt hH.out.2.2.1) NE4.out.2.2.1).trans hH.out.2.2.1
          have p3 := Lib.hid ((hC3.row (row_lt hH.out.2.2.2) NE4.out.2.2.2).trans hH.out.2.2.2)
          have C3 := Lib.hid (hH.out.2.1.andThen hC3 (fun k hk => .inl hk))
          have R3 := Lib.hid hR3
          have cv := (row_cell g3 (14 + j)).trans HV.out
          have fv := row_frozen g3 (14 + j)
          have G3 := Lib.hid g3
          clear g3 hR3 hC3 k1
          go_wp2_with fail
          refine ⟨⟨j + 1, by go_num, by omega, Lib.hid ⟨?_, ?_, ?_, ?_⟩⟩, by simp [intOf]; omega⟩
          · rw [S1.out]
            exact R3.out.chg' (only_set w.heap.size (14 + j) _) (fun he => NE4.out.2.2.1 he.symm) (fun h0 a ha he => by
              have hx := (HI.out (j + 1)).2
              rw [S1.out] at hx
              rw [hx, (HW.out 14).2] at h0
              have := HA.out h0 a ha
              have he' : a.block = w.heap.size := he
              omega)
          · exact C3.out.setCell (p := ⟨w.heap.size, 14 + j, none⟩) (.inr (Nat.le_refl _)) _
          · rw [row_set G3.out, S1.out, SW.out]
          · exact (row_far w3 ⟨w.heap.size, 14 + j, none⟩ _ _ NE4.out.1).trans p3.out
        · obtain rfl : j = 10 := by omega
          have hR5 := hH.out.1
          have r5 := hH.out.2.2.1
          rw [← hT.out.1] at hR5
          rw [← hT.out.2] at r5
          have R5 := Lib.hid hR5
          have C5 := Lib.hid hH.out.2.1
          have HX := Lib.hid (fun W (h : RdAt W g A c (readT t)) => rerr_any g A c (readT t) W h)
          have HB := Lib.hid (fun h => readE_bad (t := t) h)
          have HNo := Lib.hid (fun h1 h2 => readE_no (t := t) h1 h2)
          have HYe := Lib.hid (fun h1 h2 => readE_yes (t := t) h1 h2)
          have HPost : Hid (∀ (e : Ending) (w' : World), e = .returned (.tuple #[.agg (readQ t).cells, .int .i64 (readE t)]) → RdAt w' g A c (readT t) → Chg (only g) w w' → ReadPost w g A c t e w') := Lib.hid fun e w' h1 h2 h3 => ⟨h1, h2, h3⟩
          obtain ⟨rq, hrq⟩ : ∃ rq, rq = readQ t := ⟨_, rfl⟩
          obtain ⟨re, hre⟩ : ∃ re, re = readE t := ⟨_, rfl⟩
          obtain ⟨rt, hrt⟩ : ∃ rt, rt = readT t := ⟨_, rfl⟩
          obtain ⟨rp, hrp⟩ : ∃ rp, rp = readP t := ⟨_, rfl⟩
          rw [← hrt] at HX HB HNo HYe HPost
          rw [← hre] at HB HNo HYe HPost
          rw [← hrq] at HB HNo HYe HPost
          rw [← hrp] at HNo HYe HC
          have R5' := R5.out
          rw [← hrt] at R5'
          have R5h := Lib.hid R5'
          rw [← hrp] at r5
          have HNEs : Hid (w.heap.size ≠ g) := Lib.hid NE4.out.2.2.1
          have HAx : Hid (0 < rt.xs.length → ∀ a, A = some a → a.block < w.heap.size) := Lib.hid (fun h0 => by
            have hx := (HI.out 10).2
            rw [← hT.out.1, ← hrt, (HW.out 14).2] at hx
            rw [hx] at h0
            exact HA.out h0)
          clear hrt hrp hrq hre hH hR5 HW HI HA R5 R5' hT NE NE4 R4 C4 R2 C2
          go_wp2_with fail
          refine (HX.out _ R5h.out).mono ?_
          rintro e w6 ⟨rfl, rfl⟩
          by_cases he0 : rt.e = 0
          · have he1 : (rt.e != 0) = false := by rw [he0]; rfl
            have he2 := Lib.hid he0
            clear he0
            go_wp2_with fail
            refine (HC.out _).mono ?_
            rintro e w7 ⟨rfl, hb7⟩
            have r7 := (row_below hb7 (row_lt r5)).trans r5
            have R7 := Lib.hid (R5h.out.stay hb7)
            have C7 := Lib.hid (C5.out.below_then hb7 (Nat.le_refl _))
            clear r5 hb7 R5h C5
            cases hr : rightB rp
            · obtain ⟨x1, x2⟩ := HNo.out he2.out hr
              have ck : checkE rp = 70 := by simp [checkE, hr]
              rw [ck]
              have X1 := Lib.hid x1
              have X2 := Lib.hid x2
              obtain ⟨t9, ht9⟩ := row_heap (row_setRow (new := Par.zero.cells) r7)
              have HT9 := Lib.hid ht9
              clear ht9 x1 x2 ck hr
              go_wp2_with (refine wpList_build_to Par.zero.cells rfl 24 _ rfl (by kernel_rfl) ?_)
              exact bodyPost_ret (v := .tuple #[.agg Par.zero.cells, .int .i64 70]) (results_cell_tmp Try.results55 _ _ w.heap.size _ _ (0, 0) _ rfl HT9.out par_under rfl par_info) rfl (HPost.out _ _ (by rw [X1.out, X2.out]) (R7.out.chg' (S := only w.heap.size) (only_row _ _) (fun he => HNEs.out he.symm) (fun h0 a ha he => by have := HAx.out h0 a ha; have he' : a.block = w.heap.size := he; omega)) (C7.out.setRow (.inr (Nat.le_refl _)) _))
            · obtain ⟨x1, x2⟩ := HYe.out he2.out hr
              have ck : checkE rp = 0 := by simp [checkE, hr]
              rw [ck]
              have X1 := Lib.hid x1
              have X2 := Lib.hid x2
              obtain ⟨t9, ht9⟩ := row_heap (row_setRow (new := rp.cells) r7)
              have HT9 := Lib.hid ht9
              clear ht9 x1 x2 ck hr
              go_wp2_with fail
              exact bodyPost_ret (v := .tuple #[.agg rp.cells, .int .i64 0]) (results_cell_tmp Try.results55 _ _ w.heap.size _ _ (0, 0) _ rfl HT9.out par_under rfl par_info) rfl (HPost.out _ _ (by rw [X1.out, X2.out]) (R7.out.chg' (S := only w.heap.size) (only_row _ _) (fun he => HNEs.out he.symm) (fun h0 a ha he => by have := HAx.out h0 a ha; have he' : a.block = w.heap.size := he; omega)) (C7.out.setRow (.inr (Nat.le_refl _)) _))
          · have he1 : (rt.e != 0) = true := bne_iff_ne.2 he0
            obtain ⟨x1, x2⟩ := HB.out he0
            have X1 := Lib.hid x1
            have X2 := Lib.hid x2
            obtain ⟨t9, ht9⟩ := row_heap (row_setRow (new := Par.zero.cells) r5)
            have HT9 := Lib.hid ht9
            clear ht9 x1 x2 he0
            go_wp2_with (refine wpList_build_to Par.zero.cells rfl 24 _ rfl (by kernel_rfl) ?_)
            exact bodyPost_ret (v := .tuple #[.agg Par.zero.cells, .int .i64 rt.e]) (results_cell_tmp Try.results55 _ _ w.heap.size _ _ (0, 0) _ rfl HT9.out par_under rfl par_info) rfl (HPost.out _ _ (by rw [X1.out, X2.out]) (R5h.out.chg' (S := only w.heap.size) (only_row _ _) (fun he => HNEs.out he.symm) (fun h0 a ha he => by have := HAx.out h0 a ha; have he' : a.block = w.heap.size := he; omega)) (C5.out.setRow (.inr (Nat.le_refl _)) _))
def decN (t : Rd) : Nat := if readE t = 0 then (readT t).at_ else 0
def DecPost (w : World) (t : Rd) (e : Ending) (w' : World) : Prop := e = .returned (.tuple #[.agg (readQ t).cells, .int .i64 (decN t : Int), .int .i64 (readE t)]) ∧ Below w.heap.size w w'
set_option maxRecDepth 100000 in
set_option maxHeartbeats 8000000 in
theorem pdecode_any (A : Option Addr) (n c : Nat) (xs : List Nat) (hn : xs.length = n) (hm : n ≤ 1000000) (hok : bytesOk xs) (w : World) (hU : Bys w A xs) : Calls Try.prog 27 #[.slice A n c] w (DecPost w ⟨xs, 0, 0⟩) := by
  have ht : Rd.Ok ⟨xs, 0, 0⟩ := ⟨hok, by simp, by show xs.length ≤ _; omega, by simp, by simp⟩
  have r0 : row (w.alloc (.cells #[.int .u64 0, .int .u64 0, .int .u64 0, .int .u64 0, .int .u64 0, .int .u64 0, .int .u64 0, .int .u64 0, .int .u64 0, .int .u64 0, .int .u64 0, .int .u64 0, .int .u64 0, .int .u64 0, .int .i64 0, .int .i64 0, .int .i64 0, .int .i64 0, .int .i64 0, .int .i64 0, .int .i64 0, .int .i64 0, .int .i64 0, .int .i64 0] 24)) w.heap.size = some Par.zero.cells := row_at _ _ _ _ rfl
  have hB0 : Below w.heap.size w (w.alloc (.cells #[.int .u64 0, .int .u64 0, .int .u64 0, .int .u64 0, .int .u64 0, .int .u64 0, .int .u64 0, .int .u64 0, .int .u64 0, .int .u64 0, .int .u64 0, .int .u64 0, .int .u64 0, .int .u64 0, .int .i64 0, .int .i64 0, .int .i64 0, .int .i64 0, .int .i64 0, .int .i64 0, .int .i64 0, .int .i64 0, .int .i64 0, .int .i64 0] 24)) := (by (repeat (first | exact Below.refl _ _ | assumption | (refine Below.allocT ?_ _) | refine Below.drew ?_ | refine below_drewN ?_ _ | (refine Below.then ?_ (by assumption)) | (refine Below.setRow ?_ ?_ _; rotate_left; (focus (first | exact Nat.lt_succ_self _ | ((repeat rw [World.size_alloc]); omega) | (simp; done) | (simp; omega) | omega))) | (refine Below.setCell ?_ ?_ _; rotate_left; (focus (first | exact Nat.lt_succ_self _ | ((repeat rw [World.size_alloc]); omega) | (simp; done) | (simp; omega) | omega))) | (refine Below.then' ?_ (by assumption) ?_; rotate_left; (focus (first | exact Nat.lt_succ_self _ | ((repeat rw [World.size_alloc]); omega) | (simp; done) | (simp; omega) | omega))) | fail)); (first | done | fail))
  have HO := Lib.hid (fun W (h : Bys W A xs) => ropen_any A n c xs hn (by omega) W h)
  unfold OpenPostC at HO
  have HU := Lib.hid hU
  have HR := Lib.hid (fun g A c W (h : RdAt W g A c ⟨xs, 0, 0⟩) => pread_any g A c ⟨xs, 0, 0⟩ ht W h)
  have HPost : Hid (∀ (e : Ending) (w' : World), e = .returned (.tuple #[.agg (readQ ⟨xs, 0, 0⟩).cells, .int .i64 (decN ⟨xs, 0, 0⟩ : Int), .int .i64 (readE ⟨xs, 0, 0⟩)]) → Below w.heap.size w w' → DecPost w ⟨xs, 0, 0⟩ e w') := Lib.hid fun e w' h1 h2 => ⟨h1, h2⟩
  have HD : Hid (decN ⟨xs, 0, 0⟩ = if readE ⟨xs, 0, 0⟩ = 0 then (readT ⟨xs, 0, 0⟩).at_ else 0) := Lib.hid rfl
  have HQ : Hid (readE ⟨xs, 0, 0⟩ ≠ 0 → readQ ⟨xs, 0, 0⟩ = Par.zero) := Lib.hid fun h => by unfold readQ; rw [if_neg h]
  unfold ReadPost at HR
  generalize readE ⟨xs, 0, 0⟩ = re at *
  generalize readQ ⟨xs, 0, 0⟩ = rq at *
  generalize readT ⟨xs, 0, 0⟩ = rt at *
  generalize decN ⟨xs, 0, 0⟩ = dn at *
  clear hU ht hok hn
  go_enter Try.func27, Try.ntmps27
  go_upto_region 1 with fail
  generalize w.alloc (.cells #[.int .u64 0, .int .u64 0, .int .u64 0, .int .u64 0, .int .u64 0, .int .u64 0, .int .u64 0, .int .u64 0, .int .u64 0, .int .u64 0, .int .u64 0, .int .u64 0, .int .u64 0, .int .u64 0, .int .i64 0, .int .i64 0, .int .i64 0, .int .i64 0, .int .i64 0, .int .i64 0, .int .i64 0, .int .i64 0, .int .i64 0, .int .i64 0] 24) = w0 at *
  go_wp2_with fail
  refine (HO.out _ (HU.out.below hB0 (Nat.le_refl _))).mono ?_
  rintro e w1 ⟨g1, A1, c1, rfl, hg1, hA1, hR1, hb1⟩
  have r1 := (row_below hb1 (row_lt r0)).trans r0
  have B1 := Lib.hid (Below.then hB0 hb1)
  have R1 := Lib.hid hR1
  have HA1 : Hid (∀ a, A1 = some a → w.heap.size < a.block) := Lib.hid fun a ha => Nat.lt_of_lt_of_le (row_lt r0) (hA1 a ha).1
  have G1 : Hid (w.heap.size < g1) := Lib.hid (Nat.lt_of_lt_of_le (row_lt r0) hg1)
  clear r0 hB0 hb1 hR1 hg1 hA1 HO HU
  go_wp2_with fail
  refine (HR.out _ _ _ _ R1.out).mono ?_
  rintro e w2 ⟨rfl, hR2, hC2⟩
  have r2 := (hC2.row (row_lt r1) (fun he => by have := G1.out; have he' : w.heap.size = g1 := he; omega)).trans r1
  have B2 := Lib.hid (B1.out.trans (hC2.toBelow (B := w.heap.size) (fun k hk => by have := G1.out; have he' : k = g1 := hk; omega) B1.out.size))
  have R2 := Lib.hid hR2
  clear r1 B1 hR2 hC2 HR R1
  by_cases he0 : re = 0
  · have he1 : (re != 0) = false := by rw [he0]; rfl
    have D1 := HD.out
    rw [if_pos he0] at D1
    have D1h := Lib.hid D1
    have he2 := Lib.hid he0
    clear D1 HD HQ he0
    have HAt := Lib.hid (fun W (h : RdAt W g1 A1 c1 rt) => rat_any g1 A1 c1 rt W h)
    have R3 := Lib.hid (R2.out.chg' (only_row w.heap.size rq.cells) (fun he => by have := G1.out; have he' : g1 = w.heap.size := he; omega) (fun h0 a ha he => by have := HA1.out a ha; have he' : a.block = w.heap.size := he; omega))
    have r3 : Hid (row (w2.setRow w.heap.size rq.cells) w.heap.size = some rq.cells) := Lib.hid (row_setRow r2)
    have B3 := Lib.hid (Below.setRow B2.out (Nat.le_refl w.heap.size) rq.cells)
    go_upto_region 5 with fail
    clear r2 B2
    generalize w2.setRow w.heap.size rq.cells = w3 at *
    go_region_held3 (fun w' => row w' w.heap.size = some rq.cells) (first | exact r3.out | (rw [row_drew]; exact row_setRow r3.out) | exact row_setRow r3.out) (first | (go_at_call 56; refine (HAt.out _ (by first | exact R3.out | exact R3.out.drew | exact R3.out.drewN _)).mono ?_; rintro e w4 ⟨rfl, rfl⟩))
    obtain ⟨t9, ht9⟩ := row_heap (row_setRow (new := rq.cells) r3.out)
    have HT9 : Hid ((w3.setRow w.heap.size rq.cells).heap[w.heap.size]? = some (.cells rq.cells t9 (0, 0))) := Lib.hid ht9
    clear ht9
    have HRQ : Hid (dn = rt.at_) := D1h
    all_goals
      go_wp2_with fail
      exact bodyPost_ret (v := .tuple #[.agg rq.cells, .int .i64 (rt.at_ : Int), .int .i64 0]) (results_cell_two Try.results27 _ _ w.heap.size _ _ (0, 0) _ rfl HT9.out par_under rfl par_info) rfl (HPost.out _ _ (by rw [HRQ.out, he2.out]) (by first | exact Below.setRow B3.out (Nat.le_refl _) _ | exact (Below.setRow B3.out (Nat.le_refl _) _).drew | exact (Below.setRow B3.out.drew (Nat.le_refl _) _)))
  · have he1 : (re != 0) = true := bne_iff_ne.2 he0
    have Q1 := HQ.out he0
    have D1 := HD.out
    rw [if_neg he0] at D1
    obtain ⟨t9, ht9⟩ := row_heap (row_setRow (new := Par.zero.cells) (row_setRow (new := rq.cells) r2))
    have HT9 := Lib.hid ht9
    have D1h := Lib.hid D1
    have Q1h := Lib.hid Q1
    clear ht9 D1 Q1 he0 HD HQ
    go_wp2_with (refine wpList_build_to Par.zero.cells rfl 24 _ rfl (by kernel_rfl) ?_)
    exact bodyPost_ret (v := .tuple #[.agg Par.zero.cells, .int .i64 0, .int .i64 re]) (results_cell_two Try.results27 _ _ w.heap.size _ _ (0, 0) _ rfl HT9.out par_under rfl par_info) rfl (HPost.out _ _ (by rw [Q1h.out, D1h.out]; rfl) (Below.setRow (Below.setRow B2.out (Nat.le_refl _) _) (Nat.le_refl _) _))
end Go.Proofs.Ytecdfphfgaeodaa

namespace Go.Proofs.Ytecdfphfgaeodaa
open Go.RowKit
set_option linter.unusedVariables false

theorem zero_setW (j : Nat) (h : j < 14) : Par.zero.cells.setIfInBounds j (.int .u64 0) = Par.zero.cells := by
  match j, h with
  | 0, _ => rfl
  | 1, _ => rfl
  | 2, _ => rfl
  | 3, _ => rfl
  | 4, _ => rfl
  | 5, _ => rfl
  | 6, _ => rfl
  | 7, _ => rfl
  | 8, _ => rfl
  | 9, _ => rfl
  | 10, _ => rfl
  | 11, _ => rfl
  | 12, _ => rfl
  | 13, _ => rfl
  | k + 14, h => omega
theorem zero_setI (j : Nat) (h : j < 10) : Par.zero.cells.setIfInBounds (14 + j) (.int .i64 0) = Par.zero.cells := by
  match j, h with
  | 0, _ => rfl
  | 1, _ => rfl
  | 2, _ => rfl
  | 3, _ => rfl
  | 4, _ => rfl
  | 5, _ => rfl
  | 6, _ => rfl
  | 7, _ => rfl
  | 8, _ => rfl
  | 9, _ => rfl
  | k + 10, h => omega
set_option maxRecDepth 100000 in
set_option maxHeartbeats 8000000 in
theorem pread_nil (w : World) : Calls Try.prog 55 #[.pointer none] w fun e w' => e = .returned (.tuple #[.agg Par.zero.cells, .int .i64 1]) ∧ Below w.heap.size w w' := by
  have r0 : row (w.alloc (.cells #[.int .u64 0, .int .u64 0, .int .u64 0, .int .u64 0, .int .u64 0, .int .u64 0, .int .u64 0, .int .u64 0, .int .u64 0, .int .u64 0, .int .u64 0, .int .u64 0, .int .u64 0, .int .u64 0, .int .i64 0, .int .i64 0, .int .i64 0, .int .i64 0, .int .i64 0, .int .i64 0, .int .i64 0, .int .i64 0, .int .i64 0, .int .i64 0] 24)) w.heap.size = some Par.zero.cells := row_at _ _ _ _ rfl
  have hB0 : Below w.heap.size w (w.alloc (.cells #[.int .u64 0, .int .u64 0, .int .u64 0, .int .u64 0, .int .u64 0, .int .u64 0, .int .u64 0, .int .u64 0, .int .u64 0, .int .u64 0, .int .u64 0, .int .u64 0, .int .u64 0, .int .u64 0, .int .i64 0, .int .i64 0, .int .i64 0, .int .i64 0, .int .i64 0, .int .i64 0, .int .i64 0, .int .i64 0, .int .i64 0, .int .i64 0] 24)) := (by (repeat (first | exact Below.refl _ _ | assumption | (refine Below.allocT ?_ _) | refine Below.drew ?_ | refine below_drewN ?_ _ | (refine Below.then ?_ (by assumption)) | (refine Below.setRow ?_ ?_ _; rotate_left; (focus (first | exact Nat.lt_succ_self _ | ((repeat rw [World.size_alloc]); omega) | (simp; done) | (simp; omega) | omega))) | (refine Below.setCell ?_ ?_ _; rotate_left; (focus (first | exact Nat.lt_succ_self _ | ((repeat rw [World.size_alloc]); omega) | (simp; done) | (simp; omega) | omega))) | (refine Below.then' ?_ (by assumption) ?_; rotate_left; (focus (first | exact Nat.lt_succ_self _ | ((repeat rw [World.size_alloc]); omega) | (simp; done) | (simp; omega) | omega))) | fail)); (first | done | fail))
  go_enter Try.func55, Try.ntmps55
  go_upto_region 1 with fail
  generalize w.alloc (.cells #[.int .u64 0, .int .u64 0, .int .u64 0, .int .u64 0, .int .u64 0, .int .u64 0, .int .u64 0, .int .u64 0, .int .u64 0, .int .u64 0, .int .u64 0, .int .u64 0, .int .u64 0, .int .u64 0, .int .i64 0, .int .i64 0, .int .i64 0, .int .i64 0, .int .i64 0, .int .i64 0, .int .i64 0, .int .i64 0, .int .i64 0, .int .i64 0] 24) = w0 at *
  go_wp2_with fail
  refine (wides_any w.heap.size _).mono ?_
  rintro e w2 ⟨h, c2, rfl, q2, hh, hb2⟩
  have r2 := (row_below hb2 (row_lt r0)).trans r0
  have B2 := Lib.hid (Below.then hB0 hb2)
  have NE : Hid (h ≠ w.heap.size) := Lib.hid (by have := row_lt r0; omega)
  clear r0 hB0 hb2 hh
  go_wp2_with fail
  go_loopw [12] (fun i wr => ∃ j : Nat, i = .int .i64 j ∧ j ≤ 14 ∧ Hid (Below w.heap.size w wr ∧ row wr w.heap.size = some Par.zero.cells ∧ row wr h = some (ptrsV w.heap.size 0 14))) (fun i _ => 14 - (intOf i).toNat)
  case atStart => exact ⟨0, rfl, by omega, Lib.hid ⟨B2.out, r2, q2⟩⟩
  case round =>
    obtain ⟨j, rfl, hj, hH⟩ := hrel
    clear r2 q2
    by_cases hlt : j < 14
    · have k1 := (row_cell hH.out.2.2 j).trans (ptrsV_at hlt)
      rw [Nat.zero_add] at k1
      have hj' : j < 24 := by omega
      obtain ⟨v, hv⟩ := par_some Par.zero hj'
      have HX := Lib.hid (fun W => rnum_nil 18446744073709551615 W)
      have cv := (row_cell hH.out.2.1 j).trans hv
      have fv := row_frozen hH.out.2.1 j
      have z1 : (0 : Int) ≤ (j : Int) := by omega
      have z2 : (j : Int) < 14 := by omega
      clear hv
      go_wp2_with fail
      refine (HX.out _).mono ?_
      rintro e w3 ⟨rfl, rfl⟩
      go_wp2_with fail
      refine ⟨⟨j + 1, by go_num, by omega, Lib.hid ⟨?_, ?_, ?_⟩⟩, by simp [intOf]; omega⟩
      · exact Below.setCell hH.out.1 (p := ⟨w.heap.size, j, none⟩) (Nat.le_refl _) _
      · rw [row_set hH.out.2.1, zero_setW j hlt]
      · exact (row_far wr ⟨w.heap.size, j, none⟩ _ _ NE.out).trans hH.out.2.2
    · obtain rfl : j = 14 := by omega
      go_wp2_with fail
      refine (narrows_any w.heap.size _).mono ?_
      rintro e w4 ⟨h4, c4, rfl, q4, hh4, hb4⟩
      have r4 := (row_below hb4 (row_lt hH.out.2.1)).trans hH.out.2.1
      have B4 := Lib.hid (Below.then hH.out.1 hb4)
      have NE4 : Hid (h4 ≠ w.heap.size) := Lib.hid (by have := row_lt hH.out.2.1; omega)
      clear hH hb4 hh4
      go_wp2_with fail
      go_loopw [23] (fun i wr => ∃ j : Nat, i = .int .i64 j ∧ j ≤ 10 ∧ Hid (Below w.heap.size w wr ∧ row wr w.heap.size = some Par.zero.cells ∧ row wr h4 = some (ptrsV w.heap.size 14 10))) (fun i _ => 10 - (intOf i).toNat)
      case atStart => exact ⟨0, rfl, by omega, Lib.hid ⟨B4.out, r4, q4⟩⟩
      case round =>
        obtain ⟨j, rfl, hj, hH⟩ := hrel
        clear r4 q4
        by_cases hlt : j < 10
        · have k1 := (row_cell hH.out.2.2 j).trans (ptrsV_at hlt)
          have hj' : 14 + j < 24 := by omega
          obtain ⟨v, hv⟩ := par_some Par.zero hj'
          have HX := Lib.hid (fun W => rint_nil 2147483647 (by unfold i64ok; omega) W)
          have cv := (row_cell hH.out.2.1 (14 + j)).trans hv
          have fv := row_frozen hH.out.2.1 (14 + j)
          have z1 : (0 : Int) ≤ (j : Int) := by omega
          have z2 : (j : Int) < 10 := by omega
          clear hv
          go_wp2_with fail
          refine (HX.out _).mono ?_
          rintro e w3 ⟨rfl, rfl⟩
          go_wp2_with fail
          refine ⟨⟨j + 1, by go_num, by omega, Lib.hid ⟨?_, ?_, ?_⟩⟩, by simp [intOf]; omega⟩
          · exact Below.setCell hH.out.1 (p := ⟨w.heap.size, 14 + j, none⟩) (Nat.le_refl _) _
          · rw [row_set hH.out.2.1, zero_setI j hlt]
          · exact (row_far wr ⟨w.heap.size, 14 + j, none⟩ _ _ NE4.out).trans hH.out.2.2
        · obtain rfl : j = 10 := by omega
          have r5 := hH.out.2.1
          have B5 := Lib.hid hH.out.1
          clear hH
          have HX := Lib.hid (fun W => rerr_nil W)
          go_wp2_with fail
          refine (HX.out _).mono ?_
          rintro e w6 ⟨rfl, rfl⟩
          obtain ⟨t9, ht9⟩ := row_heap (row_setRow (new := Par.zero.cells) r5)
          have HT9 := Lib.hid ht9
          clear ht9
          go_wp2_with (refine wpList_build_to Par.zero.cells rfl 24 _ rfl (by kernel_rfl) ?_)
          exact bodyPost_ret (v := .tuple #[.agg Par.zero.cells, .int .i64 1]) (results_cell_tmp Try.results55 _ _ w.heap.size _ _ (0, 0) _ rfl HT9.out par_under rfl par_info) rfl ⟨rfl, Below.setRow B5.out (Nat.le_refl _) _⟩
end Go.Proofs.Ytecdfphfgaeodaa
