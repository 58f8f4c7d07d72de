/-
  What is at stake of those members that count and that a rule picks: the lists and their sums.
-/
import Derived.Test.YtnakkjgnjffkpaaMb
import Derived.Test.YtnakkjgnjffkpaaOwnC
import Derived.Test.YtnakkjgnjffkpaaBits6
import Derived.Test.YtnakkjgnjffkpaaMoney
namespace Go.Proofs.Ytnakkjgnjffkpaa
open Go.RowKit
set_option linter.unusedVariables false

def oneS (ms : List Mb) (sel : Nat → Bool) (k : Nat) : List Nat := match ms[k]? with
  | some m => if countsB m.status && sel k then [m.s.eff] else []
  | none => []
/-- What is at stake of the first k members. -/
def selL (ms : List Mb) (sel : Nat → Bool) : Nat → List Nat
  | 0 => []
  | k + 1 => selL ms sel k ++ oneS ms sel k
theorem oneS_yes {ms : List Mb} {sel : Nat → Bool} {k : Nat} {m : Mb} (h : ms[k]? = some m) (hc : countsB m.status = true) (hs : sel k = true) : oneS ms sel k = [m.s.eff] := by simp [oneS, h, hc, hs]
theorem oneS_no {ms : List Mb} {sel : Nat → Bool} {k : Nat} {m : Mb} (h : ms[k]? = some m) (hc : countsB m.status = false) : oneS ms sel k = [] := by simp [oneS, h, hc]
theorem oneS_not {ms : List Mb} {sel : Nat → Bool} {k : Nat} {m : Mb} (h : ms[k]? = some m) (hs : sel k = false) : oneS ms sel k = [] := by simp [oneS, h, hs]
theorem selL_len (ms : List Mb) (sel : Nat → Bool) : ∀ k, (selL ms sel k).length ≤ k
  | 0 => by simp [selL]
  | k + 1 => by
    have := selL_len ms sel k
    have h1 : (oneS ms sel k).length ≤ 1 := by unfold oneS; split; split; simp; simp; simp
    rw [selL, List.length_append]; omega
theorem sel_total (l : List Nat) : ∀ a, l.foldl (· + ·) a = a + total l := by
  induction l with
  | nil => intro a; simp [total]
  | cons x r ih => intro a; unfold total at *; simp only [List.foldl_cons]; rw [ih, ih (0 + x)]; omega
theorem total_app (a b : List Nat) : total (a ++ b) = total a + total b := by
  unfold total; rw [List.foldl_append, sel_total]; rfl
theorem total_one (x : Nat) : total [x] = x := by simp [total]
theorem selL_ok {ms : List Mb} (hok : ∀ m ∈ ms, m.s.eff < 18446744073709551616) (sel : Nat → Bool) : ∀ k, ∀ x ∈ selL ms sel k, x < 18446744073709551616
  | 0 => by simp [selL]
  | k + 1 => fun x hx => by
    rw [selL, List.mem_append] at hx
    rcases hx with hx | hx
    · exact selL_ok hok sel k x hx
    · unfold oneS at hx
      split at hx
      · rename_i m hm
        split at hx
        · simp at hx; subst hx; exact hok m (List.mem_of_getElem? hm)
        · simp at hx
      · simp at hx
theorem selL_getD {ms : List Mb} (hok : ∀ m ∈ ms, m.s.eff < 18446744073709551616) (sel : Nat → Bool) (k i : Nat) : (selL ms sel k).getD i 0 < 18446744073709551616 := by
  rw [List.getD_eq_getElem?_getD]
  cases h : (selL ms sel k)[i]? with
  | none => simp
  | some x => simpa using selL_ok hok sel k x (List.mem_of_getElem? h)
theorem selL_le (ms : List Mb) (sel : Nat → Bool) : ∀ k, total (selL ms sel k) ≤ total (selL ms (fun _ => true) k)
  | 0 => Nat.le_refl _
  | k + 1 => by
    have := selL_le ms sel k
    rw [selL, selL, total_app, total_app]
    have h2 : total (oneS ms sel k) ≤ total (oneS ms (fun _ => true) k) := by
      unfold oneS
      cases ms[k]? with
      | none => simp
      | some m => cases countsB m.status <;> cases sel k <;> simp [total_one] <;> simp [total]
    omega
/-- What is told of a sum, if another one is right. -/
def stkP (a t : Nat) : Nat := if a ≤ 18446744073709551615 then t else 0
theorem stkP_le {a t : Nat} (h : a ≤ 18446744073709551615) : stkP a t = t := if_pos h
theorem stkP_gt {a t : Nat} (h : ¬ a ≤ 18446744073709551615) : stkP a t = 0 := if_neg h
def u64C (x : Nat) : Array Value := #[.int .u64 ((x : Nat) : Int)]
theorem u64C_size (x : Nat) : (u64C x).size = 1 := rfl
theorem u64C_one (x : Nat) : allOne (u64C x) = true := by simp [allOne, u64C, Value.oneCell']
theorem u64s_slice {w : World} {A : Option Addr} {xs : List Nat} (h : SliceOf 1 u64C w A xs) : U64s w A xs := fun hn => by
  obtain ⟨b, off, e, hb, hc⟩ := h hn
  refine ⟨b, off, e, hb, fun i hi => ?_⟩
  have := hc i (xs.getD i 0) (by rw [List.getD_eq_getElem?_getD, List.getElem?_eq_getElem hi]; rfl) 0 _ rfl
  rw [Nat.mul_one] at this
  exact this
theorem mb_range {W : World} {b off j : Nat} {m : Mb} (h : W.rangeAt b (off + j * 6) m.cells.toList) : W.cell? ⟨b, off + j * 6, none⟩ = some (.int .u64 m.s.bal) ∧ W.cell? ⟨b, off + j * 6 + 1, none⟩ = some (.int .u64 m.s.eff) ∧ W.cell? ⟨b, off + j * 6 + 2, none⟩ = some (.int .u64 m.s.score) ∧ W.cell? ⟨b, off + j * 6 + 3, none⟩ = some (.int .i64 m.s.streak) ∧ W.cell? ⟨b, off + j * 6 + 4, none⟩ = some (.int .i64 m.owner) ∧ W.cell? ⟨b, off + j * 6 + 5, none⟩ = some (.int .i64 m.status) :=
  ⟨h 0 _ rfl, h 1 _ rfl, h 2 _ rfl, h 3 _ rfl, h 4 _ rfl, h 5 _ rfl⟩
theorem u64s_under : Try.prog.underlying 141 = some (.slice 33) := by kernel_rfl
theorem u64_three : (Try.prog.info? 33).map (fun i => (i.zero, i.size, i.bytes)) = some (some (.int .u64 0), 1, 8) := by kernel_rfl
abbrev OwnU (W : World) (B : Nat) (v : Value) (l : List Nat) : Prop := OwnC 33 1 u64C W B v l
end Go.Proofs.Ytnakkjgnjffkpaa
