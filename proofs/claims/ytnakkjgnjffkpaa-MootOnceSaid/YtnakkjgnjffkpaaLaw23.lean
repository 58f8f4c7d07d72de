/-
  The chapter's example of layer 23.
  Motions as the document has them: law23.Plain of any list that can be read.
-/
import Derived.Test.YtnakkjgnjffkpaaMoot7
import Derived.Test.YtnakkjgnjffkpaaMoot5
import Derived.Test.YtnakkjgnjffkpaaMoot1
namespace Go.Proofs.Ytnakkjgnjffkpaa
open Go.RowKit
set_option linter.unusedVariables false

def D23 : Ded := ⟨6, 0, 0, 0, 0, 0, [], 3, zeroP, 0, false⟩
theorem zeroP_ok23 : zeroP.Ok := by constructor <;> (unfold zeroP; simp [i64ok])
theorem D23_ok : D23.Ok := by
  refine ⟨?_, ?_, ?_, ?_, ?_, ?_, ?_, ?_, ?_, ?_⟩
  all_goals first | (unfold D23; simp [i64ok]; done) | exact zeroP_ok23
theorem right23 : rightD D23 = true := decide_eq_true ⟨by decide, by decide, rfl, rfl, rfl, rfl, rfl, by decide, by decide, fun h => absurd h (by decide), fun _ => ⟨rfl, rfl⟩, fun h => absurd h (by decide), fun _ => rfl⟩
theorem open23E : openE simpleP [] D23 5 = 0 := by
  unfold openE
  rw [if_neg (by rw [right_simple]; exact Bool.noConfusion), if_neg (by rw [right23]; simp [D23]), if_neg (by decide), if_neg (by decide)]
theorem open23L : openL simpleP [] D23 5 = [openM simpleP D23 5] := by
  unfold openL; rw [if_pos open23E]; rfl
theorem open23I : openI simpleP [] D23 5 = 0 := by
  unfold openI; rw [if_pos open23E]; rfl
def m23 : Mot := voteM (openM simpleP D23 5) 3 true
theorem vote23a : voteL [openM simpleP D23 5] 0 3 true = ([m23], 0) := by kernel_rfl
theorem vote23b : voteL [m23] 0 3 false = ([], 231) := by kernel_rfl
theorem bits23 : (openM simpleP D23 5).yes.length ≤ 1000000 ∧ (openM simpleP D23 5).no.length ≤ 1000000 := ⟨by decide, by decide⟩
theorem bits23' : m23.yes.length ≤ 1000000 ∧ m23.no.length ≤ 1000000 := ⟨by decide, by decide⟩
theorem ends23 : (openM simpleP D23 5).ends = 7 := by decide
set_option maxRecDepth 100000 in
set_option maxHeartbeats 4000000 in
theorem awake23_any (w : World) : Calls Try.prog 31 #[] w fun e w' => e = .returned (.bool true) ∧ Below w.heap.size w w' := by
  have HO := Lib.hid (fun W => mopen_any simpleP none 0 0 [] D23 DedA.nil 5 D23_ok (by unfold i64ok; omega) rfl (fun _ => rfl) (by omega) W (ML.nil _ _) (fun x hx => (List.not_mem_nil hx).elim))
  have HS := Lib.hid (fun W => simple_any W)
  go_enter Try.func31, Try.ntmps31
  go_upto_region 2 with (go_at_call 80; refine (HS.out _).mono ?_; rintro e w1 ⟨rfl, hb1⟩)
  have r2 : row (w1.alloc (.cells simpleP.cells 76)) w1.heap.size = some simpleP.cells := (by (repeat (first | assumption | (refine row_at _ _ _ _ ?_; first | rfl | (simp only [World.size_alloc]; done) | (simp only [World.size_alloc]; omega)) | (refine (row_past _ _ _ ?_).trans ?_; (focus (first | exact Nat.lt_succ_self _ | ((repeat rw [World.size_alloc]); omega) | (simp; done) | (simp; omega) | omega))) | rw [row_drewN] | rw [row_drew])); (first | done | fail))
  have HB1 : Hid (Below w.heap.size w (w1.alloc (.cells simpleP.cells 76))) := Lib.hid (by (repeat (first | exact Below.refl _ _ | assumption | (refine Below.allocT ?_ _) | refine Below.drew ?_ | refine below_drewN ?_ _ | (refine Below.then ?_ (by assumption)) | (refine Below.setRow ?_ ?_ _; rotate_left; (focus (first | exact Nat.lt_succ_self _ | ((repeat rw [World.size_alloc]); omega) | (simp; done) | (simp; omega) | omega))) | (refine Below.setCell ?_ ?_ _; rotate_left; (focus (first | exact Nat.lt_succ_self _ | ((repeat rw [World.size_alloc]); omega) | (simp; done) | (simp; omega) | omega))) | (refine Below.then' ?_ (by assumption) ?_; rotate_left; (focus (first | exact Nat.lt_succ_self _ | ((repeat rw [World.size_alloc]); omega) | (simp; done) | (simp; omega) | omega))) | fail)); (first | done | fail))
  clear hb1
  go_upto_region 3 with (first | (refine wpList_build_to (dedC (D23, DedA.nil)) rfl 79 _ rfl (by kernel_rfl) ?_) | (go_at_call 33; refine (HO.out _).mono ?_; rintro e w2 ⟨A2, n2, c2, xs, rfl, hn, hX, hL, h0, hb2⟩; rw [List.map_nil, open23L] at hL; rw [List.map_nil, open23I, open23E]))
  obtain ⟨⟨m, a⟩, rfl⟩ : ∃ x, xs = [x] := by
    cases xs with
    | nil => simp at hL
    | cons x r => cases r with
      | nil => exact ⟨x, rfl⟩
      | cons y r => simp at hL
  have hm : m = openM simpleP D23 5 := by simpa using hL
  have hn' : n2 = 1 := hn.symm
  subst hn'
  have hf : ∀ x ∈ [(m, a)], x.1.yes.length ≤ 1000000 ∧ x.1.no.length ≤ 1000000 := fun x hx => by
    rw [List.mem_singleton] at hx; subst hx; rw [hm]; exact bits23
  have HV := Lib.hid (fun W h => mvote_any A2 1 c2 [(m, a)] 0 3 true rfl h0 (by omega) (by unfold i64ok; omega) W (hX.below h (Nat.le_refl _)) hf)
  rw [show voteL (([(m, a)] : List (Mot × MotA)).map (·.1)) 0 3 true = ([m23], 0) by rw [← vote23a, ← hm]; rfl] at HV
  obtain ⟨b, off, rfl, hbb, hcell⟩ := hX.sl (by simp)
  have k5 : w2.cell? ⟨b, off + 28, none⟩ = some (.int .i64 7) := by
    have h := hcell 0 (m, a) rfl 28 (.int .i64 m.ends) (by rw [Array.getElem?_toList]; exact motC_at28 _)
    rw [hm, ends23] at h
    simpa using h
  have HB2 := Lib.hid (Below.then HB1.out hb2)
  have HV2 := Lib.hid (fun W (h : Below w.heap.size w W) (A : Option Addr) (c : Nat) (ys : List (Mot × MotA)) (hy : ys.map (·.1) = [m23]) (h1 : ML W A ys) (h2 : A = none → c = 0) => mvote_any A 1 c ys 0 3 false (by have := congrArg List.length hy; simpa using this) h2 (by omega) (by unfold i64ok; omega) W h1 (fun x hx => by
    have h3 : x.1 ∈ ys.map (·.1) := List.mem_map_of_mem hx
    rw [hy, List.mem_singleton] at h3; rw [h3]; exact bits23'))
  clear hX hL hf h0 hm hn hcell hb2 r2 HS HO
  go_upto_region 6 with (go_at_call 39; refine (HV.out _ (Below.refl _ _)).mono ?_; rintro e w3 ⟨A3, n3, c3, ys, rfl, hn3, hX3, hL3, h03, hb3⟩)
  obtain rfl : n3 = 1 := by rw [← hn3]; have := congrArg List.length hL3; simpa using this
  have HB3 := Lib.hid (Below.then HB2.out hb3)
  have HC := Lib.hid (HV2.out w3 HB3.out A3 c3 ys hL3 hX3 h03)
  rw [hL3, vote23b] at HC
  clear hn3 hX3 hL3 h03 hb3 HV2 HV HB2
  go_wp2_with (go_at_call 39; refine (HC.out).mono ?_; rintro e w4 ⟨A4, n4, c4, zs, rfl, hn4, hX4, hL4, h04, hb4⟩)
  go_ret
  exact ⟨rfl, Below.then HB3.out hb4⟩
end Go.Proofs.Ytnakkjgnjffkpaa

namespace Go.Proofs.Ytnakkjgnjffkpaa
open Go.RowKit
set_option linter.unusedVariables false

theorem plainML_any (A : Option Addr) (n c : Nat) (xs : List (Mot × MotA)) (hn : xs.length = n) (hm : n ≤ 90000) (w : World) (hX : ML w A xs) : Calls Try.prog 36 #[.slice A n c] w fun e w' => ∃ A' c', e = .returned (.slice A' n c') ∧ ML w' A' xs ∧ Below w.heap.size w w' := by
  refine (plain23_any A n c xs hn hm w hX.sl).mono ?_
  rintro e w' ⟨A', c', rfl, hO, hb⟩
  obtain ⟨A'', c'', e, hs, _⟩ := hO.form motC_size
  cases e
  exact ⟨A', c', by rw [hn], ⟨hs, fun x hx => (hX.at_ x hx).stay hb, hX.ok⟩, hb⟩
theorem voteL_few (L : List Mot) (i mem : Int) (yes : Bool) : (voteL L i mem yes).1.length ≤ L.length := by
  unfold voteL
  split
  · simp
  · split
    · simp
    · simp
theorem fewM_of {xs : List (Mot × MotA)} (h : fewM xs = true) : (∀ x ∈ xs, x.1.yes.length ≤ 50 ∧ x.1.no.length ≤ 50) ∧ xs.length ≤ 60 := of_decide_eq_true h
end Go.Proofs.Ytnakkjgnjffkpaa
