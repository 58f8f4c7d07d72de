/-
  The walks of ShareCuts and ShareSplits.
-/
import Derived.Test.YtncobbhhjkdllaaShare3
import Derived.Test.YtncobbhhjkdllaaFine
import Derived.Test.YtncobbhhjkdllaaCalm
namespace Go.Proofs.Ytncobbhhjkdllaa
open Go.RowKit
set_option linter.unusedVariables false

theorem lit_u64s (w : World) (xs : List Nat) (cs : Array Value) (h : cs = (xs.map fun x : Nat => Value.int .u64 ((x : Nat) : Int)).toArray) : U64s (w.alloc (.cells cs 22)) (some ⟨w.heap.size, 0, none⟩) xs := fun _ => by
  refine ⟨w.heap.size, 0, rfl, by simp, fun i hi => ?_⟩
  rw [row_cell (row_at w cs 22 _ rfl) (0 + i), h, Nat.zero_add]
  simp [hi]
/-- A list that is handed back, as numbers. -/
def GotL (W : World) (l : List Nat) (A : Option Addr) : Prop := U64s W A l ∧ (0 < l.length → ∀ x, A = some x → x.block < W.heap.size)
theorem u64s_got {W : World} {l : List Nat} {A : Option Addr} (h : U64s W A l) : GotL W l A := ⟨h, fun hp x hx => by
  obtain ⟨b, off, e, hb, _⟩ := h hp
  rw [e] at hx; cases hx; exact hb⟩
theorem GotL.stay {W W' : World} {l : List Nat} {A : Option Addr} (h : GotL W l A) (hb : Below W.heap.size W W') : GotL W' l A := u64s_got (h.1.below hb (Nat.le_refl _))
theorem OwnL.got {W : World} {B : Nat} {v : Value} {l : List Nat} (h : OwnL W B v l) : ∃ A c, v = .slice A l.length c ∧ GotL W l A ∧ l.length ≤ 9223372036854775807 := by
  obtain ⟨A, c, rfl, h1, h2, h3⟩ := h.form
  exact ⟨A, c, rfl, u64s_got h1, h3⟩
set_option maxHeartbeats 2000000 in
set_option maxRecDepth 100000 in
theorem awake04_any (w : World) : Calls Try.prog 32 #[] w fun e w' => e = .returned (.bool true) ∧ Below w.heap.size w w' := by
  have H1 : Hid (∀ (W : World) (g : Nat), GotL W [1, 1, 1] (some ⟨g, 0, none⟩) → Calls Try.prog 35 #[.int .u64 10, .slice (some ⟨g, 0, none⟩) 3 3] W fun e W' => ∃ A c, e = .returned (.tuple #[.slice A 3 c, .int .u64 1, .int .i64 0]) ∧ GotL W' [3, 3, 3] A ∧ Below W.heap.size W W') := Lib.hid fun W g hg => by
    refine (splitl_any 10 3 3 (some ⟨g, 0, none⟩) [1, 1, 1] (by omega) (fun i => ?_) rfl (by omega) W hg.1 hg.2).mono ?_
    · match i with
      | 0 => decide
      | 1 => decide
      | 2 => decide
      | i + 3 => simp
    · rintro e W' ⟨v, rfl, hown, hb⟩
      rw [show partsV 10 [1, 1, 1] = [3, 3, 3] by decide] at hown
      obtain ⟨A, c, rfl, hg, _⟩ := hown.got
      exact ⟨A, c, by rw [show leftV 10 [1, 1, 1] = 1 by decide, show wholeE [1, 1, 1] = 0 by decide]; rfl, hg, hb⟩
  have H2 : Hid (∀ (W : World) (g : Nat), GotL W [0, 1, 1, 1] (some ⟨g, 0, none⟩) → Calls Try.prog 38 #[.int .u64 10, .slice (some ⟨g, 0, none⟩) 4 4] W fun e W' => ∃ A c, e = .returned (.tuple #[.slice A 4 c, .int .i64 0]) ∧ GotL W' [0, 4, 3, 3] A ∧ Below W.heap.size W W') := Lib.hid fun W g hg => by
    refine (spread_any 10 4 4 (some ⟨g, 0, none⟩) [0, 1, 1, 1] (by omega) (fun i => ?_) rfl (by omega) W hg.1 hg.2).mono ?_
    · match i with
      | 0 => decide
      | 1 => decide
      | 2 => decide
      | 3 => decide
      | i + 4 => simp
    · rintro e W' ⟨v, rfl, hown, hb⟩
      rw [show spreadV 10 [0, 1, 1, 1] = [0, 4, 3, 3] by decide] at hown
      obtain ⟨A, c, rfl, hg, _⟩ := hown.got
      exact ⟨A, c, by rw [show spreadE 10 [0, 1, 1, 1] = 0 by decide]; rfl, hg, hb⟩
  have H3 : Hid (∀ (W : World) (A1 A2 : Option Addr) (xs : List Nat) (n c d : Nat), xs.length = n → n ≤ 100 → GotL W xs A1 → GotL W xs A2 → Calls Try.prog 37 #[.slice A1 n c, .slice A2 n d] W fun e W' => e = .returned (.bool true) ∧ Below W.heap.size W W') := Lib.hid fun W A1 A2 xs n c d hn hm h1 h2 => by
    refine (same_any A1 A2 xs xs n c n d hn hn (by omega) (by omega) W h1.1 h2.1).mono ?_
    rintro e W' ⟨rfl, hb⟩
    exact ⟨by rw [show sameB xs xs = true by simp [sameB]], hb⟩
  have HG : Hid (∀ (W : World) (xs : List Nat) (cs : Array Value), cs = (xs.map fun x : Nat => Value.int .u64 ((x : Nat) : Int)).toArray → GotL (W.alloc (.cells cs 22)) xs (some ⟨W.heap.size, 0, none⟩)) := Lib.hid fun W xs cs h => u64s_got (lit_u64s W xs cs h)
  go_enter Try.func32, Try.ntmps32
  go_wp2_with fail
  refine (H1.out _ w.heap.size (HG.out _ _ _ rfl)).mono ?_
  rintro e w1 ⟨A1, c1, rfl, g1, hb1⟩
  go_wp2_with fail
  refine (H2.out _ w1.heap.size (HG.out _ _ _ rfl)).mono ?_
  rintro e w2 ⟨A2, c2, rfl, g2, hb2⟩
  have g1' := Lib.hid ((g1.stay ((Below.refl _ _).alloc (Nat.le_refl _) _)).stay hb2)
  have hB2 : Below w.heap.size w w2 := (by (repeat (first | exact Below.refl _ _ | assumption | (refine Below.allocT ?_ _) | refine Below.drew ?_ | refine below_drewN ?_ _ | (refine Below.then ?_ (by assumption)) | (refine Below.setRow ?_ ?_ _; rotate_left; (focus (first | exact Nat.lt_succ_self _ | ((repeat rw [World.size_alloc]); omega) | (simp; done) | (simp; omega) | omega))) | (refine Below.setCell ?_ ?_ _; rotate_left; (focus (first | exact Nat.lt_succ_self _ | ((repeat rw [World.size_alloc]); omega) | (simp; done) | (simp; omega) | omega))) | (refine Below.then' ?_ (by assumption) ?_; rotate_left; (focus (first | exact Nat.lt_succ_self _ | ((repeat rw [World.size_alloc]); omega) | (simp; done) | (simp; omega) | omega))) | fail)); (first | done | fail))
  clear g1 hb1 hb2
  have G2 := Lib.hid g2
  clear g2
  go_wp2_with fail
  refine (H3.out _ A1 (some ⟨w2.heap.size, 0, none⟩) [3, 3, 3] 3 c1 3 rfl (by omega) (g1'.out.stay ((Below.refl _ _).alloc (Nat.le_refl _) _)) (HG.out _ _ _ rfl)).mono ?_
  rintro e w3 ⟨rfl, hb3⟩
  have G3 := Lib.hid ((G2.out.stay ((Below.refl _ _).alloc (Nat.le_refl _) _)).stay hb3)
  have hB3 : Below w.heap.size w w3 := (by (repeat (first | exact Below.refl _ _ | assumption | (refine Below.allocT ?_ _) | refine Below.drew ?_ | refine below_drewN ?_ _ | (refine Below.then ?_ (by assumption)) | (refine Below.setRow ?_ ?_ _; rotate_left; (focus (first | exact Nat.lt_succ_self _ | ((repeat rw [World.size_alloc]); omega) | (simp; done) | (simp; omega) | omega))) | (refine Below.setCell ?_ ?_ _; rotate_left; (focus (first | exact Nat.lt_succ_self _ | ((repeat rw [World.size_alloc]); omega) | (simp; done) | (simp; omega) | omega))) | (refine Below.then' ?_ (by assumption) ?_; rotate_left; (focus (first | exact Nat.lt_succ_self _ | ((repeat rw [World.size_alloc]); omega) | (simp; done) | (simp; omega) | omega))) | fail)); (first | done | fail))
  clear hb3 hB2 G2 g1'
  go_wp2_with fail
  refine (H3.out _ A2 (some ⟨w3.heap.size, 0, none⟩) [0, 4, 3, 3] 4 c2 4 rfl (by omega) (G3.out.stay ((Below.refl _ _).alloc (Nat.le_refl _) _)) (HG.out _ _ _ rfl)).mono ?_
  rintro e w4 ⟨rfl, hb4⟩
  have hB4 : Below w.heap.size w w4 := (by (repeat (first | exact Below.refl _ _ | assumption | (refine Below.allocT ?_ _) | refine Below.drew ?_ | refine below_drewN ?_ _ | (refine Below.then ?_ (by assumption)) | (refine Below.setRow ?_ ?_ _; rotate_left; (focus (first | exact Nat.lt_succ_self _ | ((repeat rw [World.size_alloc]); omega) | (simp; done) | (simp; omega) | omega))) | (refine Below.setCell ?_ ?_ _; rotate_left; (focus (first | exact Nat.lt_succ_self _ | ((repeat rw [World.size_alloc]); omega) | (simp; done) | (simp; omega) | omega))) | (refine Below.then' ?_ (by assumption) ?_; rotate_left; (focus (first | exact Nat.lt_succ_self _ | ((repeat rw [World.size_alloc]); omega) | (simp; done) | (simp; omega) | omega))) | fail)); (first | done | fail))
  go_wp2_with fail
  go_ret
  exact ⟨rfl, hB4⟩
set_option maxHeartbeats 2000000 in
theorem shareCuts_any (t : Nat) (rate : Int) (ht : t < 18446744073709551616) (hr : i64ok rate) (w : World) : Calls Try.prog 13 #[.int .u64 t, .int .i64 rate] w fun e w' => e = .returned (.bool true) ∧ Below w.heap.size w w' := by
  unfold i64ok at hr
  by_cases hin : 0 ≤ rate ∧ rate ≤ 10000
  · obtain ⟨k, rfl⟩ := Int.eq_ofNat_of_zero_le hin.1
    have hk := hin.2
    have HC := Lib.hid (fun W => cut_any t (k : Int) ht hin.1 hin.2 W)
    have HD := Lib.hid (fun W => rdown_any t k 10000 ht (by omega) (by omega) W)
    have hle := cutN_le t (k : Int) hin.2
    rw [show quoV (t * k) 10000 = cutN t (k : Int) by unfold quoV; rw [if_neg (by omega)]; exact fit_le (show cutN t (k : Int) ≤ _ by omega)] at HD
    generalize quoE (t * k) 10000 = qe at *
    generalize cutN t (k : Int) = q at *
    obtain ⟨d, hd⟩ : ∃ d, d = t - q := ⟨_, rfl⟩
    have E0 : IntKind.u64.wrap ((k : Int)) = (k : Int) := Bits.wrapN _ (by omega)
    have E1 : IntKind.u64.wrap ((t : Int) - (q : Int)) = (d : Int) := by rw [show (t : Int) - (q : Int) = ((d : Nat) : Int) by omega]; exact Bits.wrapN _ (by omega)
    rw [← hd] at HC
    clear hd hle hin hr
    go_enter Try.func13, Try.ntmps13
    go_wp2_with fail
    have hB0 := Below.refl w.heap.size w
    refine (awake04_any _).mono ?_
    rintro e w1 ⟨rfl, hb1⟩
    have hB1 := Below.then hB0 hb1
    clear  hB0 hb1
    go_wp2_with fail
    refine (HC.out _).mono ?_
    rintro e w2 ⟨rfl, hb2⟩
    have hB2 := Below.then hB1 hb2
    clear  hB1 hb2
    go_wp2_with fail
    refine (HD.out _).mono ?_
    rintro e w3 ⟨rfl, hb3⟩
    have hB3 := Below.then hB2 hb3
    clear  hB2 hb3
    go_wp2_with fail
    go_ret
    exact ⟨rfl, hB3⟩
  · have h2 : rate < 0 ∨ (¬ rate < 0 ∧ 10000 < rate) := by omega
    have HC := Lib.hid (fun W => cut_no t rate (by omega) W)
    clear hin hr
    rcases h2 with h | ⟨h, h'⟩
    all_goals
      go_enter Try.func13, Try.ntmps13
      go_wp2_with fail
      refine (awake04_any _).mono ?_
      rintro e w1 ⟨rfl, hb1⟩
      go_wp2_with fail
      refine (HC.out _).mono ?_
      rintro e w2 ⟨rfl, rfl⟩
      go_wp2_with fail
      go_ret
      exact ⟨rfl, hb1⟩
set_option maxHeartbeats 2000000 in
set_option maxRecDepth 100000 in
theorem shareSplits_any (t n c : Nat) (A : Option Addr) (xs : List Nat) (ht : t < 18446744073709551616) (hn : xs.length = n) (hx : ∀ i, xs.getD i 0 < 18446744073709551616) (hm : n ≤ 9223372036854775807) (w : World) (hU : U64s w A xs) :
    Calls Try.prog 9 #[.int .u64 t, .slice A n c] w fun e w' => e = .returned (.bool true) ∧ Below w.heap.size w w' := by
  by_cases hbig : (400 : Int) < (n : Int)
  · clear hU hx hn
    go_enter Try.func9, Try.ntmps9
    go_wp2_with fail
    refine (awake04_any _).mono ?_
    rintro e w1 ⟨rfl, hb1⟩
    go_wp2_with fail
    go_ret
    exact ⟨rfl, hb1⟩
  · have HG := Lib.hid (u64s_got hU)
    have H1 := Lib.hid (fun W (h : GotL W xs A) => swhole_any A xs n c hn hx hm W h.1)
    have H2 := Lib.hid (fun W (h : GotL W xs A) => rwhole04_any A xs n c hn hx hm W h.1)
    have H3 := Lib.hid (fun W (h : GotL W xs A) => splitl_any t n c A xs ht hx hn hm W h.1 (fun hp => h.2 (by rw [hn]; exact hp)))
    have H4 := Lib.hid (fun W (h : GotL W xs A) => rsplit_any t n c A xs ht hx hn hm W h.1 (fun hp => h.2 (by rw [hn]; exact hp)))
    have H5 : Hid (∀ (W : World) (A1 A2 : Option Addr) (ys : List Nat) (c d : Nat), ys.length ≤ 9223372036854775807 → GotL W ys A1 → GotL W ys A2 → Calls Try.prog 37 #[.slice A1 ys.length c, .slice A2 ys.length d] W fun e W' => e = .returned (.bool true) ∧ Below W.heap.size W W') := Lib.hid fun W A1 A2 ys c d hm h1 h2 => by
      refine (same_any A1 A2 ys ys ys.length c ys.length d rfl rfl hm hm W h1.1 h2.1).mono ?_
      rintro e W' ⟨rfl, hb⟩
      exact ⟨by rw [show sameB ys ys = true by simp [sameB]], hb⟩
    generalize wholeT xs = wt at *
    clear hU hx hn
    go_enter Try.func9, Try.ntmps9
    go_wp2_with fail
    refine (awake04_any _).mono ?_
    rintro e w1 ⟨rfl, hb1⟩
    have G1 := Lib.hid (HG.out.stay hb1)
    go_wp2_with fail
    refine (H1.out _ G1.out).mono ?_
    rintro e w2 ⟨rfl, rfl⟩
    go_wp2_with fail
    refine (H2.out _ G1.out).mono ?_
    rintro e w2 ⟨rfl, hb2⟩
    have G2 := Lib.hid (G1.out.stay hb2)
    have hB2 := Below.then hb1 hb2
    clear hb1 hb2 G1 HG
    go_wp2_with fail
    refine (H3.out _ G2.out).mono ?_
    rintro e w3 ⟨v, rfl, hown, hb3⟩
    obtain ⟨A3, c3, rfl, hg3, hl3⟩ := hown.got
    have G3 := Lib.hid (G2.out.stay hb3)
    have L3 := Lib.hid hg3
    have hB3 := Below.then hB2 hb3
    clear hB2 hb3 G2 hown hg3
    go_wp2_with fail
    refine (H4.out _ G3.out).mono ?_
    rintro e w4 ⟨v, rfl, hown, hb4⟩
    obtain ⟨A4, c4, rfl, hg4, hl4⟩ := hown.got
    have L3' := Lib.hid (L3.out.stay hb4)
    have L4 := Lib.hid hg4
    have hB4 := Below.then hB3 hb4
    have HL := Lib.hid hl3
    clear hB3 hb4 G3 hown hg4 hl3 hl4 L3
    generalize leftV t xs = lf at *
    generalize wholeE xs = we at *
    generalize hpl : partsV t xs = pl at *
    clear hpl
    go_wp2_with fail
    refine (H5.out _ A3 A4 pl c3 c4 HL.out L3'.out L4.out).mono ?_
    rintro e w5 ⟨rfl, hb5⟩
    go_wp2_with fail
    go_ret
    exact ⟨rfl, Below.then hB4 hb5⟩
end Go.Proofs.Ytncobbhhjkdllaa
