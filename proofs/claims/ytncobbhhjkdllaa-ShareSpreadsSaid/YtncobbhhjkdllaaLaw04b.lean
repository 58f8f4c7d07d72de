/-
  The walk of ShareSpreads: it answers true whatever the arguments.
-/
import Derived.Test.YtncobbhhjkdllaaShare4
import Derived.Test.YtncobbhhjkdllaaLaw04
namespace Go.Proofs.Ytncobbhhjkdllaa
open Go.RowKit
set_option linter.unusedVariables false

set_option maxHeartbeats 2000000 in
set_option maxRecDepth 100000 in
theorem shareSpreads_any (t n c : Nat) (A : Option Addr) (xs : List Nat) (ht : t < 18446744073709551616) (hn : xs.length = n) (hx : ∀ i, xs.getD i 0 < 18446744073709551616) (hm : n ≤ 9223372036854775807) (w : World) (hU : U64s w A xs) :
    Calls Try.prog 10 #[.int .u64 t, .slice A n c] w fun e w' => e = .returned (.bool true) ∧ Below w.heap.size w w' := by
  by_cases hbig : (400 : Int) < (n : Int)
  · clear hU hx hn
    go_enter Try.func10, Try.ntmps10
    go_wp2_with fail
    refine (awake04_any _).mono ?_
    rintro e w1 ⟨rfl, hb1⟩
    go_wp2_with fail
    go_ret
    exact ⟨rfl, hb1⟩
  · have HG := Lib.hid (u64s_got hU)
    have H3 := Lib.hid (fun W (h : GotL W xs A) => spread_any t n c A xs ht hx hn hm W h.1 (fun hp => h.2 (by rw [hn]; exact hp)))
    have H4 := Lib.hid (fun W (h : GotL W xs A) => rspread_any t n c A xs ht hx hn hm W h.1 (fun hp => h.2 (by rw [hn]; exact hp)))
    have H5 : Hid (∀ (W : World) (A1 A2 : Option Addr) (ys : List Nat) (c d : Nat), ys.length ≤ 9223372036854775807 → GotL W ys A1 → GotL W ys A2 → Calls Try.prog 37 #[.slice A1 ys.length c, .slice A2 ys.length d] W fun e W' => e = .returned (.bool true) ∧ Below W.heap.size W W') := Lib.hid fun W A1 A2 ys c d hm h1 h2 => by
      refine (same_any A1 A2 ys ys ys.length c ys.length d rfl rfl hm hm W h1.1 h2.1).mono ?_
      rintro e W' ⟨rfl, hb⟩
      exact ⟨by rw [show sameB ys ys = true by simp [sameB]], hb⟩
    clear hU hx hn
    go_enter Try.func10, Try.ntmps10
    go_wp2_with fail
    refine (awake04_any _).mono ?_
    rintro e w1 ⟨rfl, hb1⟩
    have G2 := Lib.hid (HG.out.stay hb1)
    go_wp2_with fail
    refine (H3.out _ G2.out).mono ?_
    rintro e w3 ⟨v, rfl, hown, hb3⟩
    obtain ⟨A3, c3, rfl, hg3, hl3⟩ := hown.got
    have G3 := Lib.hid (G2.out.stay hb3)
    have L3 := Lib.hid hg3
    have hB3 := Below.then hb1 hb3
    clear hb1 hb3 G2 hown hg3
    go_wp2_with fail
    refine (H4.out _ G3.out).mono ?_
    rintro e w4 ⟨v, rfl, hown, hb4⟩
    obtain ⟨A4, c4, rfl, hg4, hl4⟩ := hown.got
    have L3' := Lib.hid (L3.out.stay hb4)
    have L4 := Lib.hid hg4
    have hB4 := Below.then hB3 hb4
    have HL := Lib.hid hl3
    clear hB3 hb4 G3 hown hg4 hl3 hl4 L3
    generalize spreadE t xs = we at *
    generalize hpl : spreadV t xs = pl at *
    clear hpl
    go_wp2_with fail
    refine (H5.out _ A3 A4 pl c3 c4 HL.out L3'.out L4.out).mono ?_
    rintro e w5 ⟨rfl, hb5⟩
    go_wp2_with fail
    go_ret
    exact ⟨rfl, Below.then hB4 hb5⟩
end Go.Proofs.Ytncobbhhjkdllaa
