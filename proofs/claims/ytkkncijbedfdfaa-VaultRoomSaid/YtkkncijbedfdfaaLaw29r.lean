/-
  Layer 29: a plate of as many sectors as are told takes any snapshot and any record behind it.
-/
import Derived.Test.YtkkncijbedfdfaaLaw29
namespace Go.Proofs.Ytkkncijbedfdfaa
open Go.RowKit
set_option linter.unusedVariables false

theorem wpList_makeb {W : World} {ops : Array Oper} {rest : List Oper} {o : Oper} {a : Act} {Q : Exit → Act → World → Prop} (hw : Region.wanted o (yielded ops a.tmps) = true) (l c : Operand) (hop : o.op = Op.makeSlice 22 l c) (n : Nat) (hl : a.eval l = .int .i64 (n : Int)) (hc : a.eval c = .int .i64 (n : Int)) (hn : n ≤ 1000000)
    (hk : ∀ w' l, List.length l = n → bytesOk l → OwnB w' (.slice (some ⟨W.heap.size, 0, none⟩) n n) l → Below W.heap.size W w' → wpList Try.prog ops Q rest (a.put o.dst (.slice (some ⟨W.heap.size, 0, none⟩) n n)) w') : wpList Try.prog ops Q (o :: rest) a W := by
  obtain ⟨i0, hi, hz0, hz1, hz2⟩ := info_parts u8_info
  obtain ⟨w', hrun, r1, r2⟩ := run_make_full (P := Try.prog) W 0 22 5 i0 (.int .u8 0) 1 u8s_under hi hz0 hz1 .i64 .i64 n (by rw [hz2]; omega) (by unfold maxLen; omega) (Nat.zero_le _)
  refine BigFrame.wpList_want hw fun K hK => ?_
  unfold Oper.wp
  simp [execOp, hop, hl, hc, hrun, Result.andThen]
  refine hK _ _ (hk w' (List.replicate n 0) (List.length_replicate ..) (.of fun x hx => by rw [List.eq_of_mem_replicate hx]; decide) ?_ ((Below.refl _ W).grown r2 (Nat.le_refl _) (fun k hk => by cases hk)))
  have hcs : (madeCells (Value.int .u8 0).cells (n * 1)).toList = (List.replicate n 0).map fun x : Nat => Value.int .u8 ((x : Nat) : Int) := by
    rw [show (Value.int .u8 0).cells = #[Value.int .u8 0] from rfl, toList_madeCells_one, List.map_replicate, Nat.mul_one]; rfl
  unfold OwnB
  rw [List.length_replicate, ← hcs]
  exact r1
theorem made_bys {W : World} {b n c : Nat} {l : List Nat} (h : OwnB W (.slice (some ⟨b, 0, none⟩) n c) l) : Bys W (some ⟨b, 0, none⟩) l := by
  obtain ⟨A', c', e, hy, _⟩ := h.form
  rw [Value.slice.injEq] at e
  rw [e.1]; exact hy
theorem bare_room (N : Nat) (room : Nat) (h : 2 ≤ N) (hr : room = (N - 2) / 2) : Bare (newPs N) room := by rw [hr]; exact bare_new N h
set_option maxRecDepth 100000 in
set_option maxHeartbeats 8000000 in
theorem vaultRoom_any (a0 a1 : Int) (less : Bool) (w : World) : Calls Try.prog 4 #[.int .i64 a0, .int .i64 a1, .bool less] w fun e w' => e = .returned (.bool true) ∧ Below w.heap.size w w' := by
  go_enter Try.func4, Try.ntmps4
  go_wp2_with fail
  refine (awake29_any _).mono ?_
  rintro e w1 ⟨rfl, hb⟩
  have B1 := Lib.hid hb
  clear hb
  by_cases hall : 0 ≤ a0 ∧ a0 ≤ 131072 ∧ 1 ≤ a1 ∧ a1 ≤ 16384
  rotate_left
  · have hx : a0 < 0 ∨ (¬ a0 < 0 ∧ 131072 < a0) ∨ (¬ a0 < 0 ∧ ¬ 131072 < a0 ∧ a1 < 1) ∨ (¬ a0 < 0 ∧ ¬ 131072 < a0 ∧ ¬ a1 < 1 ∧ 16384 < a1) := by omega
    clear hall
    rcases hx with h1 | ⟨h1, h2⟩ | ⟨h1, h2, h3⟩ | ⟨h1, h2, h3, h4⟩
    all_goals
      go_wp2_with fail
      go_ret
      exact ⟨rfl, B1.out⟩
  · obtain ⟨h1, h2, h3, h4⟩ := hall
    obtain ⟨sn, rfl⟩ := Int.eq_ofNat_of_zero_le h1
    obtain ⟨rc, rfl⟩ := Int.eq_ofNat_of_zero_le (show 0 ≤ a1 by omega)
    have g1 : ¬ (sn : Int) < 0 := by omega
    have g2 : ¬ (131072 : Int) < (sn : Int) := by omega
    have g3 : ¬ (rc : Int) < 1 := by omega
    have g4 : ¬ (16384 : Int) < (rc : Int) := by omega
    have hsn : sn ≤ 131072 := by omega
    have hrc1 : 1 ≤ rc := by omega
    have hrc2 : rc ≤ 16384 := by omega
    have hss : secs sn ≤ 2048 := by unfold secs; omega
    have hrl : ∀ l : List Nat, l.length ≤ 16384 → secs (rawF l).length ≤ 257 := fun l hq => by
      have := rawF_len (bs := l) hq
      unfold secs; omega
    have HRl := Lib.hid hrl
    clear h1 h2 h3 h4 hrl
    cases less
    · obtain ⟨s0, hs0⟩ : ∃ s, s = newPs 4612 := ⟨_, rfl⟩
      have hbare : Bare s0 2305 := by rw [hs0]; exact bare_room 4612 2305 (by omega) rfl
      have ha0 : s0.armed = false := by rw [hs0]; rfl
      have HNw := Lib.hid (fun W => new_any 4612 (by omega) (by omega) W)
      unfold NewPost at HNw
      rw [← hs0] at HNw
      have HS0 := Lib.hid (And.intro hbare ha0)
      clear hbare ha0 hs0
      go_wp2_with fail
      refine (min_any _).mono ?_
      rintro e w9 ⟨rfl, rfl⟩
      go_wp2_with fail
      refine (HNw.out _).mono ?_
      rintro e w2 ⟨g, gs, rfl, hg, hgs, hP, hb⟩
      have I2 := Lib.hid (PlIn.of_new hg hgs hP hb)
      clear hg hgs hP hb HNw
      go_wp2_with (at_make; refine wpList_makeb (by rfl) _ _ rfl sn (by rfl) (by rfl) (by omega) ?_; intro w3 l3 hl3 hz3 hO3 hb3)
      obtain ⟨p1, hp1, hop⟩ := I2.out.first hb3 HS0.out.1 (by omega) sn sn (some ⟨w2.heap.size, 0, none⟩) l3 hl3 hsn (Nat.le_refl _) (by omega) (made_bys hO3) (fun _ a ha => by cases ha; exact .inl (Nat.le_refl _))
      have hc1 := (bare_first HS0.out.1 (by omega) l3 (by rw [hl3]; omega)).calm HS0.out.1.down HS0.out.2
      rw [← hp1] at hc1
      have HC1 := Lib.hid hc1
      have HOp := Lib.hid hop
      clear hop hc1 hp1 hO3 hb3
      refine (HOp.out).mono ?_
      rintro e w4 ⟨hq, _⟩
      obtain ⟨_, hz, _⟩ := hq (by omega)
      obtain ⟨gv, rfl, hV⟩ := hz HC1.out.1
      have I4 := Lib.hid hV
      have G4 := Lib.hid HC1.out.2
      clear hq hz hV HOp HC1 I2
      go_wp2_with (at_make; refine wpList_makeb (by rfl) _ _ rfl rc (by rfl) (by rfl) (by omega) ?_; intro w5 l5 hl5 hz5 hO5 hb5)
      obtain ⟨s5, hG5, ha5, hap⟩ := I4.out.app hb5 G4.out.1 G4.out.2 (by show 0 < 99999; omega) (by show 1 + 1 < 18446744073709551615; omega) rc rc (some ⟨w4.heap.size, 0, none⟩) l5 hl5 (by omega) (by omega) hz5 (made_bys hO5) (fun a ha => by cases ha; exact .inl (Nat.le_refl _)) (by show secs l3.length + secs ([] ++ rawF l5).length ≤ 2305; rw [hl3, List.nil_append]; have := HRl.out l5 (by omega); omega)
      have G5 := Lib.hid (And.intro hG5 ha5)
      have HAp := Lib.hid hap
      clear hap hG5 ha5 hO5 hb5 G4
      refine (HAp.out).mono ?_
      rintro e w6 ⟨rfl, hV⟩
      have I6 := Lib.hid hV
      clear hV HAp I4
      go_wp2_with (at_make; refine wpList_makeb (by rfl) _ _ rfl sn (by rfl) (by rfl) (by omega) ?_; intro w7 l7 hl7 hz7 hO7 hb7)
      obtain ⟨s7, hG7, ha7, hap⟩ := I6.out.cmp hb7 G5.out.1 G5.out.2 (by show 1 + 1 + 1 < 18446744073709551615; omega) sn sn (some ⟨w6.heap.size, 0, none⟩) l7 hl7 (by omega) (Nat.le_refl _) (by omega) (made_bys hO7) (fun _ a ha => by cases ha; exact .inl (Nat.le_refl _)) (by omega)
      have G7 := Lib.hid (And.intro hG7 ha7)
      have HAp := Lib.hid hap
      clear hap hG7 ha7 hO7 hb7 G5
      refine (HAp.out).mono ?_
      rintro e w8 ⟨rfl, hV⟩
      have I8 := Lib.hid hV
      clear hV HAp I6
      go_wp2_with (at_make; refine wpList_makeb (by rfl) _ _ rfl rc (by rfl) (by rfl) (by omega) ?_; intro w9 l9 hl9 hz9 hO9 hb9)
      obtain ⟨s9, hG9, ha9, hap⟩ := I8.out.app hb9 G7.out.1 G7.out.2 (by show 0 < 99999; omega) (by show 1 + 1 + 1 + 1 < 18446744073709551615; omega) rc rc (some ⟨w8.heap.size, 0, none⟩) l9 hl9 (by omega) (by omega) hz9 (made_bys hO9) (fun a ha => by cases ha; exact .inl (Nat.le_refl _)) (by show secs l7.length + secs ([] ++ rawF l9).length ≤ 2305; rw [hl7, List.nil_append]; have := HRl.out l9 (by omega); omega)
      have G9 := Lib.hid (And.intro hG9 ha9)
      have HAp := Lib.hid hap
      clear hap hG9 ha9 hO9 hb9 G7
      refine (HAp.out).mono ?_
      rintro e w10 ⟨rfl, hV⟩
      have I10 := Lib.hid hV
      clear hV HAp I8
      obtain ⟨gs10, pv10, A10, c10, x10, k10, _, _⟩ := I10.out
      have HRc := Lib.hid (records_any gv g 2305 false _ x10 (by show 1 < 100000; omega) (fun r hr => by
        have hr' : r ∈ [l9] := hr
        rw [List.mem_singleton] at hr'
        rw [hr', hl9]; omega) w10 k10.vt)
      clear k10
      go_wp2_with fail
      refine (HRc.out).mono ?_
      rintro e w11 ⟨A11, c11, rs11, rfl, _, _, hb11⟩
      have HB11 := Lib.hid (Below.then (Below.then B1.out I10.out.below) hb11)
      clear hb11 HRc
      change match Ending.returned (Value.slice A11 1 c11), w11 with | _, _ => _
      go_wp2_with fail
      go_ret
      exact ⟨rfl, HB11.out⟩
    · obtain ⟨s0, hs0⟩ : ∃ s, s = newPs 4610 := ⟨_, rfl⟩
      have hbare : Bare s0 2304 := by rw [hs0]; exact bare_room 4610 2304 (by omega) rfl
      have ha0 : s0.armed = false := by rw [hs0]; rfl
      have HNw := Lib.hid (fun W => new_any 4610 (by omega) (by omega) W)
      unfold NewPost at HNw
      rw [← hs0] at HNw
      have HS0 := Lib.hid (And.intro hbare ha0)
      clear hbare ha0 hs0
      go_wp2_with fail
      refine (min_any _).mono ?_
      rintro e w9 ⟨rfl, rfl⟩
      go_wp2_with fail
      refine (HNw.out _).mono ?_
      rintro e w2 ⟨g, gs, rfl, hg, hgs, hP, hb⟩
      have I2 := Lib.hid (PlIn.of_new hg hgs hP hb)
      clear hg hgs hP hb HNw
      go_wp2_with (at_make; refine wpList_makeb (by rfl) _ _ rfl sn (by rfl) (by rfl) (by omega) ?_; intro w3 l3 hl3 hz3 hO3 hb3)
      obtain ⟨p1, hp1, hop⟩ := I2.out.first hb3 HS0.out.1 (by omega) sn sn (some ⟨w2.heap.size, 0, none⟩) l3 hl3 hsn (Nat.le_refl _) (by omega) (made_bys hO3) (fun _ a ha => by cases ha; exact .inl (Nat.le_refl _))
      have hc1 := (bare_first HS0.out.1 (by omega) l3 (by rw [hl3]; omega)).calm HS0.out.1.down HS0.out.2
      rw [← hp1] at hc1
      have HC1 := Lib.hid hc1
      have HOp := Lib.hid hop
      clear hop hc1 hp1 hO3 hb3
      refine (HOp.out).mono ?_
      rintro e w4 ⟨hq, _⟩
      obtain ⟨_, hz, _⟩ := hq (by omega)
      obtain ⟨gv, rfl, hV⟩ := hz HC1.out.1
      have I4 := Lib.hid hV
      have G4 := Lib.hid HC1.out.2
      clear hq hz hV HOp HC1 I2
      go_wp2_with (at_make; refine wpList_makeb (by rfl) _ _ rfl 131072 (by rfl) (by rfl) (by omega) ?_; intro w5 l5 hl5 hz5 hO5 hb5)
      obtain ⟨s5, hG5, ha5, hap⟩ := I4.out.cmp hb5 G4.out.1 G4.out.2 (by show 1 + 1 < 18446744073709551615; omega) 131072 131072 (some ⟨w4.heap.size, 0, none⟩) l5 hl5 (by omega) (Nat.le_refl _) (by omega) (made_bys hO5) (fun _ a ha => by cases ha; exact .inl (Nat.le_refl _)) (by decide)
      have G5 := Lib.hid (And.intro hG5 ha5)
      have HAp := Lib.hid hap
      clear hap hG5 ha5 hO5 hb5 G4
      refine (HAp.out).mono ?_
      rintro e w6 ⟨rfl, hV⟩
      have I6 := Lib.hid hV
      clear hV HAp I4
      go_wp2_with (at_make; refine wpList_makeb (by rfl) _ _ rfl 16384 (by rfl) (by rfl) (by omega) ?_; intro w7 l7 hl7 hz7 hO7 hb7)
      have hfl : ¬ secs l5.length + secs ([] ++ rawF l7).length ≤ 2304 := by
        have hr7 : (rawF l7).length = (formN l7.length).length + l7.length := by unfold rawF; rw [List.length_append]
        rw [hl5, List.nil_append, hr7, hl7]
        have := formN_pos 16384
        unfold secs; omega
      have HAp := Lib.hid (I6.out.full hb7 G5.out.1 (by show 0 < 99999; omega) (by show 1 + 1 + 1 < 18446744073709551615; omega) 16384 16384 (some ⟨w6.heap.size, 0, none⟩) l7 hl7 (by omega) (by omega) hz7 (made_bys hO7) (fun a ha => by cases ha; exact .inl (Nat.le_refl _)) hfl)
      have I7 := Lib.hid (I6.out.stay hb7)
      clear hO7 hb7 hfl I6
      refine (HAp.out).mono ?_
      rintro e w8 ⟨rfl, hb8⟩
      have I8 := Lib.hid (I7.out.stay hb8)
      clear hb8 I7 HAp
      obtain ⟨gs10, pv10, A10, c10, x10, k10, _, _⟩ := I8.out
      have HRc := Lib.hid (records_any gv g 2304 false _ x10 (by show 0 < 100000; omega) (fun r hr => by cases hr) w8 k10.vt)
      clear k10
      go_wp2_with fail
      refine (HRc.out).mono ?_
      rintro e w11 ⟨A11, c11, rs11, rfl, _, _, hb11⟩
      have HB11 := Lib.hid (Below.then (Below.then B1.out I8.out.below) hb11)
      clear hb11 HRc
      go_wp2_with fail
      go_ret
      exact ⟨rfl, HB11.out⟩
end Go.Proofs.Ytkkncijbedfdfaa
