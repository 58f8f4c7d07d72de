/-
  Lists of places read: annals.list, and the reference's read (bullionref38).
-/
import Derived.Test.YtnakkjgnjffkpaaRepP
import Derived.Test.YtnakkjgnjffkpaaAnn
import Derived.Test.YtnakkjgnjffkpaaCoder6
import Derived.Test.YtnakkjgnjffkpaaRef05c
namespace Go.Proofs.Ytnakkjgnjffkpaa
open Go.RowKit
set_option linter.unusedVariables false

/-- What a call that reads a list leaves: the list, in memory of its own, and the reader. -/
def LstPost (C : Option Addr → Nat → Rd → Array Value) (w : World) (g : Nat) (A : Option Addr) (c : Nat) (p : List Int × Rd) (e : Ending) (w' : World) : Prop :=
  ∃ B d, e = .returned (.slice B p.1.length d) ∧ OwnC 3 1 intK w' w.heap.size (.slice B p.1.length d) p.1 ∧ RdAtC C w' g A c p.2 ∧ Chg (only g) w w'
theorem int_nat38 (s : Rd) : s.int 2147483647 = s.num 2147483647 := int_nat s 2147483647
theorem int_256 (s : Rd) : s.int 256 = s.num 256 := int_nat s 256
theorem rdLoop_go {n : Nat} {acc : List Int} {t : Rd} (h : t.e = 0) : rdLoop (n + 1) acc t = rdLoop n (acc ++ [(((t.num 2147483647).1 : Nat) : Int)]) (t.num 2147483647).2 := by rw [rdLoop, if_pos h]
/-- A reader and a list of the call's own, behind a step of append. -/
theorem RdAtC.grown {C : Option Addr → Nat → Rd → Array Value} {W W' : World} {g : Nat} {A : Option Addr} {c : Nat} {s : Rd} {v : Value} {B : Nat} (h : RdAtC C W g A c s) (hg : W.grownBy W' v.ownBlock) (hv : ∀ k, v.ownBlock = some k → B ≤ k) (hgB : g < B) (hA : 0 < s.xs.length → ∀ a, A = some a → a.block < B) : RdAtC C W' g A c s :=
  h.chg' (S := fun k => v.ownBlock = some k) ((Chg.refl _ W).grown hg (fun k hk => .inl hk)) (fun he => by have := hv g he; omega) (fun hp a ha he => by have := hv _ he; have := hA hp a ha; omega)
section
variable {w : World} {g : Nat}
theorem Chg.grownB {W W' : World} {v : Value} (h : Chg (only g) w W) (hg : W.grownBy W' v.ownBlock) (hv : ∀ k, v.ownBlock = some k → w.heap.size ≤ k) : Chg (only g) w W' := h.grown hg (fun k hk => .inr (hv k hk))
end
set_option maxRecDepth 100000 in
set_option maxHeartbeats 4000000 in
theorem list38_any (g : Nat) (A : Option Addr) (c : Nat) (t : Rd) (ht : t.Ok) (w : World) (hR : RdAt w g A c t) : Calls Try.prog 74 #[.pointer (some ⟨g, 0, none⟩)] w (LstPost rdC w g A c (rdList t)) := by
  have HI := Lib.hid (rint_any g A c t ht 256 (by unfold i64ok; omega) w hR)
  rw [int_256] at HI
  have hn := t.num_le 256
  have HT : Hid ((t.num 256).2.Ok ∧ (t.num 256).2.xs = t.xs) := Lib.hid ⟨ht.num _, t.num_xs _⟩
  have HP : Hid (rdLoop (t.num 256).1 [] (t.num 256).2 = rdList t) := Lib.hid rfl
  have HG := Lib.hid hR.lt
  have HA : Hid (0 < t.xs.length → ∀ a, A = some a → a.block < w.heap.size) := Lib.hid fun hp => hR.bys.lt hp
  generalize rdList t = P at *
  generalize (t.num 256).1 = n at *
  generalize (t.num 256).2 = t1 at *
  clear hR ht
  go_enter Try.func74, Try.ntmps74
  go_wp2_with fail
  refine (HI.out).mono ?_
  rintro e w1 ⟨rfl, hR1, hC1⟩
  have R1 := Lib.hid hR1
  have C1 := Lib.hid hC1
  clear hR1 hC1 HI
  go_wp2_with fail
  go_loopw [3, 5] (fun l i wr => ∃ (j : Nat) (V : Value) (acc : List Int) (s : Rd), i = .int .i64 j ∧ V = l ∧ j ≤ n ∧ acc.length = j ∧ Hid (rdLoop (n - j) acc s = P ∧ s.Ok ∧ s.xs = t.xs ∧ OwnC 3 1 intK wr w.heap.size V acc ∧ RdAt wr g A c s ∧ Chg (only g) w wr)) (fun _ i _ => n - (intOf i).toNat)
  case atStart => exact ⟨0, _, [], t1, rfl, rfl, by omega, rfl, Lib.hid ⟨HP.out, HT.out.1, HT.out.2, OwnC.nil _ _, R1.out, C1.out⟩⟩
  case round =>
    obtain ⟨j, V, acc, s, rfl, rfl, hj, hacc, hH⟩ := hrel
    have HAcc := Lib.hid hacc
    by_cases hlt : j < n
    · have z1 : (j : Int) < (n : Int) := by omega
      have HEr := Lib.hid (rerr_any g A c s wr hH.out.2.2.2.2.1)
      by_cases h0 : s.e = 0
      · have HI2 := Lib.hid (rint_any g A c s hH.out.2.1 2147483647 (by unfold i64ok; omega) wr hH.out.2.2.2.2.1)
        rw [int_nat38] at HI2
        have HStep : Hid (rdLoop (n - (j + 1)) (acc ++ [(((s.num 2147483647).1 : Nat) : Int)]) (s.num 2147483647).2 = P) := Lib.hid (by
          have := hH.out.1
          rw [show n - j = (n - (j + 1)) + 1 by omega, rdLoop_go h0] at this
          exact this)
        have HS2 : Hid ((s.num 2147483647).2.Ok ∧ (s.num 2147483647).2.xs = t.xs) := Lib.hid ⟨hH.out.2.1.num _, (s.num_xs _).trans hH.out.2.2.1⟩
        rw [h0] at HEr
        generalize (s.num 2147483647).1 = x at *
        generalize (s.num 2147483647).2 = s2 at *
        clear h0 hacc
        go_wp2_with fail
        refine (HEr.out).mono ?_
        rintro e w2 ⟨rfl, rfl⟩
        go_wp2_with fail
        refine (HI2.out).mono ?_
        rintro e w3 ⟨rfl, hR3, hC3⟩
        have R3 := Lib.hid (hR3.stay ((Below.refl _ w3).alloc (Nat.le_refl _) (.cells #[.int .i64 (x : Int)] 3)))
        have C3 := Lib.hid ((hH.out.2.2.2.2.2.andThen hC3 (fun k hk => .inl hk)).alloc (.cells #[.int .i64 (x : Int)] 3))
        have O3 := Lib.hid ((hH.out.2.2.2.1.chg hC3 (fun k hk he => by
          have h1 := (hH.out.2.2.2.1.lt k hk).1
          have h2 := HG.out
          have h3 : k = g := he
          omega)).stay ((Below.refl _ w3).alloc (Nat.le_refl _) (.cells #[.int .i64 (x : Int)] 3)))
        clear hR3 hC3 HEr HI2
        go_wp2_with (at_builtin; refine wpList_append_d ints_under' int_info' rfl (by decide) (by decide) intK_size intK_one rfl _ _ rfl w.heap.size V acc rfl O3.out _ 1 (x : Int) rfl (row_at _ _ _ _ rfl) j HAcc.out (by rw [HAcc.out]; omega) (by have := C3.out.size; omega) ?_; intro A' cap w4 hO4 hg4 _; have HO4 := Lib.hid hO4; have HR4 := Lib.hid (R3.out.grown hg4 (fun k hk => (O3.out.lt k hk).1) HG.out (fun hp => HA.out (by rw [← HS2.out.2]; exact hp))); have HC4 := Lib.hid (C3.out.grownB hg4 (fun k hk => (O3.out.lt k hk).1)); clear hO4 hg4)
        exact ⟨⟨j + 1, _, acc ++ [(x : Int)], s2, by go_num, rfl, by omega, by rw [List.length_append, HAcc.out]; rfl, Lib.hid ⟨HStep.out, HS2.out.1, HS2.out.2, HO4.out, HR4.out, HC4.out⟩⟩, by simp [intOf]; omega⟩
      · have HEnd : Hid (P = (acc, s)) := Lib.hid (by rw [← hH.out.1]; exact rdLoop_bad h0)
        have e1 : (s.e == 0) = false := beq_eq_false_iff_ne.2 h0
        have hO' := hH.out.2.2.2.1
        obtain ⟨B', d', rfl, h⟩ := hO'.form intK_size
        clear h
        have HO' := Lib.hid hO'
        clear hO' h0 hacc
        go_wp2_with fail
        refine (HEr.out).mono ?_
        rintro e w2 ⟨rfl, rfl⟩
        go_wp2_with fail
        go_ret
        exact ⟨B', d', by rw [HEnd.out]; rfl, by rw [HEnd.out]; exact HO'.out, by rw [HEnd.out]; exact hH.out.2.2.2.2.1, hH.out.2.2.2.2.2⟩
    · obtain rfl : j = n := by omega
      have HEnd : Hid (P = (acc, s)) := Lib.hid (by rw [← hH.out.1, Nat.sub_self]; rfl)
      have hO' := hH.out.2.2.2.1
      obtain ⟨B', d', rfl, h⟩ := hO'.form intK_size
      clear h
      have HO' := Lib.hid hO'
      clear hO' hacc
      go_wp2_with fail
      go_ret
      exact ⟨B', d', by rw [HEnd.out]; rfl, by rw [HEnd.out]; exact HO'.out, by rw [HEnd.out]; exact hH.out.2.2.2.2.1, hH.out.2.2.2.2.2⟩
set_option maxRecDepth 100000 in
set_option maxHeartbeats 4000000 in
theorem rread38_any (g : Nat) (A : Option Addr) (c : Nat) (t : Rd) (ht : t.Ok) (w : World) (hR : RfAt w g A c t) : Calls Try.prog 78 #[.pointer (some ⟨g, 0, none⟩)] w (LstPost rfC w g A c (rdList t)) := by
  have HI := Lib.hid (fint_any g A c t ht 256 (by unfold i64ok; omega) w hR)
  rw [int_256] at HI
  have hn := t.num_le 256
  have HT : Hid ((t.num 256).2.Ok ∧ (t.num 256).2.xs = t.xs) := Lib.hid ⟨ht.num _, t.num_xs _⟩
  have HP : Hid (rdLoop (t.num 256).1 [] (t.num 256).2 = rdList t) := Lib.hid rfl
  have HG := Lib.hid hR.lt
  have HA : Hid (0 < t.xs.length → ∀ a, A = some a → a.block < w.heap.size) := Lib.hid fun hp => hR.bys.lt hp
  generalize rdList t = P at *
  generalize (t.num 256).1 = n at *
  generalize (t.num 256).2 = t1 at *
  clear hR ht
  go_enter Try.func78, Try.ntmps78
  go_wp2_with fail
  refine (HI.out).mono ?_
  rintro e w1 ⟨rfl, hR1, hC1⟩
  have R1 := Lib.hid hR1
  have C1 := Lib.hid hC1
  clear hR1 hC1 HI
  go_wp2_with fail
  go_loopw [3, 5] (fun l i wr => ∃ (j : Nat) (V : Value) (acc : List Int) (s : Rd), i = .int .i64 j ∧ V = l ∧ j ≤ n ∧ acc.length = j ∧ Hid (rdLoop (n - j) acc s = P ∧ s.Ok ∧ s.xs = t.xs ∧ OwnC 3 1 intK wr w.heap.size V acc ∧ RfAt wr g A c s ∧ Chg (only g) w wr)) (fun _ i _ => n - (intOf i).toNat)
  case atStart => exact ⟨0, _, [], t1, rfl, rfl, by omega, rfl, Lib.hid ⟨HP.out, HT.out.1, HT.out.2, OwnC.nil _ _, R1.out, C1.out⟩⟩
  case round =>
    obtain ⟨j, V, acc, s, rfl, rfl, hj, hacc, hH⟩ := hrel
    have HAcc := Lib.hid hacc
    have c2 : wr.cell? ⟨g, 2, none⟩ = some (.int .i64 s.e) := hH.out.2.2.2.2.1.cells 2
    by_cases hlt : j < n
    · have z1 : (j : Int) < (n : Int) := by omega
      by_cases h0 : s.e = 0
      · have HI2 := Lib.hid (fint_any g A c s hH.out.2.1 2147483647 (by unfold i64ok; omega) wr hH.out.2.2.2.2.1)
        rw [int_nat38] at HI2
        have HStep : Hid (rdLoop (n - (j + 1)) (acc ++ [(((s.num 2147483647).1 : Nat) : Int)]) (s.num 2147483647).2 = P) := Lib.hid (by
          have := hH.out.1
          rw [show n - j = (n - (j + 1)) + 1 by omega, rdLoop_go h0] at this
          exact this)
        have HS2 : Hid ((s.num 2147483647).2.Ok ∧ (s.num 2147483647).2.xs = t.xs) := Lib.hid ⟨hH.out.2.1.num _, (s.num_xs _).trans hH.out.2.2.1⟩
        rw [h0] at c2
        generalize (s.num 2147483647).1 = x at *
        generalize (s.num 2147483647).2 = s2 at *
        clear h0 hacc
        go_wp2_with fail
        refine (HI2.out).mono ?_
        rintro e w3 ⟨rfl, hR3, hC3⟩
        have R3 := Lib.hid (hR3.stay ((Below.refl _ w3).alloc (Nat.le_refl _) (.cells #[.int .i64 (x : Int)] 3)))
        have C3 := Lib.hid ((hH.out.2.2.2.2.2.andThen hC3 (fun k hk => .inl hk)).alloc (.cells #[.int .i64 (x : Int)] 3))
        have O3 := Lib.hid ((hH.out.2.2.2.1.chg hC3 (fun k hk he => by
          have h1 := (hH.out.2.2.2.1.lt k hk).1
          have h2 := HG.out
          have h3 : k = g := he
          omega)).stay ((Below.refl _ w3).alloc (Nat.le_refl _) (.cells #[.int .i64 (x : Int)] 3)))
        clear hR3 hC3 HI2 c2
        go_wp2_with (at_builtin; refine wpList_append_d ints_under' int_info' rfl (by decide) (by decide) intK_size intK_one rfl _ _ rfl w.heap.size V acc rfl O3.out _ 1 (x : Int) rfl (row_at _ _ _ _ rfl) j HAcc.out (by rw [HAcc.out]; omega) (by have := C3.out.size; omega) ?_; intro A' cap w4 hO4 hg4 _; have HO4 := Lib.hid hO4; have HR4 := Lib.hid (R3.out.grown hg4 (fun k hk => (O3.out.lt k hk).1) HG.out (fun hp => HA.out (by rw [← HS2.out.2]; exact hp))); have HC4 := Lib.hid (C3.out.grownB hg4 (fun k hk => (O3.out.lt k hk).1)); clear hO4 hg4)
        exact ⟨⟨j + 1, _, acc ++ [(x : Int)], s2, by go_num, rfl, by omega, by rw [List.length_append, HAcc.out]; rfl, Lib.hid ⟨HStep.out, HS2.out.1, HS2.out.2, HO4.out, HR4.out, HC4.out⟩⟩, by simp [intOf]; omega⟩
      · have HEnd : Hid (P = (acc, s)) := Lib.hid (by rw [← hH.out.1]; exact rdLoop_bad h0)
        have e1 : (s.e == 0) = false := beq_eq_false_iff_ne.2 h0
        have hO' := hH.out.2.2.2.1
        obtain ⟨B', d', rfl, h⟩ := hO'.form intK_size
        clear h
        have HO' := Lib.hid hO'
        clear hO' h0 hacc
        go_wp2_with fail
        go_ret
        exact ⟨B', d', by rw [HEnd.out]; rfl, by rw [HEnd.out]; exact HO'.out, by rw [HEnd.out]; exact hH.out.2.2.2.2.1, hH.out.2.2.2.2.2⟩
    · obtain rfl : j = n := by omega
      have HEnd : Hid (P = (acc, s)) := Lib.hid (by rw [← hH.out.1, Nat.sub_self]; rfl)
      have hO' := hH.out.2.2.2.1
      obtain ⟨B', d', rfl, h⟩ := hO'.form intK_size
      clear h
      have HO' := Lib.hid hO'
      clear hO' hacc
      go_wp2_with fail
      go_ret
      exact ⟨B', d', by rw [HEnd.out]; rfl, by rw [HEnd.out]; exact HO'.out, by rw [HEnd.out]; exact hH.out.2.2.2.2.1, hH.out.2.2.2.2.2⟩
end Go.Proofs.Ytnakkjgnjffkpaa
