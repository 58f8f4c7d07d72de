/-
  A plate is armed, and its power comes back; a sector is read.
-/
import Derived.Test.YtkkncijbedfdfaaPlate3
import Derived.OwnWalk
namespace Go.Proofs.Ytkkncijbedfdfaa
open Go.RowKit
set_option linter.unusedVariables false

theorem bool_hC (x : Bool) : (boolK x).size = 1 := rfl
theorem bool_hone (x : Bool) : allOne (boolK x) = true := by unfold allOne boolK; simp [Value.oneCell']
theorem PlAt.rearm {w W : World} {g gs : Nat} {pv : Value} {A A2 : Option Addr} {c c2 : Nat} {s s' : Ps} (h : PlAt w g gs pv A c s) (hc : Chg (fun x => x = g) w W) (hr : Go.Proofs.Ytkkncijbedfdfaa.row W g = some (PlS s' gs pv A2 c2)) (h1 : s'.sure = s.sure) (h2 : s'.pend = s.pend)
    (hk : SliceOf 1 boolK W A2 s'.keep) (hA : ∀ a, A2 = some a → a.block < W.heap.size ∧ a.block ≠ g ∧ a.block ≠ gs ∧ pv.ownBlock ≠ some a.block) (h4 : s'.Ok) (h5 : s'.keep.length ≤ 500000) : PlAt W g gs pv A2 c2 s' :=
  ⟨hr, by rw [h1]; exact fun i d hd => range_chg (h.sec i d hd) hc h.lt h.ne1, by rw [h1]; exact there_chg h.there hc h.lt h.ne1, by rw [h2]; exact h.pend.chg hc (fun k hk e => h.ne2 (by rw [hk]; exact congrArg some e)), hk, Nat.lt_of_lt_of_le h.lt hc.size, fun a ha => (hA a ha).1, h.ne1, h.ne2, h.ne3, fun a ha => (hA a ha).2, h4, by rw [h2]; exact h.few, h5, by rw [h1]; exact h.fews⟩
set_option maxRecDepth 100000 in
set_option maxHeartbeats 2000000 in
theorem arm_any (g gs : Nat) (pv : Value) (A : Option Addr) (c : Nat) (s : Ps) (ops : Int) (hops : i64ok ops) (B : Option Addr) (n d : Nat) (xs : List Bool) (hn : xs.length = n) (hm : n ≤ 500000) (w : World) (h : PlAt w g gs pv A c s) (hx : SliceOf 1 boolK w B xs) :
    Calls Try.prog 17 #[.pointer (some ⟨g, 0, none⟩), .int .i64 ops, .slice B n d] w fun e w' => e = .returned (.tuple #[]) ∧ PlTo w (PS g gs pv A) g (s.arm ops xs) w' := by
  have HI := Lib.hid (is_yes g gs pv A c s w h)
  have H := Lib.hid h
  have c5 : w.cell? ⟨g, 5, none⟩ = some (.bool s.down) := h.cells 5
  by_cases hd0 : s.down = true
  · have HV : Hid (s.arm ops xs = s) := Lib.hid (by unfold Ps.arm; rw [if_pos hd0])
    rw [hd0] at c5
    rw [HV.out]
    clear h hx hd0
    go_enter Try.func17, Try.ntmps17
    go_wp2_with fail
    refine (HI.out).mono ?_
    rintro e w1 ⟨rfl, rfl⟩
    go_wp2_with fail
    go_end0
    exact ⟨rfl, H.out.self⟩
  · have hd : s.down = false := by simpa using hd0
    have HV : Hid (s.arm ops xs = { s with armed := true, left := max ops 0, keep := xs }) := Lib.hid (by unfold Ps.arm; rw [if_neg hd0])
    rw [hd] at c5
    rw [HV.out]
    have HX := Lib.hid hx
    have HN := Lib.hid hn
    have hOk := Lib.hid h.ok
    have hlt := Lib.hid h.blocks
    clear h hx hd hd0 hn HV
    rcases Int.lt_trichotomy ops 0 with h0 | rfl | h0
    all_goals
      first
        | (have hmx : max (0 : Int) 0 = 0 := rfl; rw [hmx])
        | (have hmx : max ops 0 = 0 := (by omega); rw [hmx])
        | (have hmx : max ops 0 = ops := (by omega); rw [hmx])
      go_enter Try.func17, Try.ntmps17
      go_wp2_with fail
      refine (HI.out).mono ?_
      rintro e w1 ⟨rfl, rfl⟩
      go_wp2_with (at_builtin; refine wpList_append_a bools_under' bool_info rfl (by omega) (by omega) bool_hC bool_hone rfl _ _ rfl 0 (.slice none 0 0) [] xs B n d (OwnC.nil _ _) HX.out rfl rfl HN.out (by rw [HN.out, List.length_nil]; omega) (Nat.zero_le _) ?_; intro v' w2 hA; obtain ⟨A2, c2, rfl⟩ := hA.form (k := n) (by rw [HN.out, List.length_nil, Nat.zero_add]); have hch : Chg (fun _ => False) w w2 := hA.chg.mono (fun k hk => by cases hk); have k2 := (H.out.chg hch (fun _ _ h => h)).cells 2; have k3 := (H.out.chg hch (fun _ _ h => h)).cells 3; have k4 := (H.out.chg hch (fun _ _ h => h)).cells 4; have f2 := (H.out.chg hch (fun _ _ h => h)).free 2; have f3 := (H.out.chg hch (fun _ _ h => h)).free 3; have f4 := (H.out.chg hch (fun _ _ h => h)).free 4; have HA := Lib.hid hA; have HC := Lib.hid hch; clear hA hch)
      go_end0
      have h2 := H.out.chg HC.out (fun _ _ h => h)
      have hc3 : ∀ v1 v2, Chg (fun x => x = g) w2 (((w2.setCell ⟨g, 2, none⟩ (.bool true)).setCell ⟨g, 3, none⟩ v1).setCell ⟨g, 4, none⟩ v2) := fun v1 v2 => (((Chg.refl (fun x => x = g) w2).setCell (p := ⟨g, 2, none⟩) (.inl rfl) (.bool true)).setCell (p := ⟨g, 3, none⟩) (.inl rfl) v1).setCell (p := ⟨g, 4, none⟩) (.inl rfl) v2
      obtain ⟨A3, c3, hv3, hs3, hA3, _⟩ := HA.out.1.form bool_hC
      rw [List.nil_append] at hv3 hs3
      simp only [Value.slice.injEq] at hv3
      obtain ⟨e1, _, e3⟩ := hv3
      rw [← e1] at hs3
      have hblk : ∀ a, A2 = some a → a.block = w.heap.size := fun a ha => by
        have e2 : (Value.slice A2 n c2).ownBlock = some a.block := by rw [ha]; rfl
        rcases HA.out.2.2 with h3 | h3
        · have h4 : some a.block = none := e2.symm.trans h3
          cases h4
        · have h4 := e2.symm.trans h3
          rw [Option.some.injEq] at h4; exact h4
      have hfar : ∀ a, A2 = some a → a.block ≠ g ∧ a.block ≠ gs ∧ pv.ownBlock ≠ some a.block := fun a ha => by
        have h4 := hblk a ha
        refine ⟨fun e => ?_, fun e => ?_, fun e => ?_⟩
        · have := hlt.out g (.inl rfl); omega
        · have := hlt.out gs (.inr (.inl rfl)); omega
        · have := hlt.out _ (.inr (.inr (.inl e))); omega
      refine ⟨rfl, gs, pv, A2, c2, h2.rearm (hc3 _ _) ?_ rfl rfl (hs3.chg (hc3 _ _) (fun a ha => (hfar a ha).1)) (fun a ha => ⟨Nat.lt_of_lt_of_le (hA3 a (e1 ▸ ha)).2 (hc3 _ _).size, hfar a ha⟩) ⟨hOk.out.1, hOk.out.2.1, ?_⟩ (by show xs.length ≤ 500000; rw [HN.out]; exact hm), fun x hx => ?_, ?_⟩
      · rw [row_set (row_set (row_set h2.row 2 _) 3 _) 4 _]
        unfold PlS
        rw [HN.out]; rfl
      · first | exact hops | (show i64ok 0; unfold i64ok; omega)
      · rcases hx with hx | hx | hx | ⟨a, ha, hx⟩
        · exact .inl (.inl hx)
        · exact .inl (.inr (.inl hx))
        · exact .inl (.inr (.inr (.inl hx)))
        · exact .inr (by have := hblk a ha; omega)
      · exact (HC.out.mono (fun _ h => h.elim)).andThen (hc3 _ _) (fun k hk => .inl (.inl hk))
end Go.Proofs.Ytkkncijbedfdfaa
