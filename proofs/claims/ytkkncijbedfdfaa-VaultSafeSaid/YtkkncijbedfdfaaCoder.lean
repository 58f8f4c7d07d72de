/-
  What package coder's writer does.
-/
import Derived.Test.YtkkncijbedfdfaaCoderP
import Derived.Laws.BitsLemmas
import Derived.Laws.Bits64b
import Derived.IntWalk
import Derived.Outline
namespace Go.Proofs.Ytkkncijbedfdfaa
open Go.RowKit
set_option linter.unusedVariables false

namespace Cd
theorem and127_u64 (a : Nat) (ha : a < 18446744073709551616) : bits .and .u64 (a : Int) 127 = ((a % 128 : Nat) : Int) := by
  have h := bits_and_u64_nat a 127 ha (by omega)
  have e : a &&& 127 = a % 128 := Nat.and_two_pow_sub_one_eq_mod a 7
  rw [e] at h
  exact h
theorem and127_u8 (a : Nat) (ha : a < 256) : bits .and .u8 (a : Int) 127 = ((a % 128 : Nat) : Int) := by
  have h := (bits_nat .u8 8 (by decide) wraps_u8 a 127 (by omega) (by omega)).1
  have e : a &&& 127 = a % 128 := Nat.and_two_pow_sub_one_eq_mod a 7
  rw [e] at h
  exact h
theorem or128_u8 (a : Nat) (ha : a < 128) : bits .or .u8 (a : Int) 128 = ((a + 128 : Nat) : Int) := by
  have h := (bits_nat .u8 8 (by decide) wraps_u8 a 128 (by omega) (by omega)).2
  have e : a ||| 128 = a + 128 := by
    have := Nat.two_pow_add_eq_or_of_lt (i := 7) ha 1
    rw [Nat.or_comm, Nat.add_comm]
    exact this.symm
  rw [e] at h
  exact h
theorem or_u64 (a b i : Nat) (ha : a < 128 ^ i) (hs : a + b * 128 ^ i < 18446744073709551616) : bits .or .u64 (a : Int) ((b * 128 ^ i : Nat) : Int) = ((a + b * 128 ^ i : Nat) : Int) := by
  have h := bits_or_u64_nat a (b * 128 ^ i) (by omega) (by omega)
  have e7 : (128 : Nat) ^ i = 2 ^ (7 * i) := by rw [Nat.pow_mul]
  have e : a ||| b * 128 ^ i = a + b * 128 ^ i := by
    have := Nat.two_pow_add_eq_or_of_lt (i := 7 * i) (b := a) (by rw [← e7]; exact ha) b
    rw [Nat.or_comm, Nat.add_comm, e7, Nat.mul_comm b]
    exact this.symm
  rw [e] at h
  exact h
end Cd
/-- A call that answers bytes of its own. -/
def RetB (w : World) (l : List Nat) (e : Ending) (w' : World) : Prop := ∃ A c, e = .returned (.slice A l.length c) ∧ OwnB w' (.slice A l.length c) l ∧ (∀ a, A = some a → w.heap.size ≤ a.block) ∧ Below w.heap.size w w'
def owns (v : Value) : Nat → Prop := fun k => v.ownBlock = some k
theorem Appended.chg {X W' : World} {v v' : Value} {l m : List Nat} (h : Appended X v l m v' W') : Chg (owns v) X W' := (Chg.refl _ X).grown h.2.1 (fun k hk => .inl hk)
theorem wpList_app1 {X : World} {ops : Array Oper} {rest : List Oper} {o : Oper} {a : Act} {Q : Exit → Act → World → Prop} (hgd : o.guard = none) (s x : Operand)
    (ho : o.op = .call { callee := .builtin .append, args := #[s, x], argTypes := #[22, 22] })
    (v : Value) (ds : List Nat) (z : Int) (y : Nat) (hown : OwnB X v ds) (hs : a.eval s = v) (hx : a.eval x = .slice (some ⟨X.heap.size, 0, none⟩) 1 1)
    (hy : z = ((y : Nat) : Int)) (hlen : ds.length ≤ 1000000)
    (h : ∀ v' w', OwnB w' v' (ds ++ [y]) → Chg (owns v) X w' → (v'.ownBlock = v.ownBlock ∨ v'.ownBlock = some (X.heap.size + 1)) → wpList Try.prog ops Q rest (a.put o.dst v') w') : wpList Try.prog ops Q (o :: rest) a (X.alloc (.cells #[.int .u8 z] 5)) := by
  refine wpList_appb hgd s x ho v ds [y] _ 1 1 (hown.alloc _) (byte_new X z y hy) hs hx rfl (by simp; omega) fun v' w' hA => ?_
  refine h v' w' hA.1 ?_ (by have := hA.2.2; rwa [World.size_alloc] at this)
  exact ((Chg.refl _ X).alloc _).grown hA.2.1 (fun k hk => .inl hk)
theorem retB_of {w w' : World} {v : Value} {l : List Nat} {e : Ending} (he : e = .returned v) (h : OwnB w' v l) (hk : ∀ k, v.ownBlock = some k → w.heap.size ≤ k) (hb : Below w.heap.size w w') : RetB w l e w' := by
  obtain ⟨A, c, rfl, _, _, _, _, ha⟩ := h.form
  exact ⟨A, c, he, h, fun a e => hk _ (ha a e), hb⟩
set_option maxHeartbeats 1000000 in
theorem cform_any (n : Nat) (hn : n < 18446744073709551616) (w : World) : Calls Try.prog 41 #[.int .u64 n] w (RetB w (formN n)) := by
  have HL := Lib.hid (formN_len10 hn)
  go_enter Try.func41, Try.ntmps41
  go_wp2_with fail
  go_loopw [0, 3] (fun x v wr => ∃ (y : Nat) (ds : List Nat), y ≤ n ∧ x = .int .u64 y ∧ OwnB wr v ds ∧ Hid (∀ k, v.ownBlock = some k → w.heap.size ≤ k) ∧ Hid (formN n = ds ++ formN y) ∧ Below w.heap.size w wr) (fun x _ _ => (intOf x).toNat)
  case atStart => exact ⟨n, [], by omega, rfl, OwnB.nil _, Lib.hid (fun k hk => by cases hk), Lib.hid (by simp), Below.refl _ _⟩
  case round =>
    obtain ⟨y, ds, hy, rfl, hown, hk, hds, hB⟩ := hrel
    have hlen : ds.length ≤ 10 := by
      have h1 := congrArg List.length hds.out
      have h2 := HL.out
      simp at h1; omega
    have hlt := hB.size
    by_cases h0 : y < 128
    · have HF : Hid (formN n = ds ++ [y]) := Lib.hid (by rw [hds.out, formN_low h0])
      have h1 : ¬ (127 : Int) < (y : Int) := by omega
      have E1 : IntKind.u8.wrap (y : Int) = (y : Int) := by rw [IntKind.wrap_u8]; omega
      clear hds h0
      go_wp2_with (at_builtin; refine wpList_app1 rfl _ _ rfl _ ds _ y hown rfl rfl ?_ ?_ ?_; (focus (simp; done)); (focus omega); intro v' w' a1 a2 a3)
      go_ret
      refine retB_of (v := v') rfl (by rw [HF.out]; exact a1) (fun k e => ?_) ((hB.trans ((Chg.toBelow a2 (fun k e => hk.out k e) hlt))))
      rcases a3 with a3 | a3
      · exact hk.out k (a3 ▸ e)
      · rw [a3] at e; cases e; omega
    · have h1 : (127 : Int) < (y : Int) := by omega
      have HF : Hid (formN n = (ds ++ [y % 128 + 128]) ++ formN (y / 128)) := Lib.hid (by rw [hds.out, formN_high (by omega)]; simp)
      have A1 := Cd.and127_u64 y (by omega)
      have A2 := Cd.or128_u8 (y % 128) (by omega)
      have hz : y % 128 < 128 := by omega
      generalize y % 128 = z at *
      have E1 : IntKind.u8.wrap (z : Int) = (z : Int) := by rw [IntKind.wrap_u8]; omega
      clear hds
      go_wp2_with (at_builtin; refine wpList_app1 rfl _ _ rfl _ ds _ (z + 128) hown rfl rfl ?_ ?_ ?_; (focus (simp; done)); (focus omega); intro v' w' a1 a2 a3)
      refine ⟨⟨y / 128, ds ++ [z + 128], by omega, by go_num, a1, Lib.hid (fun k e => ?_), HF, hB.trans ((Chg.toBelow a2 (fun k e => hk.out k e) hlt))⟩, by simp [intOf]; omega⟩
      rcases a3 with a3 | a3
      · exact hk.out k (a3 ▸ e)
      · rw [a3] at e; cases e; omega
def unitE : Ending := .returned (.tuple #[])
/-- A writer in block g: its bytes, its failure; its bytes lie in block o. -/
def WtAt (W : World) (g : Nat) (o : Option Nat) (s : Wt) : Prop := ∃ v, v.ownBlock = o ∧ o ≠ some g ∧ row W g = some #[v, .int .i64 s.e] ∧ OwnB W v s.xs
def WS (g : Nat) (o : Option Nat) : Nat → Prop := fun k => k = g ∨ o = some k
def WtPost (w : World) (g : Nat) (o : Option Nat) (s : Wt) (e : Ending) (w' : World) : Prop := e = unitE ∧ ∃ o', WtAt w' g o' s ∧ (o' = o ∨ ∃ k, o' = some k ∧ w.heap.size ≤ k) ∧ Chg (WS g o) w w'
theorem WtAt.lt {W : World} {g : Nat} {o : Option Nat} {s : Wt} (h : WtAt W g o s) : g < W.heap.size ∧ ∀ k, o = some k → k < W.heap.size := by
  obtain ⟨v, rfl, _, hr, ho⟩ := h
  exact ⟨row_lt hr, ho.lt⟩
theorem WtAt.chg {W W' : World} {g : Nat} {o : Option Nat} {s : Wt} {S : Nat → Prop} (h : WtAt W g o s) (hc : Chg S W W') (hg : ¬ S g) (ho : ∀ k, o = some k → ¬ S k) : WtAt W' g o s := by
  obtain ⟨v, rfl, hne, hr, hown⟩ := h
  exact ⟨v, rfl, hne, (hc.row (row_lt hr) hg).trans hr, hown.chg hc ho⟩
theorem WtAt.stay {W W' : World} {g : Nat} {o : Option Nat} {s : Wt} (h : WtAt W g o s) (hb : Below W.heap.size W W') : WtAt W' g o s := h.chg (Chg.of_below (S := fun _ => False) hb (Nat.le_refl _)) (fun h => h) (fun _ _ h => h)
theorem WtPost.of_same {w : World} {g : Nat} {o : Option Nat} {s : Wt} (h : WtAt w g o s) : WtPost w g o s unitE w := ⟨rfl, o, h, .inl rfl, Chg.refl _ _⟩
theorem WtPost.before {w w1 w' : World} {g : Nat} {o : Option Nat} {s : Wt} {e : Ending} (hb : Below w.heap.size w w1) (h : WtPost w1 g o s e w') : WtPost w g o s e w' := by
  obtain ⟨he, o', h1, h2, h3⟩ := h
  refine ⟨he, o', h1, ?_, (Chg.of_below (S := WS g o) hb (Nat.le_refl _)).andThen h3 (fun k hk => .inl hk)⟩
  rcases h2 with h2 | ⟨k, h2, h4⟩
  · exact .inl h2
  · exact .inr ⟨k, h2, Nat.le_trans hb.size h4⟩
theorem WtAt.fresh (w : World) (t : TypeId) : WtAt (w.alloc (.cells #[.slice none 0 0, .int .i64 0] t)) w.heap.size none Wt.none := ⟨.slice none 0 0, rfl, by simp, row_at _ _ _ _ rfl, OwnB.nil _⟩
theorem fail_set (g : Nat) (er : Int) (w : World) (c1 : w.cell? ⟨g, 1, none⟩ = some (.int .i64 0)) (f1 : w.frozen? ⟨g, 1, none⟩ = false) :
    Calls Try.prog 49 #[.pointer (some ⟨g, 0, none⟩), .int .i64 er] w fun e w' => e = unitE ∧ w.setCell ⟨g, 1, none⟩ (.int .i64 er) = w' := by
  go_enter Try.func49, Try.ntmps49
  go_wp2_with fail
  go_end0
  exact ⟨rfl, rfl⟩
theorem fail_keep (g : Nat) (e er : Int) (he : e ≠ 0) (w : World) (c1 : w.cell? ⟨g, 1, none⟩ = some (.int .i64 e)) :
    Calls Try.prog 49 #[.pointer (some ⟨g, 0, none⟩), .int .i64 er] w fun e w' => e = unitE ∧ w = w' := by
  have h1 : (e == 0) = false := beq_eq_false_iff_ne.2 he
  clear he
  go_enter Try.func49, Try.ntmps49
  go_wp2_with fail
  go_end0
  exact ⟨rfl, rfl⟩
theorem good_yes (g : Nat) (w : World) (c1 : w.cell? ⟨g, 1, none⟩ = some (.int .i64 0)) : Calls Try.prog 39 #[.pointer (some ⟨g, 0, none⟩)] w fun e w' => e = .returned (.bool true) ∧ w = w' := by
  go_enter Try.func39, Try.ntmps39
  go_wp2_with fail
  go_ret
  exact ⟨rfl, rfl⟩
theorem good_no (g : Nat) (e : Int) (he : e ≠ 0) (w : World) (c1 : w.cell? ⟨g, 1, none⟩ = some (.int .i64 e)) : Calls Try.prog 39 #[.pointer (some ⟨g, 0, none⟩)] w fun e w' => e = .returned (.bool false) ∧ w = w' := by
  have h1 : (e == 0) = false := beq_eq_false_iff_ne.2 he
  clear he
  go_enter Try.func39, Try.ntmps39
  go_wp2_with fail
  go_ret
  exact ⟨rfl, rfl⟩
set_option maxHeartbeats 1000000 in
theorem wput_any (g : Nat) (o : Option Nat) (s : Wt) (hs : s.Ok) (h0 : s.e = 0) (A : Option Addr) (n c : Nat) (b : List Nat) (hn : b.length = n) (hlen : n ≤ 1000000000) (w : World) (hW : WtAt w g o s) (hb : Bys w A b) :
    Calls Try.prog 40 #[.pointer (some ⟨g, 0, none⟩), .slice A n c] w (WtPost w g o (s.put b)) := by
  obtain ⟨v, rfl, hne, hr, hown⟩ := hW
  obtain ⟨A0, c0, rfl, _, _, _, _, _⟩ := hown.form
  have hxl := hs.len
  have c0' := row_cell hr 0
  have c1' := row_cell hr 1
  rw [h0] at c1'
  have f1 := row_frozen hr 1
  have HR := Lib.hid hr
  have HO := Lib.hid hown
  have HB := Lib.hid hb
  have HN := Lib.hid hn
  have hne' := Lib.hid hne
  by_cases hbig : 131072 < s.xs.length + n
  · have HV : Hid (s.put b = ⟨s.xs, 3⟩) := Lib.hid (Wt.put_big h0 (by rw [hn]; exact hbig))
    generalize s.xs.length = m at *
    have hb' : (131072 : Int) < (m : Int) + (n : Int) := by omega
    clear hr hown hb hn h0 hne hbig
    go_enter Try.func40, Try.ntmps40
    go_wp2_with fail
    refine (fail_set g 3 _ c1' f1).mono ?_
    rintro e w1 ⟨rfl, rfl⟩
    go_wp2_with fail
    refine bodyPost_ret (results_none rfl _ _ _) rfl ?_
    refine ⟨rfl, _, ?_, .inl rfl, (Chg.refl _ _).setCell (.inl (.inl rfl)) _⟩
    rw [HV.out]
    exact ⟨_, rfl, hne'.out, row_set HR.out 1 _, HO.out.chg ((Chg.refl (fun k => k = g) _).setCell (.inl rfl) _) (fun k hk e => hne'.out (by rw [hk, e]))⟩
  · have HV : Hid (s.put b = ⟨s.xs ++ b, 0⟩) := Lib.hid (Wt.put_fit h0 (by rw [hn]; omega))
    generalize hm : s.xs.length = m at *
    have hm' := Lib.hid hm
    have h0' := Lib.hid h0
    have hb' : ¬ (131072 : Int) < (m : Int) + (n : Int) := by omega
    clear hr hown hb hn h0 hne f1 hm c1' hbig
    go_enter Try.func40, Try.ntmps40
    go_wp2_with (at_builtin; refine wpList_appb rfl _ _ rfl _ s.xs b A n c HO.out HB.out rfl rfl HN.out (by rw [HN.out, hm'.out]; omega) ?_; intro v' w' hA; obtain ⟨A', c', rfl⟩ := hA.form; have hch := hA.chg; have hr1 := (hch.row (row_lt HR.out) hne'.out).trans HR.out; have k0 := row_cell hr1 0; have f0 := row_frozen hr1 0; have HA := Lib.hid hA; have HR1 := Lib.hid hr1; have HC := Lib.hid hch; clear hA hch hr1 c0')
    go_end0
    refine ⟨rfl, (Value.slice A' (s.xs.length + b.length) c').ownBlock, ?_, ?_, HC.out.mono (fun k hk => .inr hk) |>.setCell (.inl (.inl rfl)) _⟩
    · rw [HV.out]
      have hne2 : (Value.slice A' (s.xs.length + b.length) c').ownBlock ≠ some g := by
        rcases HA.out.2.2 with h | h
        · rw [h]; exact hne'.out
        · rw [h]; intro e; cases e; have := row_lt HR.out; omega
      refine ⟨_, rfl, hne2, ?_, HA.out.1.chg ((Chg.refl (fun k => k = g) _).setCell (.inl rfl) _) (fun k hk e => hne2 (by rw [hk, e]))⟩
      rw [row_set HR1.out 0 _, h0'.out]; rfl
    · rcases HA.out.2.2 with h | h
      · exact .inl h
      · exact .inr ⟨_, h, Nat.le_refl _⟩
end Go.Proofs.Ytkkncijbedfdfaa
