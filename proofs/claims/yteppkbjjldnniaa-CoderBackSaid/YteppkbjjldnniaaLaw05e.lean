/-
  Layer 5: of any bytes, asked for anything in any order, the document's numbers and bytes are told, up to the first failure, at its place.
-/
import Derived.Test.YteppkbjjldnniaaLaw05b
import Derived.Deep.RegionHeld3
namespace Go.Proofs.Yteppkbjjldnniaa
open Go.RowKit
set_option linter.unusedVariables false

def two (g1 g2 : Nat) : Nat → Prop := fun k => k = g1 ∨ k = g2
theorem two_l {g1 g2 : Nat} {V X W : World} (h' : Chg (only g1) X W) (h : Chg (two g1 g2) V X) : Chg (two g1 g2) V W := h.andThen h' (fun k hk => .inl (.inl hk))
theorem two_r {g1 g2 : Nat} {V X W : World} (h' : Chg (only g2) X W) (h : Chg (two g1 g2) V X) : Chg (two g1 g2) V W := h.andThen h' (fun k hk => .inl (.inr hk))
theorem OwnB.keepOne {X W : World} {A : Option Addr} {n c g Y : Nat} {l : List Nat} (hO : OwnB X (.slice A n c) l) (hQ : ∀ a, A = some a → Y ≤ a.block) (hY : g < Y) (h : Chg (only g) X W) : OwnB W (.slice A n c) l := hO.chg h (fun k hk e => by
  cases A with
  | none => cases hk
  | some a => cases hk; have := hQ a rfl; unfold only at e; omega)
theorem one_of {g : Nat} {V X W : World} (h' : Chg (only g) X W) (h : Chg (only g) V X) : Chg (only g) V W := h.andThen h' (fun k hk => .inl hk)
theorem bneI (x : Int) : (x != x) = false := by simp
set_option maxRecDepth 100000 in
set_option maxHeartbeats 4000000 in
theorem coderReads_any (A : Option Addr) (n c : Nat) (xs : List Nat) (A0 : Option Addr) (n0 c0 : Nat) (ops : List Op5) (hn : xs.length = n) (hn0 : ops.length = n0) (hm0 : n0 ≤ 9223372036854775807) (w : World) (hIn : BysIn w A c xs) (hok : ∀ x ∈ ops, Op5.Ok w x) (hU : SliceOf 4 Op5.cells w A0 ops) :
    Calls Try.prog 5 #[.slice A n c, .slice A0 n0 c0] w fun e w' => e = .returned (.bool true) ∧ Below w.heap.size w w' := by
  have HB := Lib.hid hIn
  have HN := Lib.hid hn
  have HN0 := Lib.hid hn0
  have HU := Lib.hid hU
  have HOk := Lib.hid hok
  have HFew := Lib.hid (fun W h => few05_any A0 n0 c0 ops hn0 hm0 (fun x hx => Nat.le_trans (hok x hx).b.cap (hok x hx).b.top) W h)
  by_cases hbig : (3000 : Int) < (n : Int)
  · clear hn hn0 hU hok hIn
    go_enter Try.func5, Try.ntmps5
    go_wp2_with fail
    refine (awake05_any _).mono ?_
    rintro e w1 ⟨rfl, hb1⟩
    go_wp2_with fail
    go_ret
    exact ⟨rfl, hb1⟩
  · have HO := Lib.hid (fun W (h : Bys W A xs) => ropen_any A n c xs hn (by omega) W h)
    clear hn hn0 hU hok hIn
    go_enter Try.func5, Try.ntmps5
    go_wp2_with fail
    refine (awake05_any _).mono ?_
    rintro e w1 ⟨rfl, hb1⟩
    go_wp2_with fail
    refine (HFew.out _ (HU.out.below hb1 (Nat.le_refl _))).mono ?_
    rintro e w2 ⟨⟨rfl, hf⟩ | ⟨rfl, hf⟩, hb2⟩
    · have HF := Lib.hid hf
      have hB2 := Below.then hb1 hb2
      clear hf hb1 hb2 HFew
      go_wp2_with fail
      refine (HO.out _ (HB.out.bys.below hB2 (Nat.le_refl _))).mono ?_
      rintro e w3 ⟨g, A3, c3, rfl, hg, hA3, hR, hb3⟩
      have hB3 := Below.then hB2 hb3
      have hgw : w.heap.size ≤ g := Nat.le_trans hB2.size hg
      go_wp2_with (refine wpList_build_to #[.slice A n c, .int .i64 0, .int .i64 0] rfl 55 _ rfl (by kernel_rfl) ?_)
      have hg3 := hR.lt
      have hB4 : Below w.heap.size w (w3.alloc (.cells #[.slice A n c, .int .i64 0, .int .i64 0] 55)) := hB3.alloc hB3.size _
      have R4 := Lib.hid (hR.stay ((Below.refl _ w3).alloc (Nat.le_refl _) (.cells #[.slice A n c, .int .i64 0, .int .i64 0] 55)))
      have F4 : Hid (RfAt (w3.alloc (.cells #[.slice A n c, .int .i64 0, .int .i64 0] 55)) w3.heap.size A c ⟨xs, 0, 0⟩) := Lib.hid ⟨(row_at _ _ _ _ rfl).trans (by show some #[Value.slice A n c, Value.int IntKind.i64 0, Value.int IntKind.i64 0] = some #[Value.slice A xs.length c, Value.int IntKind.i64 0, Value.int IntKind.i64 0]; rw [HN.out]), HB.out.bys.below hB4 (Nat.le_refl _), HB.out.cap, HB.out.top, fun hp a ha => by have := HB.out.bys.lt hp a ha; have := hB3.size; omega, HB.out.nil⟩
      have HA3 : Hid (∀ a, A3 = some a → a.block ≠ w3.heap.size) := Lib.hid fun a ha => by have := (hA3 a ha).2; omega
      have HA : Hid (0 < xs.length → ∀ a, A = some a → a.block ≠ g) := Lib.hid fun hp a ha => by have := HB.out.bys.lt hp a ha; omega
      have HB4 := Lib.hid hB4
      have hne : g ≠ w3.heap.size := by omega
      have hf4 : w.heap.size ≤ w3.heap.size := hB3.size
      generalize w3.alloc (.cells #[.slice A n c, .int .i64 0, .int .i64 0] 55) = V4 at *
      generalize w3.heap.size = f at *
      clear hA3 hR hb3 hB3 hB4 hg3 hB2 hg HO
      go_wp2_with fail
      -- LOOP
      go_loopw [26] (fun i wr => ∃ (j : Nat) (s : Rd), i = .int .i64 j ∧ j ≤ n0 ∧ Hid s.Ok ∧ Hid (s.xs = xs) ∧ Hid (RdAt wr g A3 c3 s) ∧ Hid (RfAt wr f A c s) ∧ Hid (Below w.heap.size w wr)) (fun i _ => n0 - (intOf i).toNat)
      case atStart => exact ⟨0, ⟨xs, 0, 0⟩, rfl, by omega, Lib.hid ⟨HB.out.ok, by simp, by show xs.length ≤ _; rw [HN.out]; omega, by simp, by simp⟩, Lib.hid rfl, R4, F4, HB4⟩
      case round =>
        clear R4 F4 HB4
        obtain ⟨j, s, rfl, hj, hok, hXs, hRd, hRf, hBw⟩ := hrel
        by_cases hlt : j < n0
        · obtain ⟨b, off, rfl, hbb, hcell⟩ := HU.out (by rw [HN0.out]; omega)
          obtain ⟨o, hxj⟩ : ∃ o, ops[j]? = some o := ⟨_, List.getElem?_eq_getElem (by rw [HN0.out]; omega)⟩
          have hmem := List.mem_of_getElem? hxj
          have HO := Lib.hid (HOk.out o hmem)
          obtain ⟨k0, k1, k2, k3⟩ := op5_cells (range_below (hcell j _ hxj) hBw.out hbb)
          have z1 : (0 : Int) ≤ (j : Int) := by omega
          have z2 : (j : Int) < (n0 : Int) := by omega
          have hsl : s.xs.length ≤ 1000000000 := by rw [hXs.out, HN.out]; omega
          have HA' : Hid (0 < s.xs.length → ∀ a, A = some a → a.block ≠ g) := Lib.hid (by rw [hXs.out]; exact HA.out)
          have VRd : Hid (RdAt (wr.alloc (.cells #[.int .i64 o.kind, .int .i64 o.i, .int .u64 o.n, .slice o.A o.b.length o.c] 47)) g A3 c3 s) := Lib.hid (hRd.out.stay ((Below.refl _ wr).alloc (Nat.le_refl _) _))
          have VRf : Hid (RfAt (wr.alloc (.cells #[.int .i64 o.kind, .int .i64 o.i, .int .u64 o.n, .slice o.A o.b.length o.c] 47)) f A c s) := Lib.hid (hRf.out.stay ((Below.refl _ wr).alloc (Nat.le_refl _) _))
          have VB : Hid (Below w.heap.size w (wr.alloc (.cells #[.int .i64 o.kind, .int .i64 o.i, .int .u64 o.n, .slice o.A o.b.length o.c] 47))) := Lib.hid (hBw.out.alloc hBw.out.size _)
          have VR : Hid (row (wr.alloc (.cells #[.int .i64 o.kind, .int .i64 o.i, .int .u64 o.n, .slice o.A o.b.length o.c] 47)) wr.heap.size = some #[.int .i64 o.kind, .int .i64 o.i, .int .u64 o.n, .slice o.A o.b.length o.c]) := Lib.hid (row_at _ _ _ _ rfl)
          have hgOl : wr.heap.size < (wr.alloc (.cells #[.int .i64 o.kind, .int .i64 o.i, .int .u64 o.n, .slice o.A o.b.length o.c] 47)).heap.size := by simp
          have hgO2 : ¬ two g f wr.heap.size := by
            have h1 := hRd.out.lt
            have h2 := hRf.out.lt
            rintro (e | e) <;> omega
          have hRg : g < wr.heap.size ∧ f < wr.heap.size := ⟨hRd.out.lt, hRf.out.lt⟩
          have hgV : g < (wr.alloc (.cells #[.int .i64 o.kind, .int .i64 o.i, .int .u64 o.n, .slice o.A o.b.length o.c] 47)).heap.size ∧ f < (wr.alloc (.cells #[.int .i64 o.kind, .int .i64 o.i, .int .u64 o.n, .slice o.A o.b.length o.c] 47)).heap.size := by simp; omega
          have hkind : (o.kind = 1) ∨ (o.kind = 2) ∨ (o.kind = 3) ∨ (o.kind = 4) ∨ (o.kind ≠ 1 ∧ o.kind ≠ 2 ∧ o.kind ≠ 3 ∧ o.kind ≠ 4) := by omega
          clear hcell hxj hmem hRd hRf hBw HB
          rcases hkind with hk | hk | hk | hk | hk
          · have q1 : (o.kind == 1) = true := by rw [hk]; rfl
            have HNa := Lib.hid (fun X (h : RdAt X g A3 c3 s) => rnum_any g A3 c3 s hok.out o.n HO.out.n X h)
            have HNb := Lib.hid (fun X (h : RfAt X f A c s) => fnum_any f A c s hok.out o.n HO.out.n X h)
            have HO2 := Lib.hid (hok.out.num o.n)
            have HX2 := Lib.hid ((s.num_xs o.n).trans hXs.out)
            have HA2' : Hid (0 < (s.num o.n).2.xs.length → ∀ a, A = some a → a.block ≠ g) := Lib.hid (by rw [HX2.out]; exact HA.out)
            generalize (s.num o.n).1 = v at *
            generalize (s.num o.n).2 = s2 at *
            have b0 := bneI (v : Int)
            clear hk
            go_wp2_with fail
            generalize (wr.alloc (.cells #[.int .i64 o.kind, .int .i64 o.i, .int .u64 o.n, .slice o.A o.b.length o.c] 47)) = V at *
            generalize wr.heap.size = gO at *
            have HK : Hid (∀ W, Chg (two g f) V W → W.cell? ⟨gO, 2, none⟩ = some (.int .u64 (o.n : Int))) := Lib.hid fun W h => (h.cell hgOl hgO2 2).trans (row_cell VR.out 2)
            have HR1 : Hid (∀ X, Chg (only f) V X → RdAt X g A3 c3 s) := Lib.hid fun X h => VRd.out.chg' h hne (fun _ => HA3.out)
            have HF1 : Hid (∀ X, Chg (only g) V X → RfAt X f A c s) := Lib.hid fun X h => VRf.out.chg' h (fun e => hne e.symm) HA'.out
            go_region_held3 (fun w' => w'.cell? ⟨gO, 2, none⟩ = some (.int .u64 (o.n : Int))) (exact HK.out _ (by first | assumption | exact (Chg.refl _ _).drew | fail)) (first | (go_at_call 17; refine (HNa.out _ (HR1.out _ (by first | assumption | exact (Chg.refl _ _).drew | fail))).mono ?_; rintro e wa ⟨rfl, hRa, hca⟩; have kca : Chg (two g f) V wa := two_l hca (by first | assumption | exact (Chg.refl _ _).drew | fail); (try (have k1a : Chg (only g) V wa := one_of hca (by first | assumption | exact (Chg.refl _ _).drew | fail))); (try (have Fa := hRb.chg' hca (fun e => hne e.symm) HA2'.out))) | (go_at_call 31; refine (HNb.out _ (HF1.out _ (by first | assumption | exact (Chg.refl _ _).drew | fail))).mono ?_; rintro e wb ⟨rfl, hRb, hcb⟩; have kcb : Chg (two g f) V wb := two_r hcb (by first | assumption | exact (Chg.refl _ _).drew | fail); (try (have k1b : Chg (only f) V wb := one_of hcb (by first | assumption | exact (Chg.refl _ _).drew | fail))); (try (have Fb := hRa.chg' hcb hne (fun _ => HA3.out)))))
            all_goals first
              | (have T1 := Lib.hid Fb; have T2 := Lib.hid hRb; have TC := Lib.hid kcb; clear Fb hRb kcb)
              | (have T1 := Lib.hid hRa; have T2 := Lib.hid Fa; have TC := Lib.hid kca; clear Fa hRa kca)
              | fail
            all_goals (try clear k1a) <;> (try clear k1b) <;> (try clear hca) <;> (try clear hcb) <;> (try clear kca) <;> (try clear kcb)
            all_goals clear HK HR1 HF1
            all_goals
              go_wp2_with fail
              have m1 := (T2.out).cells 1
              have m2 := (T2.out).cells 2
              change _ = some (Value.int IntKind.i64 (s2.at_ : Int)) at m1
              change _ = some (Value.int IntKind.i64 s2.e) at m2
              have b1 := bneI (s2.at_ : Int)
              have b2 := bneI s2.e
              have b3 := bneI s2.done
              go_quiet ((first | (go_at_call 16; exact Calls.quiet_of_same (flip_same (rat_any g A3 c3 s2 _ (T1.out.drewN _)))) | (go_at_call 18; exact Calls.quiet_of_same (flip_same (rerr_any g A3 c3 s2 _ (T1.out.drewN _)))) | (go_at_call 22; exact Calls.quiet_of (rdone_quiet g A3 c3 s2 HO2.out _ (T1.out.drewN _))) | (go_at_call 37; exact Calls.quiet_of (fdone_quiet f A c s2 HO2.out _ (T2.out.drewN _)))))
              have TB := Lib.hid (VB.out.trans ((TC.out.toBelow (B := w.heap.size) (fun k hk => by rcases hk with rfl | rfl; exact hgw; exact hf4) VB.out.size)))
              clear m1 m2 b1 b2 b3
              go_wp2_with fail
              exact ⟨⟨j + 1, s2, by go_num, by omega, HO2, HX2, Lib.hid (T1.out.drewN _), Lib.hid (T2.out.drewN _), Lib.hid (below_drewN TB.out _)⟩, by simp [intOf]; omega⟩
          · have q1 : (o.kind == 1) = false := by rw [hk]; rfl
            have q2 : (o.kind == 2) = true := by rw [hk]; rfl
            have HNa := Lib.hid (fun X (h : RdAt X g A3 c3 s) => rint_any g A3 c3 s hok.out o.i HO.out.i X h)
            have HNb := Lib.hid (fun X (h : RfAt X f A c s) => fint_any f A c s hok.out o.i HO.out.i X h)
            have HO2 := Lib.hid (hok.out.int o.i)
            have HX2 := Lib.hid ((s.int_xs o.i).trans hXs.out)
            have HA2' : Hid (0 < (s.int o.i).2.xs.length → ∀ a, A = some a → a.block ≠ g) := Lib.hid (by rw [HX2.out]; exact HA.out)
            generalize (s.int o.i).1 = v at *
            generalize (s.int o.i).2 = s2 at *
            have b0 := bneI (v : Int)
            clear hk
            go_wp2_with fail
            generalize (wr.alloc (.cells #[.int .i64 o.kind, .int .i64 o.i, .int .u64 o.n, .slice o.A o.b.length o.c] 47)) = V at *
            generalize wr.heap.size = gO at *
            have HK : Hid (∀ W, Chg (two g f) V W → W.cell? ⟨gO, 1, none⟩ = some (.int .i64 o.i)) := Lib.hid fun W h => (h.cell hgOl hgO2 1).trans (row_cell VR.out 1)
            have HR1 : Hid (∀ X, Chg (only f) V X → RdAt X g A3 c3 s) := Lib.hid fun X h => VRd.out.chg' h hne (fun _ => HA3.out)
            have HF1 : Hid (∀ X, Chg (only g) V X → RfAt X f A c s) := Lib.hid fun X h => VRf.out.chg' h (fun e => hne e.symm) HA'.out
            go_region_held3 (fun w' => w'.cell? ⟨gO, 1, none⟩ = some (.int .i64 o.i)) (exact HK.out _ (by first | assumption | exact (Chg.refl _ _).drew | fail)) (first | (go_at_call 32; refine (HNa.out _ (HR1.out _ (by first | assumption | exact (Chg.refl _ _).drew | fail))).mono ?_; rintro e wa ⟨rfl, hRa, hca⟩; have kca : Chg (two g f) V wa := two_l hca (by first | assumption | exact (Chg.refl _ _).drew | fail); (try (have k1a : Chg (only g) V wa := one_of hca (by first | assumption | exact (Chg.refl _ _).drew | fail))); (try (have Fa := hRb.chg' hca (fun e => hne e.symm) HA2'.out))) | (go_at_call 33; refine (HNb.out _ (HF1.out _ (by first | assumption | exact (Chg.refl _ _).drew | fail))).mono ?_; rintro e wb ⟨rfl, hRb, hcb⟩; have kcb : Chg (two g f) V wb := two_r hcb (by first | assumption | exact (Chg.refl _ _).drew | fail); (try (have k1b : Chg (only f) V wb := one_of hcb (by first | assumption | exact (Chg.refl _ _).drew | fail))); (try (have Fb := hRa.chg' hcb hne (fun _ => HA3.out)))))
            all_goals first
              | (have T1 := Lib.hid Fb; have T2 := Lib.hid hRb; have TC := Lib.hid kcb; clear Fb hRb kcb)
              | (have T1 := Lib.hid hRa; have T2 := Lib.hid Fa; have TC := Lib.hid kca; clear Fa hRa kca)
              | fail
            all_goals (try clear k1a) <;> (try clear k1b) <;> (try clear hca) <;> (try clear hcb) <;> (try clear kca) <;> (try clear kcb)
            all_goals clear HK HR1 HF1
            all_goals
              go_wp2_with fail
              have m1 := (T2.out).cells 1
              have m2 := (T2.out).cells 2
              change _ = some (Value.int IntKind.i64 (s2.at_ : Int)) at m1
              change _ = some (Value.int IntKind.i64 s2.e) at m2
              have b1 := bneI (s2.at_ : Int)
              have b2 := bneI s2.e
              have b3 := bneI s2.done
              go_quiet ((first | (go_at_call 16; exact Calls.quiet_of_same (flip_same (rat_any g A3 c3 s2 _ (T1.out.drewN _)))) | (go_at_call 18; exact Calls.quiet_of_same (flip_same (rerr_any g A3 c3 s2 _ (T1.out.drewN _)))) | (go_at_call 22; exact Calls.quiet_of (rdone_quiet g A3 c3 s2 HO2.out _ (T1.out.drewN _))) | (go_at_call 37; exact Calls.quiet_of (fdone_quiet f A c s2 HO2.out _ (T2.out.drewN _)))))
              have TB := Lib.hid (VB.out.trans ((TC.out.toBelow (B := w.heap.size) (fun k hk => by rcases hk with rfl | rfl; exact hgw; exact hf4) VB.out.size)))
              clear m1 m2 b1 b2 b3
              go_wp2_with fail
              exact ⟨⟨j + 1, s2, by go_num, by omega, HO2, HX2, Lib.hid (T1.out.drewN _), Lib.hid (T2.out.drewN _), Lib.hid (below_drewN TB.out _)⟩, by simp [intOf]; omega⟩
          · have q1 : (o.kind == 1) = false := by rw [hk]; rfl
            have q2 : (o.kind == 2) = false := by rw [hk]; rfl
            have q3 : (o.kind == 3) = true := by rw [hk]; rfl
            have HNa := Lib.hid (fun X (h : RdAt X g A3 c3 s) => rflag_any g A3 c3 s hok.out X h)
            have HNb := Lib.hid (fun X (h : RfAt X f A c s) => fnum_any f A c s hok.out 1 (by omega) X h)
            have HO2 := Lib.hid (hok.out.num 1)
            have HX2 := Lib.hid ((s.num_xs 1).trans hXs.out)
            have HA2' : Hid (0 < (s.num 1).2.xs.length → ∀ a, A = some a → a.block ≠ g) := Lib.hid (by rw [HX2.out]; exact HA.out)
            generalize (s.num 1).1 = v at *
            generalize (s.num 1).2 = s2 at *
            obtain ⟨bv, i1, i2⟩ : ∃ bv, isOne v = bv ∧ ((v : Int) == 1) = bv := by
              by_cases h : v = 1
              · subst h; exact ⟨true, rfl, rfl⟩
              · exact ⟨false, by simp [isOne, h], beq_eq_false_iff_ne.2 (by omega)⟩
            rw [i1] at HNa
            clear hk
            go_wp2_with fail
            generalize (wr.alloc (.cells #[.int .i64 o.kind, .int .i64 o.i, .int .u64 o.n, .slice o.A o.b.length o.c] 47)) = V at *
            generalize wr.heap.size = gO at *
            refine (HNa.out _ VRd.out).mono ?_
            rintro e wa ⟨rfl, hRa, hca⟩
            have R1 := Lib.hid hRa
            have F1 := Lib.hid (VRf.out.chg' hca (fun e => hne e.symm) HA'.out)
            have C1 := Lib.hid (two_l (g2 := f) hca (Chg.refl _ _))
            clear hRa hca
            go_wp2_with fail
            refine (HNb.out _ F1.out).mono ?_
            rintro e wb ⟨rfl, hRb, hcb⟩
            have T1 := Lib.hid (R1.out.chg' hcb hne (fun _ => HA3.out))
            have T2 := Lib.hid hRb
            have TC := Lib.hid (two_r hcb C1.out)
            clear hRb hcb R1 F1 C1
            all_goals
              go_wp2_with fail
              have m1 := (T2.out).cells 1
              have m2 := (T2.out).cells 2
              change _ = some (Value.int IntKind.i64 (s2.at_ : Int)) at m1
              change _ = some (Value.int IntKind.i64 s2.e) at m2
              have b1 := bneI (s2.at_ : Int)
              have b2 := bneI s2.e
              have b3 := bneI s2.done
              go_quiet ((first | (go_at_call 16; exact Calls.quiet_of_same (flip_same (rat_any g A3 c3 s2 _ (T1.out.drewN _)))) | (go_at_call 18; exact Calls.quiet_of_same (flip_same (rerr_any g A3 c3 s2 _ (T1.out.drewN _)))) | (go_at_call 22; exact Calls.quiet_of (rdone_quiet g A3 c3 s2 HO2.out _ (T1.out.drewN _))) | (go_at_call 37; exact Calls.quiet_of (fdone_quiet f A c s2 HO2.out _ (T2.out.drewN _)))))
              have TB := Lib.hid (VB.out.trans ((TC.out.toBelow (B := w.heap.size) (fun k hk => by rcases hk with rfl | rfl; exact hgw; exact hf4) VB.out.size)))
              clear m1 m2 b1 b2 b3
              go_wp2_with fail
              exact ⟨⟨j + 1, s2, by go_num, by omega, HO2, HX2, Lib.hid (T1.out.drewN _), Lib.hid (T2.out.drewN _), Lib.hid (below_drewN TB.out _)⟩, by simp [intOf]; omega⟩
          · have q1 : (o.kind == 1) = false := by rw [hk]; rfl
            have q2 : (o.kind == 2) = false := by rw [hk]; rfl
            have q3 : (o.kind == 3) = false := by rw [hk]; rfl
            have q4 : (o.kind == 4) = true := by rw [hk]; rfl
            have HNa := Lib.hid (fun X (h : RdAt X g A3 c3 s) => rraw_any g A3 c3 s hok.out hsl o.i HO.out.i X h)
            have HNb := Lib.hid (fun X (h : RfAt X f A c s) => fraw_any f A c s hok.out hsl o.i HO.out.i X h)
            have HO2 := Lib.hid (hok.out.raw o.i)
            have HX2 := Lib.hid ((s.raw_xs o.i).trans hXs.out)
            have HA2' : Hid (0 < (s.raw o.i).2.xs.length → ∀ a, A = some a → a.block ≠ g) := Lib.hid (by rw [HX2.out]; exact HA.out)
            generalize (s.raw o.i).1 = l at *
            generalize (s.raw o.i).2 = s2 at *
            have HSm : Hid (∀ (X : World) (A1 A2 : Option Addr) (c1 c2 : Nat), OwnB X (.slice A1 l.length c1) l → OwnB X (.slice A2 l.length c2) l → Calls Try.prog 21 #[.slice A1 l.length c1, .slice A2 l.length c2] X fun e W' => e = .returned (.bool true) ∧ Below X.heap.size X W') := Lib.hid fun X A1 A2 c1 c2 h1 h2 => by
              obtain ⟨B1, d1, e1, y1, z1, _⟩ := h1.form
              obtain ⟨B2, d2, e2, y2, _⟩ := h2.form
              simp only [Value.slice.injEq, true_and] at e1 e2
              obtain ⟨rfl, rfl⟩ := e1
              obtain ⟨rfl, rfl⟩ := e2
              have := same5_any A1 A2 l l l.length c1 l.length c2 rfl rfl z1 z1 X y1 y2
              rwa [show sameL l l = true by simp [sameL]] at this
            clear hk
            go_wp2_with fail
            generalize (wr.alloc (.cells #[.int .i64 o.kind, .int .i64 o.i, .int .u64 o.n, .slice o.A o.b.length o.c] 47)) = V at *
            generalize wr.heap.size = gO at *
            have HK : Hid (∀ W, Chg (two g f) V W → W.cell? ⟨gO, 1, none⟩ = some (.int .i64 o.i)) := Lib.hid fun W h => (h.cell hgOl hgO2 1).trans (row_cell VR.out 1)
            have HR1 : Hid (∀ X, Chg (only f) V X → RdAt X g A3 c3 s) := Lib.hid fun X h => VRd.out.chg' h hne (fun _ => HA3.out)
            have HF1 : Hid (∀ X, Chg (only g) V X → RfAt X f A c s) := Lib.hid fun X h => VRf.out.chg' h (fun e => hne e.symm) HA'.out
            go_region_held3 (fun w' => w'.cell? ⟨gO, 1, none⟩ = some (.int .i64 o.i)) (exact HK.out _ (by first | assumption | exact (Chg.refl _ _).drew | fail)) (first | (go_at_call 35; refine (HNa.out _ (HR1.out _ (by first | assumption | exact (Chg.refl _ _).drew | fail))).mono ?_; rintro e wa ⟨Aa, ca, rfl, hOa, hQa, hRa, hca⟩; (try (have Ob := hOb.keepOne hQb hgV.1 hca)); have kca : Chg (two g f) V wa := two_l hca (by first | assumption | exact (Chg.refl _ _).drew | fail); (try (have k1a : Chg (only g) V wa := one_of hca (by first | assumption | exact (Chg.refl _ _).drew | fail))); (try (have Fa := hRb.chg' hca (fun e => hne e.symm) HA2'.out))) | (go_at_call 36; refine (HNb.out _ (HF1.out _ (by first | assumption | exact (Chg.refl _ _).drew | fail))).mono ?_; rintro e wb ⟨Ab, cb, rfl, hOb, hQb, hRb, hcb⟩; (try (have Oa := hOa.keepOne hQa hgV.2 hcb)); have kcb : Chg (two g f) V wb := two_r hcb (by first | assumption | exact (Chg.refl _ _).drew | fail); (try (have k1b : Chg (only f) V wb := one_of hcb (by first | assumption | exact (Chg.refl _ _).drew | fail))); (try (have Fb := hRa.chg' hcb hne (fun _ => HA3.out)))) | (go_at_call 21; first | (refine (HSm.out _ Aa Ab ca cb Oa hOb).mono ?_; rintro e wz ⟨rfl, hbz⟩; have kcz := kcb.below_then hbz (Nat.le_refl _)) | (refine (HSm.out _ Aa Ab ca cb hOa Ob).mono ?_; rintro e wz ⟨rfl, hbz⟩; have kcz := kca.below_then hbz (Nat.le_refl _))))
            have T1 := Lib.hid (Fb.stay hbz)
            have T2 := Lib.hid (hRb.stay hbz)
            have TC := Lib.hid kcz
            clear Fb hRb kcb hbz kcz hOa Oa hQa hOb hQb
            (try clear k1a) <;> (try clear hca) <;> (try clear hcb) <;> (try clear kca) <;> (try clear hRa)
            clear HK HR1 HF1
            all_goals
              go_wp2_with fail
              have m1 := (T2.out).cells 1
              have m2 := (T2.out).cells 2
              change _ = some (Value.int IntKind.i64 (s2.at_ : Int)) at m1
              change _ = some (Value.int IntKind.i64 s2.e) at m2
              have b1 := bneI (s2.at_ : Int)
              have b2 := bneI s2.e
              have b3 := bneI s2.done
              go_quiet ((first | (go_at_call 16; exact Calls.quiet_of_same (flip_same (rat_any g A3 c3 s2 _ (T1.out.drewN _)))) | (go_at_call 18; exact Calls.quiet_of_same (flip_same (rerr_any g A3 c3 s2 _ (T1.out.drewN _)))) | (go_at_call 22; exact Calls.quiet_of (rdone_quiet g A3 c3 s2 HO2.out _ (T1.out.drewN _))) | (go_at_call 37; exact Calls.quiet_of (fdone_quiet f A c s2 HO2.out _ (T2.out.drewN _)))))
              have TB := Lib.hid (VB.out.trans ((TC.out.toBelow (B := w.heap.size) (fun k hk => by rcases hk with rfl | rfl; exact hgw; exact hf4) VB.out.size)))
              clear m1 m2 b1 b2 b3
              go_wp2_with fail
              exact ⟨⟨j + 1, s2, by go_num, by omega, HO2, HX2, Lib.hid (T1.out.drewN _), Lib.hid (T2.out.drewN _), Lib.hid (below_drewN TB.out _)⟩, by simp [intOf]; omega⟩
          · have q1 : (o.kind == 1) = false := beq_eq_false_iff_ne.2 hk.1
            have q2 : (o.kind == 2) = false := beq_eq_false_iff_ne.2 hk.2.1
            have q3 : (o.kind == 3) = false := beq_eq_false_iff_ne.2 hk.2.2.1
            have q4 : (o.kind == 4) = false := beq_eq_false_iff_ne.2 hk.2.2.2
            have HO2 := hok
            have HX2 := hXs
            clear hk
            go_wp2_with fail
            generalize (wr.alloc (.cells #[.int .i64 o.kind, .int .i64 o.i, .int .u64 o.n, .slice o.A o.b.length o.c] 47)) = V at *
            generalize wr.heap.size = gO at *
            have T1 := VRd
            have T2 := VRf
            have TC := Lib.hid (Chg.refl (two g f) V)
            obtain ⟨s2, rfl⟩ : ∃ s2, s2 = s := ⟨_, rfl⟩
            all_goals
              go_wp2_with fail
              have m1 := (T2.out).cells 1
              have m2 := (T2.out).cells 2
              change _ = some (Value.int IntKind.i64 (s2.at_ : Int)) at m1
              change _ = some (Value.int IntKind.i64 s2.e) at m2
              have b1 := bneI (s2.at_ : Int)
              have b2 := bneI s2.e
              have b3 := bneI s2.done
              go_quiet ((first | (go_at_call 16; exact Calls.quiet_of_same (flip_same (rat_any g A3 c3 s2 _ (T1.out.drewN _)))) | (go_at_call 18; exact Calls.quiet_of_same (flip_same (rerr_any g A3 c3 s2 _ (T1.out.drewN _)))) | (go_at_call 22; exact Calls.quiet_of (rdone_quiet g A3 c3 s2 HO2.out _ (T1.out.drewN _))) | (go_at_call 37; exact Calls.quiet_of (fdone_quiet f A c s2 HO2.out _ (T2.out.drewN _)))))
              have TB := Lib.hid (VB.out.trans ((TC.out.toBelow (B := w.heap.size) (fun k hk => by rcases hk with rfl | rfl; exact hgw; exact hf4) VB.out.size)))
              clear m1 m2 b1 b2 b3
              go_wp2_with fail
              exact ⟨⟨j + 1, s2, by go_num, by omega, HO2, HX2, Lib.hid (T1.out.drewN _), Lib.hid (T2.out.drewN _), Lib.hid (below_drewN TB.out _)⟩, by simp [intOf]; omega⟩
        · obtain rfl : j = n0 := by omega
          clear HU HB
          go_wp2_with fail
          go_ret
          exact ⟨rfl, hBw.out⟩
      -- POOL
    · go_wp2_with fail
      go_ret
      exact ⟨rfl, Below.then hb1 hb2⟩
end Go.Proofs.Yteppkbjjldnniaa
