/-
  What bullionref01.Div answers, by a number that is not nought.
-/
import Derived.Test.YtecdfphfgaeodaaRef01d
import Derived.Test.YtecdfphfgaeodaaRef01f
import Derived.Deep.LoopGhost
namespace Go.Proofs.Ytecdfphfgaeodaa
open Go.RowKit
set_option linter.unusedVariables false

theorem run_app_nil {P : Program} {w : World} {base : Nat} {t ty e : TypeId} {i : TypeInfo} {size : Nat} (ht : P.underlying t = some (.slice e)) (hi : P.info? e = some i)
    {v : Value} {n : Nat} {xs : List Value} (hown : w.ownsRow base e size v n xs) (c : Nat) : (Builtin.append_ #[t, t] ty #[v, .slice none 0 c]).run P w = .ok v w := by
  rcases hown.2 with ⟨rfl, rfl⟩ | ⟨g, cap, cur, rfl, _, _, hnc, _⟩
  · simp [Builtin.append_, run_underlying ht, sizeOf, typeInfo, hi, Builtin.lenOf, Builtin.firstCells]
  · simp [Builtin.append_, run_underlying ht, sizeOf, typeInfo, hi, Builtin.lenOf, Builtin.firstCells, hnc, storeCells]
/-- 'append(up, rest.D...)': onto a row of the call's own, out of a number's digits. -/
theorem wpList_app_nat {w : World} {ops : Array Oper} {rest : List Oper} {o : Oper} {a : Act} {Q : Exit → Act → World → Prop} (hgd : o.guard = none) (s x : Operand)
    (ho : o.op = .call { callee := .builtin .append, args := #[s, x], argTypes := #[69, 69] })
    (B : Nat) (v : Value) (ds : List Nat) (A : Option Addr) (n c r : Nat) (hs : a.eval s = v) (hx : a.eval x = .slice A n c) (hown : OwnI w B v ds) (hN : NatV w A n r)
    (hlen : ds.length + n ≤ 1000000) (hB : B ≤ w.heap.size)
    (h : ∀ v' w', OwnI w' B v' (ds ++ dg r) → (∀ C u, Below C u w → C ≤ B → Below C u w') → wpList Try.prog ops Q rest (a.put o.dst v') w') : wpList Try.prog ops Q (o :: rest) a w := by
  obtain ⟨i0, hi, hz0, hz1, hz2⟩ := info_parts int_info
  obtain ⟨hl, hI⟩ := hN
  rcases A with _ | ad
  · have hn : n = 0 := by
      rcases Nat.eq_zero_or_pos n with h0 | h0
      · exact h0
      · obtain ⟨g, e, _⟩ := hI h0; cases e
    subst hn
    have hr : dg r = [] := List.eq_nil_of_length_eq_zero hl.symm
    refine wpList_plain hgd fun K hK => ?_
    have hrun := run_app_nil (P := Try.prog) (ty := o.type) ints_under hi hown c
    unfold Oper.wp
    simp [execOp, ho, resolve, invoke, builtin, hs, hx, hrun, Result.andThen]
    exact hK _ _ (h v w (by rw [hr, List.append_nil]; exact hown) (fun C u hb _ => hb))
  · refine wpList_append_own _ hgd s x 69 ho B 3 i0 (.int .i64 0) 1 8 ints_under hi hz0 hz1 hz2 rfl (by decide) v ds.length _ hs hown ad n c ((dg r).map fun d => .int .i64 ((d : Nat) : Int)) hx (by simp [hl]) ?_ ?_ (by unfold maxLen; omega) (by omega) hB ?_
    · intro j u hj
      have hj' : j < (dg r).length := by
        rcases Nat.lt_or_ge j (dg r).length with h1 | h1
        · exact h1
        · rw [List.getElem?_eq_none (by simpa using h1)] at hj; cases hj
      obtain ⟨g, e, hg, hcell⟩ := hI (by omega)
      cases e
      rw [show (⟨g, 0, none⟩ : Addr).add j = ⟨g, j, none⟩ by unfold Addr.add; split <;> simp_all, hcell j (by omega), ← hj]
      simp [List.getElem?_map, dg_get r j hj']
    · intro u hu
      obtain ⟨d, _, rfl⟩ := List.mem_map.1 hu
      rfl
    · intro v' w' h1 h2 _
      refine h v' w' ?_ fun C u hb hC => hb.grown h2 (by omega) (fun k hk => Nat.le_trans hC (hown.block k hk))
      unfold OwnI
      rw [List.map_append, List.length_append, ← hl]
      exact h1
def RetTwo (w : World) (q r : Nat) (e : Ending) (w' : World) : Prop := ∃ A c A' c', e = .returned (.tuple #[.agg #[.slice A (dg q).length c], .agg #[.slice A' (dg r).length c']]) ∧ NatV w' A (dg q).length q ∧ NatV w' A' (dg r).length r ∧ Below w.heap.size w w' ∧ (∀ x, A = some x → w.heap.size ≤ x.block) ∧ ∀ x, A' = some x → w.heap.size ≤ x.block
theorem run_make_ints' (K : Nat) (hK : K ≤ 100000) (W : World) : (Instr.makeSlice 69 (.int .i64 (K : Int)) (.int .i64 (K : Int))).run Try.prog W = .ok (.slice (some ⟨W.heap.size, 0, none⟩) K K) (W.alloc (.cells (rowI (List.replicate K 0)) 3)) := run_make_ints K K rfl hK W
theorem noughts_getD (n j : Nat) : (List.replicate n 0).getD j 0 = 0 := by
  simp only [List.getD_eq_getElem?_getD, List.getElem?_replicate]
  split <;> rfl
theorem div_start {a b n : Nat} (hn : n = (dg a).length) : a / 10 ^ n / b * 10 ^ n = 0 ∧ a / 10 ^ n % b = 0 := by
  rw [Nat.div_eq_of_lt (lt_of_len_le (by omega))]; simp
set_option maxHeartbeats 2000000 in
set_option maxRecDepth 100000 in
theorem rdiv_any (A1 A2 : Option Addr) (n1 c1 n2 c2 a b : Nat) (w : World) (hN1 : NatV w A1 n1 a) (hN2 : NatV w A2 n2 b) (h1 : n1 ≤ 400) (h2 : n2 ≤ 400) (hb0 : 0 < b) :
    Calls Try.prog 93 #[.agg #[.slice A1 n1 c1], .agg #[.slice A2 n2 c2]] w (RetTwo w (a / b) (a % b)) := by
  have L1 := Lib.hid hN1.1
  have L2 := Lib.hid hN2.1
  have hmk := run_make_ints' n1 (by omega)
  obtain ⟨W0, hW0⟩ : ∃ W0, W0 = (((((w.alloc (.cells #[.slice A1 n1 c1] 71)).alloc (.cells #[.slice A2 n2 c2] 71)).alloc (.cells #[.slice none 0 0] 71)).alloc (.cells #[.slice none 0 0] 71)).alloc (.cells (rowI (List.replicate n1 0)) 3)).alloc (.cells #[.slice none 0 0] 71) := ⟨_, rfl⟩
  have S0 : Below w.heap.size w W0 := by rw [hW0]; exact (by (repeat (first | exact Below.refl _ _ | assumption | (refine Below.allocT ?_ _) | refine Below.drew ?_ | refine below_drewN ?_ _ | (refine Below.then ?_ (by assumption)) | (refine Below.setRow ?_ ?_ _; rotate_left; (focus (first | exact Nat.lt_succ_self _ | ((repeat rw [World.size_alloc]); omega) | (simp; done) | (simp; omega) | omega))) | (refine Below.setCell ?_ ?_ _; rotate_left; (focus (first | exact Nat.lt_succ_self _ | ((repeat rw [World.size_alloc]); omega) | (simp; done) | (simp; omega) | omega))) | (refine Below.then' ?_ (by assumption) ?_; rotate_left; (focus (first | exact Nat.lt_succ_self _ | ((repeat rw [World.size_alloc]); omega) | (simp; done) | (simp; omega) | omega))) | fail)); (first | done | fail))
  have R1 : row W0 w.heap.size = some #[.slice A1 n1 c1] := by rw [hW0]; exact (by (repeat (first | assumption | (refine row_at _ _ _ _ ?_; first | rfl | (simp only [World.size_alloc]; done) | (simp only [World.size_alloc]; omega)) | (refine (row_past _ _ _ ?_).trans ?_; (focus (first | exact Nat.lt_succ_self _ | ((repeat rw [World.size_alloc]); omega) | (simp; done) | (simp; omega) | omega))) | rw [row_drewN] | rw [row_drew])); (first | done | fail))
  have R2 : row W0 (w.heap.size + 1) = some #[.slice A2 n2 c2] := by rw [hW0]; exact (by (repeat (first | assumption | (refine row_at _ _ _ _ ?_; first | rfl | (simp only [World.size_alloc]; done) | (simp only [World.size_alloc]; omega)) | (refine (row_past _ _ _ ?_).trans ?_; (focus (first | exact Nat.lt_succ_self _ | ((repeat rw [World.size_alloc]); omega) | (simp; done) | (simp; omega) | omega))) | rw [row_drewN] | rw [row_drew])); (first | done | fail))
  have R3 : row W0 (w.heap.size + 2) = some #[.slice none 0 0] := by rw [hW0]; exact (by (repeat (first | assumption | (refine row_at _ _ _ _ ?_; first | rfl | (simp only [World.size_alloc]; done) | (simp only [World.size_alloc]; omega)) | (refine (row_past _ _ _ ?_).trans ?_; (focus (first | exact Nat.lt_succ_self _ | ((repeat rw [World.size_alloc]); omega) | (simp; done) | (simp; omega) | omega))) | rw [row_drewN] | rw [row_drew])); (first | done | fail))
  have R4 : row W0 (w.heap.size + 3) = some #[.slice none 0 0] := by rw [hW0]; exact (by (repeat (first | assumption | (refine row_at _ _ _ _ ?_; first | rfl | (simp only [World.size_alloc]; done) | (simp only [World.size_alloc]; omega)) | (refine (row_past _ _ _ ?_).trans ?_; (focus (first | exact Nat.lt_succ_self _ | ((repeat rw [World.size_alloc]); omega) | (simp; done) | (simp; omega) | omega))) | rw [row_drewN] | rw [row_drew])); (first | done | fail))
  have R5 : row W0 (w.heap.size + 4) = some (rowI (List.replicate n1 0)) := by rw [hW0]; exact (by (repeat (first | assumption | (refine row_at _ _ _ _ ?_; first | rfl | (simp only [World.size_alloc]; done) | (simp only [World.size_alloc]; omega)) | (refine (row_past _ _ _ ?_).trans ?_; (focus (first | exact Nat.lt_succ_self _ | ((repeat rw [World.size_alloc]); omega) | (simp; done) | (simp; omega) | omega))) | rw [row_drewN] | rw [row_drew])); (first | done | fail))
  have R6 : row W0 (w.heap.size + 5) = some #[.slice none 0 0] := by rw [hW0]; exact (by (repeat (first | assumption | (refine row_at _ _ _ _ ?_; first | rfl | (simp only [World.size_alloc]; done) | (simp only [World.size_alloc]; omega)) | (refine (row_past _ _ _ ?_).trans ?_; (focus (first | exact Nat.lt_succ_self _ | ((repeat rw [World.size_alloc]); omega) | (simp; done) | (simp; omega) | omega))) | rw [row_drewN] | rw [row_drew])); (first | done | fail))
  have HW0 := Lib.hid hW0
  clear hW0
  go_enter Try.func93, Try.ntmps93
  go_wp2_with fail
  clear hmk
  go_loopw [8, 9] (fun ii _ wr => ∃ (k : Nat) (l : List Nat) (Ar : Option Addr) (nr cr : Nat), ii = .int .i64 ((k : Int) - 1) ∧ k ≤ n1 ∧ Hid (l.length = n1 ∧ low l ∧ val l = a / 10 ^ k / b * 10 ^ k ∧ ∀ j, j < k → l.getD j 0 = 0) ∧ Below w.heap.size w wr ∧ row wr w.heap.size = some #[.slice A1 n1 c1] ∧ row wr (w.heap.size + 1) = some #[.slice A2 n2 c2] ∧ row wr (w.heap.size + 2) = some #[.slice none 0 0] ∧ row wr (w.heap.size + 3) = some #[.slice none 0 0] ∧ row wr (w.heap.size + 4) = some (rowI l) ∧ row wr (w.heap.size + 5) = some #[.slice Ar nr cr] ∧ Hid (NatV wr Ar nr (a / 10 ^ k % b) ∧ ∀ x, Ar = some x → w.heap.size + 6 ≤ x.block)) (fun ii _ _ => (intOf ii + 1).toNat)
  case atStart =>
    have e := div_start (b := b) L1.out
    rw [← HW0.out]
    exact ⟨n1, List.replicate n1 0, none, 0, 0, rfl, by omega, Lib.hid ⟨by simp, low_noughts _, by rw [val_noughts, e.1], fun j _ => noughts_getD _ _⟩, S0, R1, R2, R3, R4, R5, R6, Lib.hid ⟨by rw [e.2]; exact NatV.zero _ _, by simp⟩⟩
  case round =>
    obtain ⟨k, l, Ar, nr, cr, rfl, hk, hl, hB, r1, r2, r3, r4, r5, r6, hN⟩ := hrel
    clear S0 R1 R2 R3 R4 R5 R6 HW0
    have hz := row_lt r6
    have q1 : wr.cell? ⟨w.heap.size, 0, none⟩ = some (.slice A1 n1 c1) := row_cell r1 0
    have hlenR : (dg (a / 10 ^ k % b)).length ≤ n2 := by rw [L2.out]; exact len_mono (Nat.le_of_lt (Nat.mod_lt _ hb0))
    have hnr : nr ≤ 400 := by have := hN.out.1.1; omega
    rcases Nat.eq_zero_or_pos k with h0 | h0
    · subst h0
      have hv : val l = a / b := by have := hl.out.2.2.1; simpa using this
      have hr0 : a / 10 ^ 0 % b = a % b := by simp
      rw [hr0] at hN
      obtain rfl : nr = (dg (a % b)).length := hN.out.1.1
      have hI := rowI_ints r5
      have hlen := hl.out.1
      rw [hlen] at hI
      have HI := Lib.hid hI
      have HT := Lib.hid (fun W hW => trim_any (some ⟨w.heap.size + 4, 0, none⟩) l n1 n1 W hl.out.2.1 hlen hW (Nat.le_refl _) (by omega))
      rw [hv] at HT
      have q6 : wr.cell? ⟨w.heap.size + 5, 0, none⟩ = some (.slice Ar (dg (a % b)).length cr) := row_cell r6 0
      have f3 : wr.frozen? ⟨w.heap.size + 2, 0, none⟩ = false := row_frozen r3 0
      have f4 : wr.frozen? ⟨w.heap.size + 3, 0, none⟩ = false := row_frozen r4 0
      have q3 : wr.cell? ⟨w.heap.size + 2, 0, none⟩ = some (.slice none 0 0) := row_cell r3 0
      have q4 : wr.cell? ⟨w.heap.size + 3, 0, none⟩ = some (.slice none 0 0) := row_cell r4 0
      have hM := fun W (h : Below wr.heap.size wr W) => hN.out.1.stay h
      have HM := Lib.hid hM
      have HX := Lib.hid (And.intro hN.out.2 hN.out.1.1)
      clear hI hlen hv hr0 hM
      go_wp2_with fail
      go_region_with ((go_at_call 69; refine (HT.out _ (show Ints wr.drew _ _ _ from HI.out)).mono ?_; rintro e w2 ⟨rfl, hb2, hN2⟩; have s3 := (row_below hb2 (g := w.heap.size + 2) (by show _ < wr.heap.size; omega)).trans r3; have s4 := (row_below hb2 (g := w.heap.size + 3) (by show _ < wr.heap.size; omega)).trans r4; have s6 := (row_below hb2 (g := w.heap.size + 5) (by show _ < wr.heap.size; omega)).trans r6; have p6 : w2.cell? ⟨w.heap.size + 5, 0, none⟩ = some (.slice Ar (dg (a % b)).length cr) := row_cell s6 0; have p3 : w2.cell? ⟨w.heap.size + 2, 0, none⟩ = some (.slice none 0 0) := row_cell s3 0; have p4 : w2.cell? ⟨w.heap.size + 3, 0, none⟩ = some (.slice none 0 0) := row_cell s4 0; have g3 : w2.frozen? ⟨w.heap.size + 2, 0, none⟩ = false := row_frozen s3 0; have g4 : w2.frozen? ⟨w.heap.size + 3, 0, none⟩ = false := row_frozen s4 0; have z2 := row_lt s6))
      all_goals
        have hBB : Below w.heap.size w w2 := (by (repeat (first | exact Below.refl _ _ | assumption | (refine Below.allocT ?_ _) | refine Below.drew ?_ | refine below_drewN ?_ _ | (refine Below.then ?_ (by assumption)) | (refine Below.setRow ?_ ?_ _; rotate_left; (focus (first | exact Nat.lt_succ_self _ | ((repeat rw [World.size_alloc]); omega) | (simp; done) | (simp; omega) | omega))) | (refine Below.setCell ?_ ?_ _; rotate_left; (focus (first | exact Nat.lt_succ_self _ | ((repeat rw [World.size_alloc]); omega) | (simp; done) | (simp; omega) | omega))) | (refine Below.then' ?_ (by assumption) ?_; rotate_left; (focus (first | exact Nat.lt_succ_self _ | ((repeat rw [World.size_alloc]); omega) | (simp; done) | (simp; omega) | omega))) | fail)); (first | done | fail))
        have hM2 := HM.out w2 (Below.then (Below.refl _ _).drew hb2)
        have F1 := Lib.hid ((hN2.far (B := w.heap.size + 4) (by rintro x hx; cases hx; exact Nat.le_refl _) (p := ⟨w.heap.size + 2, 0, none⟩) (by show w.heap.size + 2 < w.heap.size + 4; omega) (.slice (some ⟨w.heap.size + 4, 0, none⟩) (dg (a / b)).length n1)).far (B := w.heap.size + 4) (by rintro x hx; cases hx; exact Nat.le_refl _) (p := ⟨w.heap.size + 3, 0, none⟩) (by show w.heap.size + 3 < w.heap.size + 4; omega) (.slice Ar (dg (a % b)).length cr))
        have F2 := Lib.hid ((hM2.far (B := w.heap.size + 6) HX.out.1 (p := ⟨w.heap.size + 2, 0, none⟩) (by show w.heap.size + 2 < w.heap.size + 6; omega) (.slice (some ⟨w.heap.size + 4, 0, none⟩) (dg (a / b)).length n1)).far (B := w.heap.size + 6) HX.out.1 (p := ⟨w.heap.size + 3, 0, none⟩) (by show w.heap.size + 3 < w.heap.size + 6; omega) (.slice Ar (dg (a % b)).length cr))
        clear hN2 hM2
        go_wp2_with fail
        refine bodyPost_ret (v := .tuple #[.agg #[.slice (some ⟨w.heap.size + 4, 0, none⟩) (dg (a / b)).length n1], .agg #[.slice Ar (dg (a % b)).length cr]]) (by simp [results, Try.results93, go_sem, p3, p4]) rfl ⟨_, _, _, _, rfl, F1.out, F2.out, ?_, (by rintro x hx; cases hx; show w.heap.size ≤ w.heap.size + 4; omega), fun x hx => by have := HX.out.1 x hx; omega⟩
        exact (hBB.setCell (p := ⟨w.heap.size + 2, 0, none⟩) (by show w.heap.size ≤ w.heap.size + 2; omega) _).setCell (p := ⟨w.heap.size + 3, 0, none⟩) (by show w.heap.size ≤ w.heap.size + 3; omega) _
    · obtain ⟨j, rfl⟩ : ∃ j, k = j + 1 := ⟨k - 1, by omega⟩
      obtain ⟨R, hR⟩ : ∃ R, R = a / 10 ^ (j + 1) % b := ⟨_, rfl⟩
      have hRb : R < b := by rw [hR]; exact Nat.mod_lt _ hb0
      rw [← hR] at hN hlenR
      obtain ⟨g, rfl, hg, hcell⟩ := (hN1.stay hB).2 (by omega)
      have hcj := hcell j (by omega)
      have bd := dgt_lt a j
      have HR := Lib.hid hR
      have e0 : ((j + 1 : Nat) : Int) - 1 = (j : Int) := by omega
      rw [e0]
      have f1 : (j : Int) < (n1 : Int) := by omega
      have f2 : 0 ≤ (j : Int) := by omega
      clear hcell hR e0
      generalize hd : dgt a j = d at *
      have HD := Lib.hid hd
      clear hd
      obtain ⟨r0, hr0⟩ : ∃ r0, r0 = d + 10 * R := ⟨_, rfl⟩
      have HR0 : Hid (val ([d] ++ dg R) = r0) := Lib.hid (by simp [val, val_dg, hr0])
      have hlow : Hid (low ([d] ++ dg R)) := Lib.hid (by
        intro x hx
        rcases List.mem_append.1 hx with h | h
        · simp at h; omega
        · exact low_dg R x h)
      have hlr0 : (dg r0).length ≤ n2 + 1 := by
        apply len_le_of_lt
        have := lt_of_len_le (n := b) (k := n2) (by rw [L2.out]; exact Nat.le_refl _)
        rw [Nat.pow_succ]; omega
      have HR1 := Lib.hid hr0
      have HRN := Lib.hid (fun W (h : Below wr.heap.size wr W) => hN.out.1.stay h)
      clear hN hr0
      go_wp2_with (first | (at_builtin; refine wpList_app rfl _ _ rfl wr.heap.size _ [] _ d rfl rfl (OwnI.nil _ _) rfl ?_ ?_ ?_; (focus (simp; done)); (focus omega); intro v1 w1 h1 g1; have b1 : Below wr.heap.size wr w1 := g1 _ _ (Below.refl _ _) (Nat.le_refl _); have s6 := (row_below b1 (g := w.heap.size + 5) hz).trans r6; have p6 : w1.cell? ⟨w.heap.size + 5, 0, none⟩ = some (.slice Ar nr cr) := row_cell s6 0; have z1 := b1.size; have H1 := Lib.hid h1; clear h1 g1) | (at_builtin; refine wpList_app_nat rfl _ _ rfl wr.heap.size _ ([] ++ [d]) Ar nr cr R rfl rfl H1.out (HRN.out _ b1) ?_ ?_ ?_; (focus (simp; omega)); (focus omega); intro v2 w2 h2 g2; obtain ⟨A3, c3, rfl, hcap3, hmax3, hI3⟩ := (show OwnI w2 wr.heap.size v2 ([d] ++ dg R) from h2).form; have b2 : Below wr.heap.size wr w2 := g2 _ _ b1 (Nat.le_refl _); have z2 := b2.size; have HH2 := Lib.hid h2.high; have HI3 := Lib.hid hI3; clear h2 hI3 s6 p6 g2 b1 z1; unfold maxLen at hmax3) | fail)
      refine (trim_any A3 ([d] ++ dg R) _ c3 _ hlow.out rfl HI3.out hcap3 hmax3).mono ?_
      rw [HR0.out]
      rintro e w3 ⟨rfl, hb3, hN3⟩
      have b3 : Below wr.heap.size wr w3 := b2.trans (hb3.mono z2)
      have s6 := (row_below b3 (g := w.heap.size + 5) hz).trans r6
      have p6 : w3.cell? ⟨w.heap.size + 5, 0, none⟩ = some (.slice Ar nr cr) := row_cell s6 0
      have f6 : w3.frozen? ⟨w.heap.size + 5, 0, none⟩ = false := row_frozen s6 0
      have F3 := Lib.hid (hN3.far (B := wr.heap.size) HH2.out (p := ⟨w.heap.size + 5, 0, none⟩) hz (.slice A3 (dg r0).length c3))
      have S0 : Below w.heap.size w (w3.setCell ⟨w.heap.size + 5, 0, none⟩ (.slice A3 (dg r0).length c3)) := (hB.trans (b3.mono hB.size)).setCell (p := ⟨w.heap.size + 5, 0, none⟩) (by show w.heap.size ≤ w.heap.size + 5; omega) _
      have R1 := (row_far w3 ⟨w.heap.size + 5, 0, none⟩ (.slice A3 (dg r0).length c3) w.heap.size (by show w.heap.size ≠ w.heap.size + 5; omega)).trans ((row_below b3 (by omega)).trans r1)
      have R2 := (row_far w3 ⟨w.heap.size + 5, 0, none⟩ (.slice A3 (dg r0).length c3) (w.heap.size + 1) (by show w.heap.size + 1 ≠ w.heap.size + 5; omega)).trans ((row_below b3 (by omega)).trans r2)
      have R3 := (row_far w3 ⟨w.heap.size + 5, 0, none⟩ (.slice A3 (dg r0).length c3) (w.heap.size + 2) (by show w.heap.size + 2 ≠ w.heap.size + 5; omega)).trans ((row_below b3 (by omega)).trans r3)
      have R4 := (row_far w3 ⟨w.heap.size + 5, 0, none⟩ (.slice A3 (dg r0).length c3) (w.heap.size + 3) (by show w.heap.size + 3 ≠ w.heap.size + 5; omega)).trans ((row_below b3 (by omega)).trans r4)
      have R5 := (row_far w3 ⟨w.heap.size + 5, 0, none⟩ (.slice A3 (dg r0).length c3) (w.heap.size + 4) (by show w.heap.size + 4 ≠ w.heap.size + 5; omega)).trans ((row_below b3 (by omega)).trans r5)
      have R6 : row (w3.setCell ⟨w.heap.size + 5, 0, none⟩ (.slice A3 (dg r0).length c3)) (w.heap.size + 5) = some #[.slice A3 (dg r0).length c3] := row_set s6 0 _
      clear hN3 hb3 b3 b2 z2 s6 r1 r2 r3 r4 r5 r6 q1 hB
      go_wp2_with fail
      obtain ⟨wo, rfl⟩ : ∃ wo : World, wo = wr := ⟨_, rfl⟩
      go_loopg [46] r0 (fun kx _ wr => ∃ (t r : Nat) (l : List Nat) (Ar : Option Addr) (nr cr : Nat), r ≤ kx ∧ nr ≤ 401 ∧ Hid (l.length = n1 ∧ low l ∧ val l = (10 * (a / 10 ^ (j + 1) / b) + t) * 10 ^ j ∧ (∀ i, i < j → l.getD i 0 = 0) ∧ l.getD j 0 = t ∧ t * b + r = r0) ∧ Below w.heap.size w wr ∧ row wr w.heap.size = some #[.slice (some ⟨g, 0, none⟩) n1 c1] ∧ row wr (w.heap.size + 1) = some #[.slice A2 n2 c2] ∧ row wr (w.heap.size + 2) = some #[.slice none 0 0] ∧ row wr (w.heap.size + 3) = some #[.slice none 0 0] ∧ row wr (w.heap.size + 4) = some (rowI l) ∧ row wr (w.heap.size + 5) = some #[.slice Ar nr cr] ∧ Hid (NatV wr Ar nr r ∧ ∀ x, Ar = some x → w.heap.size + 6 ≤ x.block))
      case atStart =>
        refine ⟨0, r0, l, A3, _, c3, Nat.le_refl _, by omega, Lib.hid ⟨hl.out.1, hl.out.2.1, ?_, fun i hi => hl.out.2.2.2 i (by omega), hl.out.2.2.2 j (by omega), by simp⟩, S0, R1, R2, R3, R4, R5, R6, Lib.hid ⟨F3.out, fun x hx => by have := HH2.out x hx; omega⟩⟩
        rw [hl.out.2.2.1, Nat.pow_succ, Nat.add_zero, Nat.mul_comm 10, Nat.mul_assoc, Nat.mul_comm 10]
      case round =>
        obtain ⟨t, r, l', Ar', nr', cr', hrk, hnr', hl', hB, r1, r2, r3, r4, r5, r6, hN⟩ := hrel
        clear S0 R1 R2 R3 R4 R5 R6 F3 hl
        have hz := row_lt r6
        have q2 : wr.cell? ⟨w.heap.size + 1, 0, none⟩ = some (.slice A2 n2 c2) := row_cell r2 0
        have q6 : wr.cell? ⟨w.heap.size + 5, 0, none⟩ = some (.slice Ar' nr' cr') := row_cell r6 0
        have hM := hN.out.1
        have hM2 : NatV wr A2 n2 b := hN2.stay hB
        by_cases hge : b ≤ r
        · have hc : 0 ≤ cmpI r b := by unfold cmpI; split <;> (try split) <;> omega
          have ht9 : t + 1 ≤ 9 := by
            have h := hl'.out.2.2.2.2.2
            refine div_small (r0 := r0) hRb bd HR1.out ?_
            rw [Nat.add_mul]; omega
          go_wp2_with fail
          refine (cmp_any Ar' A2 _ cr' _ c2 r b _ hM hM2 (by omega) (by omega)).mono ?_
          rintro e w4 ⟨rfl, hb4⟩
          have s6 := (row_below hb4 (row_lt r6)).trans r6
          have s2 := (row_below hb4 (row_lt r2)).trans r2
          have p6 : w4.cell? ⟨w.heap.size + 5, 0, none⟩ = some (.slice Ar' nr' cr') := row_cell s6 0
          have p2 : w4.cell? ⟨w.heap.size + 1, 0, none⟩ = some (.slice A2 n2 c2) := row_cell s2 0
          clear q2 q6
          go_wp2_with fail
          refine (sub_any Ar' A2 _ cr' _ c2 r b _ (hM.stay hb4) (hM2.stay hb4) (by omega) (by omega) hge).mono ?_
          rintro e w5 ⟨A5, c5, rfl, hN5, hb5, hh5⟩
          have b5 : Below wr.heap.size wr w5 := hb4.trans (hb5.mono hb4.size)
          have s6 := (row_below b5 (row_lt r6)).trans r6
          have p6 : w5.cell? ⟨w.heap.size + 5, 0, none⟩ = some (.slice Ar' nr' cr') := row_cell s6 0
          have f6 : w5.frozen? ⟨w.heap.size + 5, 0, none⟩ = false := row_frozen s6 0
          have s5 := (row_below b5 (row_lt r5)).trans r5
          have hlen : j < l'.length := by have := hl'.out.1; omega
          have p5 : w5.cell? ⟨w.heap.size + 4, j, none⟩ = some (.int .i64 (t : Nat)) := (row_cell s5 _).trans ((rowI_get l' j hlen).trans (by rw [hl'.out.2.2.2.2.1]))
          have f5 : w5.frozen? ⟨w.heap.size + 4, j, none⟩ = false := row_frozen s5 _
          clear hM hM2
          go_wp2_with fail
          have V : val (l'.set j (t + 1)) = (10 * (a / 10 ^ (j + 1) / b) + (t + 1)) * 10 ^ j := by
            have h := val_set l' j (t + 1) hlen
            rw [hl'.out.2.2.2.2.1, hl'.out.2.2.1] at h
            rw [Nat.add_mul] at h ⊢
            omega
          have V2 : (t + 1) * b + (r - b) = r0 := by
            have h := hl'.out.2.2.2.2.2
            rw [Nat.add_mul]; omega
          have hlr : (dg (r - b)).length ≤ 401 := by
            have := len_mono (show r - b ≤ r0 by omega)
            omega
          go_roundg (r - b)
          case measure => omega
          case rel =>
            refine ⟨t + 1, r - b, l'.set j (t + 1), A5, (dg (r - b)).length, c5, Nat.le_refl _, hlr, Lib.hid ⟨by simp [hl'.out.1], low_set hl'.out.2.1 (by omega), V, ?_, ?_, V2⟩, ?_, ?_, ?_, ?_, ?_, ?_, ?_, ?_⟩
            · intro i hi
              have e := hl'.out.2.2.2.1 i hi
              rw [List.getD_eq_getElem?_getD] at e ⊢
              rw [List.getElem?_set_ne (show j ≠ i by omega)]
              exact e
            · simp [List.getD_eq_getElem?_getD, hlen]
            · exact ((hB.trans (b5.mono hB.size)).setCell (p := ⟨w.heap.size + 5, 0, none⟩) (by show w.heap.size ≤ w.heap.size + 5; omega) _).setCell (p := ⟨w.heap.size + 4, j, none⟩) (by show w.heap.size ≤ w.heap.size + 4; omega) _
            · exact (row_far _ ⟨w.heap.size + 4, j, none⟩ _ _ (by show w.heap.size ≠ w.heap.size + 4; omega)).trans ((row_far w5 ⟨w.heap.size + 5, 0, none⟩ _ _ (by show w.heap.size ≠ w.heap.size + 5; omega)).trans ((row_below b5 (by omega)).trans r1))
            · exact (row_far _ ⟨w.heap.size + 4, j, none⟩ _ _ (by show w.heap.size + 1 ≠ w.heap.size + 4; omega)).trans ((row_far w5 ⟨w.heap.size + 5, 0, none⟩ _ _ (by show w.heap.size + 1 ≠ w.heap.size + 5; omega)).trans ((row_below b5 (by omega)).trans r2))
            · exact (row_far _ ⟨w.heap.size + 4, j, none⟩ _ _ (by show w.heap.size + 2 ≠ w.heap.size + 4; omega)).trans ((row_far w5 ⟨w.heap.size + 5, 0, none⟩ _ _ (by show w.heap.size + 2 ≠ w.heap.size + 5; omega)).trans ((row_below b5 (by omega)).trans r3))
            · exact (row_far _ ⟨w.heap.size + 4, j, none⟩ _ _ (by show w.heap.size + 3 ≠ w.heap.size + 4; omega)).trans ((row_far w5 ⟨w.heap.size + 5, 0, none⟩ _ _ (by show w.heap.size + 3 ≠ w.heap.size + 5; omega)).trans ((row_below b5 (by omega)).trans r4))
            · exact (row_set (w := w5.setCell ⟨w.heap.size + 5, 0, none⟩ (.slice A5 (dg (r - b)).length c5)) ((row_far w5 ⟨w.heap.size + 5, 0, none⟩ _ _ (by show w.heap.size + 4 ≠ w.heap.size + 5; omega)).trans s5) j _).trans (congrArg some (rowI_set l' j (t + 1)))
            · exact (row_far _ ⟨w.heap.size + 4, j, none⟩ _ _ (by show w.heap.size + 5 ≠ w.heap.size + 4; omega)).trans (row_set s6 0 _)
            · exact Lib.hid ⟨(hN5.far (B := w.heap.size + 6) (fun x hx => by have := hh5 x hx; have := hb4.size; omega) (p := ⟨w.heap.size + 5, 0, none⟩) (by show w.heap.size + 5 < w.heap.size + 6; omega) _).far (B := w.heap.size + 6) (fun x hx => by have := hh5 x hx; have := hb4.size; omega) (p := ⟨w.heap.size + 4, j, none⟩) (by show w.heap.size + 4 < w.heap.size + 6; omega) _, fun x hx => by have := hh5 x hx; have := hb4.size; omega⟩
        · have hc : cmpI r b < 0 := by unfold cmpI; rw [if_pos (by omega)]; omega
          have V := div_round (t := t) (r := r) hb0 (by rw [← HR.out, HD.out]; exact HR1.out) hl'.out.2.2.2.2.2 (by omega)
          go_wp2_with fail
          refine (cmp_any Ar' A2 _ cr' _ c2 r b _ hM hM2 (by omega) (by omega)).mono ?_
          rintro e w4 ⟨rfl, hb4⟩
          have HV := Lib.hid V
          clear hM hM2 V q2 q6
          go_wp2_with fail
          refine ⟨⟨j, l', Ar', nr', cr', by go_num, by omega, Lib.hid ⟨hl'.out.1, hl'.out.2.1, ?_, hl'.out.2.2.2.1⟩, hB.trans (hb4.mono hB.size), (row_below hb4 (by omega)).trans r1, (row_below hb4 (by omega)).trans r2, (row_below hb4 (by omega)).trans r3, (row_below hb4 (by omega)).trans r4, (row_below hb4 (by omega)).trans r5, (row_below hb4 (by omega)).trans r6, Lib.hid ⟨?_, hN.out.2⟩⟩, by simp [intOf]⟩
          · rw [hl'.out.2.2.1, HV.out.1]
          · rw [HV.out.2]; exact hN.out.1.stay hb4
end Go.Proofs.Ytecdfphfgaeodaa
