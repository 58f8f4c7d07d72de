/-
  A sector is written; a plate is made.
-/
import Derived.Test.YtkkncijbedfdfaaPlate6
import Derived.Test.YtkkncijbedfdfaaAgg
import Derived.Deep.RegionLaw
namespace Go.Proofs.Ytkkncijbedfdfaa
open Go.RowKit
set_option linter.unusedVariables false

theorem row_setCells (b : Nat) : ∀ (vs : List Value) (o : Nat) (w : World) (cs : Array Value), row w b = some cs → ∃ cs', row (w.setCells b o vs) b = some cs' ∧ cs'.size = cs.size
  | [], o, w, cs, h => ⟨cs, h, rfl⟩
  | v :: r, o, w, cs, h => by
    obtain ⟨cs', h1, h2⟩ := row_setCells b r (o + 1) (w.setCell ⟨b, o, none⟩ v) _ (row_set h o v)
    exact ⟨cs', h1, by rw [h2, Array.size_setIfInBounds]⟩
theorem row_filled {w : World} {b : Nat} {a : Nat} {d : Sec} (h : row w b = some (zEnt a)) : row (w.setCells b 1 (secC d)) b = some (entC (a, d)) := by
  obtain ⟨cs', h1, h2⟩ := row_setCells b (secC d) 1 w _ h
  rw [h1]
  congr 1
  have hl := secC_len d
  apply Array.ext
  · rw [h2, zEnt_size, entC_size]
  · intro i hi hj
    rw [h2, zEnt_size] at hi
    have hc := row_cell h1 i
    rw [Array.getElem?_eq_getElem (by rw [h2, zEnt_size]; exact hi)] at hc
    have hin := World.cell?_setCells_in b (secC d) 1 w (fun j hj => by
      rw [row_cell h (1 + j), Array.getElem?_eq_getElem (by rw [zEnt_size]; omega)]; rfl)
    have hout := World.cell?_setCells_out b (secC d) 1 w
    apply Option.some.inj
    rw [← hc]
    cases i with
    | zero =>
      rw [hout ⟨b, 0, none⟩ (fun _ _ => .inl (by simp)), row_cell h 0]
      rfl
    | succ k =>
      have hk : k < (secC d).length := by omega
      have h3 := hin k hk
      rw [Nat.add_comm 1 k] at h3
      rw [h3]
      show some ((secC d)[k]) = some ((Value.int .i64 (a : Int) :: secC d)[k + 1]'(by rw [List.length_cons]; omega))
      rw [List.getElem_cons_succ]
theorem wpList_copyb {W : World} {ops : Array Oper} {rest : List Oper} {o : Oper} {a : Act} {Q : Exit → Act → World → Prop} (hgd : o.guard = none) (s x : Operand)
    (ho : o.op = .call { callee := .builtin .copy, args := #[s, x], argTypes := #[22, 22] })
    (b p : Nat) (B : Option Addr) (n c1 c2 : Nat) (l : List Nat) (hs : a.eval s = .slice (some ⟨b, p, none⟩) n c1) (hx : a.eval x = .slice B n c2) (hl : l.length = n) (hn : 0 < n) (hB : Bys W B l) (ht : W.there b p n)
    (hk : wpList Try.prog ops Q rest (a.put o.dst (goInt n)) (W.setCells b p (l.map fun x : Nat => Value.int .u8 ((x : Nat) : Int)))) : wpList Try.prog ops Q (o :: rest) a W := by
  obtain ⟨b2, o2, rfl, _, hc⟩ := hB (by omega)
  refine wpList_plain hgd fun K hK => ?_
  have hr := run_copy_cells (P := Try.prog) W 22 22 o.type 5 b p n c1 ⟨b2, o2, none⟩ n c2 (l.map fun x : Nat => Value.int .u8 ((x : Nat) : Int)) u8s_under (by kernel_rfl) (by rw [List.length_map, hl]; exact (Nat.min_self n).symm)
    (fun j v hv => by
      rw [List.getElem?_map] at hv
      rcases hj : l[j]? with _ | y
      · rw [hj] at hv; cases hv
      · rw [hj] at hv
        cases hv
        have hjl := (List.getElem?_eq_some_iff.1 hj).1
        rw [add_plain', hc j hjl, List.getD_eq_getElem?_getD, hj]; rfl)
    (fun j hj => (ht j (by rw [List.length_map, hl] at hj; exact hj)).1) (fun j hj => (ht j (by rw [List.length_map, hl] at hj; exact hj)).2) (fun v hv => by obtain ⟨y, _, rfl⟩ := List.mem_map.1 hv; rfl)
  rw [List.length_map, hl] at hr
  unfold Oper.wp execOp
  simp only [ho, resolve, invoke, builtin, Sem.run_bind, Sem.run_pure, Result.andThen_ok, List.map_toArray, List.map_cons, List.map_nil, hs, hx, hr]
  exact hK _ _ hk
/-- A write more is pending. -/
theorem PlAt.push {w W : World} {g gs : Nat} {pv v' : Value} {A : Option Addr} {c : Nat} {s : Ps} {e : Nat × Sec} (h : PlAt w g gs pv A c s) (hg : w.grownBy W pv.ownBlock) (ho : OwnC 81 65 entC W 0 v' (s.pend ++ [e])) (hor : v'.ownBlock = pv.ownBlock ∨ v'.ownBlock = some w.heap.size) (he : e.1 < s.sure.length) (hf : s.pend.length < 50000) :
    PlTo w (PS g gs pv A) g { s with pend := s.pend ++ [e] } (W.setCell ⟨g, 1, none⟩ v') := by
  have hc : Chg (fun k => pv.ownBlock = some k) w W := (Chg.refl _ w).grown hg (fun k hk => .inl hk)
  have hc2 : Chg (fun x => x = g) W (W.setCell ⟨g, 1, none⟩ v') := (Chg.refl (fun x => x = g) W).setCell (p := ⟨g, 1, none⟩) (.inl rfl) _
  have hlt := h.blocks
  have hne : ∀ x, x < w.heap.size → pv.ownBlock ≠ some x → v'.ownBlock ≠ some x := fun x hx hn e => by
    rcases hor with h1 | h1
    · exact hn (h1.symm.trans e)
    · have h2 : some w.heap.size = some x := h1.symm.trans e
      rw [Option.some.injEq] at h2; omega
  have hrow := (hc.row (row_lt h.row) h.ne2).trans h.row
  have hgs : gs < W.heap.size := Nat.lt_of_lt_of_le h.lt hc.size
  refine ⟨gs, v', A, c, ⟨?_, fun i d hd => range_chg (range_chg (h.sec i d hd) hc h.lt h.ne3) hc2 hgs h.ne1, there_chg (there_chg h.there hc h.lt h.ne3) hc2 hgs h.ne1, ho.chg hc2 (fun k hk e2 => hne g (row_lt h.row) h.ne2 (by rw [hk]; exact congrArg some e2)), (h.keep.chg hc (fun a ha => (h.ne4 a ha).2.2)).chg hc2 (fun a ha => (h.ne4 a ha).1), Nat.lt_of_lt_of_le hgs hc2.size, fun a ha => Nat.lt_of_lt_of_le (Nat.lt_of_lt_of_le (h.klt a ha) hc.size) hc2.size, h.ne1, hne g (row_lt h.row) h.ne2, hne gs h.lt h.ne3, fun a ha => ⟨(h.ne4 a ha).1, (h.ne4 a ha).2.1, hne _ (h.klt a ha) (h.ne4 a ha).2.2⟩, ⟨?_, h.ok.2.1, h.ok.2.2⟩, ?_, h.fewk, h.fews⟩, fun x hx => ?_, ?_⟩
  · rw [row_set hrow 1 _]; rfl
  · intro x hx
    rcases List.mem_append.1 hx with hx | hx
    · exact h.ok.1 x hx
    · rw [List.mem_singleton] at hx; subst hx; exact he
  · show (s.pend ++ [e]).length ≤ 50000
    rw [List.length_append]; exact hf
  · rcases hx with hx | hx | hx | hx
    · exact .inl (.inl hx)
    · exact .inl (.inr (.inl hx))
    · rcases hor with h1 | h1
      · exact .inl (.inr (.inr (.inl (h1.symm.trans hx))))
      · have h2 : some w.heap.size = some x := h1.symm.trans hx
        rw [Option.some.injEq] at h2
        exact .inr (Nat.le_of_eq h2)
    · exact .inl (.inr (.inr (.inr hx)))
  · exact (hc.mono (S' := PS g gs pv A) (fun k hk => .inr (.inr (.inl hk)))).andThen hc2 (fun k hk => .inl (.inl hk))
theorem PlAt.push_all {w W : World} {g gs : Nat} {pv v' : Value} {A : Option Addr} {c : Nat} {s : Ps} {e : Nat × Sec} (h : PlAt w g gs pv A c s) (hg : w.grownBy W pv.ownBlock) (ho : OwnC 81 65 entC W 0 v' (s.pend ++ [e])) (hor : v'.ownBlock = pv.ownBlock ∨ v'.ownBlock = some w.heap.size) (he : e.1 < s.sure.length) (hf : s.pend.length < 50000) :
    Hid (PlTo w (PS g gs pv A) g { s with pend := s.pend ++ [e] } (W.setCell ⟨g, 1, none⟩ v')) ∧ W.cell? ⟨g, 1, none⟩ = some pv ∧ W.frozen? ⟨g, 1, none⟩ = false :=
  ⟨Lib.hid (h.push hg ho hor he hf), (hg.cell_far ⟨g, 1, none⟩ (row_lt h.row) (fun e => h.ne2 e.symm)).trans (h.cells 1), (hg.frozen_far ⟨g, 1, none⟩ (row_lt h.row) (fun e => h.ne2 e.symm)).trans (h.free 1)⟩
theorem ent_run_load {ρ : Operand → Value} {dst : Option Tmp} {x : Operand} {ty : TypeId} {pos : String} {after : Array Edge} {gd : Option (Nat × Bool)} {w : World}
    (h1 : ρ x = .pointer (some ⟨blk (ρ x), 0, none⟩)) (h2 : (row w (blk (ρ x))).map (·.size) = some 65) :
    (execOp ρ ⟨dst, .load 81 x, ty, pos, after, gd⟩).run Try.prog w = .ok (.value (.agg ((row w (blk (ρ x))).getD #[]))) w := run_load_agg _ 65 _ ent_under rfl ent_size h1 h2
theorem ent_load {dst : Option Tmp} {x : Operand} {ty : TypeId} {pos : String} {after : Array Edge} {gd : Option (Nat × Bool)} {a : Act} {w : World} {K : Act → World → Prop} {Q : Exit → Act → World → Prop}
    (h1 : a.eval x = .pointer (some ⟨blk (a.eval x), 0, none⟩)) (h2 : (row w (blk (a.eval x))).map (·.size) = some 65) :
    Oper.wp Try.prog ⟨dst, .load 81 x, ty, pos, after, gd⟩ a w K Q = K (a.put dst (.agg ((row w (blk (a.eval x))).getD #[]))) w := wp_load_agg _ 65 _ ent_under rfl ent_size h1 h2
theorem ents_build {ρ : Operand → Value} {dst : Option Tmp} {x : Operand} {ty : TypeId} {pos : String} {after : Array Edge} {gd : Option (Nat × Bool)} {w : World} (hx : ρ x = .agg (aggOf (ρ x))) (hs : (aggOf (ρ x)).size = 65) :
    (execOp ρ ⟨dst, .buildSlice 35 1 #[(0, x)], ty, pos, after, gd⟩).run Try.prog w = .ok (.value (.slice (some ⟨w.heap.size, 0, none⟩) 1 1)) (w.alloc (.cells (aggOf (ρ x)) 81)) := by
  obtain ⟨i0, hi, hz0, hz1, hz2⟩ := info_parts ent_info
  have hb := run_buildSlice (P := Try.prog) w 35 81 1 #[(0, ρ x)] (aggOf (ρ x)) i0 (.agg (zEnt 0)) ents_under hi hz0 (by rw [hz1]; omega) (by rw [hz1]; omega) (by
    rw [hz1, hx]
    exact fill_one (by omega) (.agg (aggOf (ρ x))) hs _ (by simp))
  unfold execOp
  simp [hb]
attribute [go_sem ↓] ent_run_load ent_load ents_build
set_option maxRecDepth 100000 in
set_option maxHeartbeats 4000000 in
theorem write_any (g gs : Nat) (pv : Value) (A : Option Addr) (c : Nat) (s : Ps) (a : Nat) (ha : a < s.sure.length) (d : Sec) (B : Option Addr) (cB : Nat) (hdn : s.down = false) (hfew : s.pend.length < 50000) (w : World) (h : PlAt w g gs pv A c s) (hB : Bys w B d.1) (hBn : ∀ x, B = some x → ¬ PS g gs pv A x.block) :
    Calls Try.prog 50 #[.pointer (some ⟨g, 0, none⟩), .int .i64 a, .slice B 64 cB] w fun e w' => e = .returned (.int .i64 (s.write (a, d)).1) ∧ PlTo w (PS g gs pv A) g (s.write (a, d)).2 w' := by
  have HI := Lib.hid (is_yes g gs pv A c s w h)
  have HP := Lib.hid (power_any g gs pv A c s w h)
  have hfs := h.fews
  have c0 : w.cell? ⟨g, 0, none⟩ = some (.slice (some ⟨gs, 0, none⟩) s.sure.length s.sure.length) := h.cells 0
  have c5 : w.cell? ⟨g, 5, none⟩ = some (.bool false) := (h.cells 5).trans (by rw [← hdn]; rfl)
  have HBk := Lib.hid h.blocks
  have HBy := Lib.hid hB
  have HPw := Lib.hid (Ps.power_ok h.ok)
  have y1 : (0 : Int) ≤ (a : Int) := by omega
  have y2 : (a : Int) < (s.sure.length : Int) := by omega
  have y3 : ¬ (a : Int) < 0 := by omega
  have HA : Hid (a < s.power.2.sure.length) := Lib.hid (by rw [HPw.out.2.1]; exact ha)
  have HFw : Hid (s.power.2.pend.length < 50000) := Lib.hid (by rw [HPw.out.2.2.1]; exact hfew)
  have HVr : Hid (s.write (a, d) = (if s.power.1 then 0 else 280, { s.power.2 with pend := s.power.2.pend ++ [(a, d)] })) := Lib.hid (by unfold Ps.write; rw [HPw.out.2.2.1])
  rw [HVr.out]
  generalize s.power.2 = s1 at *
  generalize s.power.1 = pb at *
  generalize s.sure.length = N at *
  clear h hB hdn ha hfew HVr HPw
  go_enter Try.func50, Try.ntmps50
  go_wp2_with fail
  refine (HI.out).mono ?_
  rintro e w1 ⟨rfl, rfl⟩
  go_wp2_with fail
  refine (HP.out).mono ?_
  rintro e w2 ⟨rfl, gs1, pv1, A1, c1, h1, hF, hC⟩
  have HF := Lib.hid hF
  have HC := Lib.hid hC
  have H1 := Lib.hid h1
  have hz1 := zEnt_size a
  have hz2 := zEnt_one a
  have r8 : row (w2.alloc (.cells (zEnt a) 81)) w2.heap.size = some (zEnt a) := row_at _ _ _ _ rfl
  have hth : (w2.alloc (.cells (zEnt a) 81)).there w2.heap.size 1 64 := fun j hj => ⟨by rw [row_cell r8 (1 + j), Array.getElem?_eq_getElem (by rw [zEnt_size]; omega)]; rfl, row_frozen r8 _⟩
  have hby : Bys (w2.alloc (.cells (zEnt a) 81)) B d.1 := (HBy.out.chg hC hBn).stay ((Below.refl _ w2).alloc (Nat.le_refl _) _)
  have P3 := Lib.hid (h1.stay ((Below.refl _ w2).alloc (Nat.le_refl _) (.cells (zEnt a) 81)))
  have HB2 := Lib.hid h1.blocks
  have hc4 : Chg (fun x => x = w2.heap.size) (w2.alloc (.cells (zEnt a) 81)) ((w2.alloc (.cells (zEnt a) 81)).setCells w2.heap.size 1 (secC d)) := chg_setCells (S := fun x => x = w2.heap.size) _ rfl _ _ _ _ (Chg.refl _ _)
  have P4 := Lib.hid (P3.out.chg hc4 (fun x hx e => by have := HB2.out x hx; omega))
  have r4 := row_filled (d := d) r8
  have C4 : Hid (Chg (PS g gs pv A) w ((w2.alloc (.cells (zEnt a) 81)).setCells w2.heap.size 1 (secC d))) := Lib.hid ((HC.out.alloc _).andThen hc4 (fun k hk => .inr (by rw [hk]; exact HC.out.size)))
  clear h1 hF hC HI HP c0 c5 hc4 P3 hBn
  go_wp2_with (first | (refine wpList_build_to (zEnt a) rfl 81 _ rfl (by kernel_rfl) ?_) | (refine wpList_copyb rfl _ _ (by rfl) w2.heap.size 1 B 64 64 cB d.1 (by rfl) (by rfl) d.2 (by omega) hby hth ?_))
  change Code.wp _ _ _ _ ((w2.alloc (.cells (zEnt a) 81)).setCells w2.heap.size 1 (secC d))
  clear r8 hth hby hz1 hz2
  generalize (w2.alloc (.cells (zEnt a) 81)).setCells w2.heap.size 1 (secC d) = w4 at *
  generalize w2.heap.size = g8 at *
  obtain ⟨Ap, cp, hpv, hSl, _, _⟩ := P4.out.pend.form entC_size
  subst hpv
  have HE1 := Lib.hid (entC_size (a, d))
  have P5 := Lib.hid (P4.out.stay (show Below w4.heap.size w4 ((w4.alloc (.cells (entC (a, d)) 81)).drew) from (by (repeat (first | exact Below.refl _ _ | assumption | (refine Below.allocT ?_ _) | refine Below.drew ?_ | refine below_drewN ?_ _ | (refine Below.then ?_ (by assumption)) | (refine Below.setRow ?_ ?_ _; rotate_left; (focus (first | exact Nat.lt_succ_self _ | ((repeat rw [World.size_alloc]); omega) | (simp; done) | (simp; omega) | omega))) | (refine Below.setCell ?_ ?_ _; rotate_left; (focus (first | exact Nat.lt_succ_self _ | ((repeat rw [World.size_alloc]); omega) | (simp; done) | (simp; omega) | omega))) | (refine Below.then' ?_ (by assumption) ?_; rotate_left; (focus (first | exact Nat.lt_succ_self _ | ((repeat rw [World.size_alloc]); omega) | (simp; done) | (simp; omega) | omega))) | fail)); (first | done | fail))))
  have C5 := Lib.hid (C4.out.below_then (show Below w4.heap.size w4 ((w4.alloc (.cells (entC (a, d)) 81)).drew) from (by (repeat (first | exact Below.refl _ _ | assumption | (refine Below.allocT ?_ _) | refine Below.drew ?_ | refine below_drewN ?_ _ | (refine Below.then ?_ (by assumption)) | (refine Below.setRow ?_ ?_ _; rotate_left; (focus (first | exact Nat.lt_succ_self _ | ((repeat rw [World.size_alloc]); omega) | (simp; done) | (simp; omega) | omega))) | (refine Below.setCell ?_ ?_ _; rotate_left; (focus (first | exact Nat.lt_succ_self _ | ((repeat rw [World.size_alloc]); omega) | (simp; done) | (simp; omega) | omega))) | (refine Below.then' ?_ (by assumption) ?_; rotate_left; (focus (first | exact Nat.lt_succ_self _ | ((repeat rw [World.size_alloc]); omega) | (simp; done) | (simp; omega) | omega))) | fail)); (first | done | fail))) (Nat.le_refl _))
  have r5 : row ((w4.alloc (.cells (entC (a, d)) 81)).drew) w4.heap.size = some (entC (a, d)) := row_at _ _ _ _ rfl
  have q5 : row (w4.alloc (.cells (entC (a, d)) 81)) g8 = some (entC (a, d)) := (row_past _ _ _ (row_lt r4)).trans r4
  have hs65 := HE1.out
  have k4 : w4.cell? ⟨g, 1, none⟩ = some (.slice Ap s1.pend.length cp) := P4.out.cells 1
  have k5 : (w4.alloc (.cells (entC (a, d)) 81)).cell? ⟨g, 1, none⟩ = some (.slice Ap s1.pend.length cp) := P5.out.cells 1
  go_region_law ((first | (refine step_slice1 ents_under ent_info rfl (by omega) (by omega) rfl _ (by rfl) (entC (a, d)) (by rfl) (entC_size _) ?_) | (refine step_append_d ents_under ent_info rfl (by omega) (by omega) entC_size entC_one rfl _ _ (by rfl) 0 (.slice Ap s1.pend.length cp) s1.pend (by rfl) P5.out.pend w4.heap.size 1 (a, d) (by rfl) r5 s1.pend.length rfl (by have := HFw.out; omega) (Nat.zero_le _) ?_; intro A' cap w6 hO2 hg2 hor; obtain ⟨HPu, k6, f6⟩ := P5.out.push_all hg2 hO2 hor HA.out HFw.out; clear hO2 hg2 hor)))
  all_goals
    have HT := Lib.hid (PlTo.trans HF.out C5.out HPu.out)
    cases pb
    all_goals
      go_wp2_with fail
      go_ret
      exact ⟨rfl, HT.out⟩
end Go.Proofs.Ytkkncijbedfdfaa
