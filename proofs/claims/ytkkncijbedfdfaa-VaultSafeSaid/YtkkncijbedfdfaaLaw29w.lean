/-
  Layer 29: what a vault is to have, with a record more: (held).with.
-/
import Derived.Test.YtkkncijbedfdfaaLaw29h
namespace Go.Proofs.Ytkkncijbedfdfaa
open Go.RowKit
set_option linter.unusedVariables false

theorem hl_under : Try.prog.underlying 58 = some (.struct (Try.prog.fieldsOf 58)) := by kernel_rfl
theorem hl_info : (Try.prog.info? 58).map (·.size) = some 2 := by kernel_rfl
theorem hl_load {dst : Option Tmp} {x : Operand} {ty : TypeId} {pos : String} {after : Array Edge} {gd : Option (Nat × Bool)} {a : Act} {w : World} {K : Act → World → Prop} {Q : Exit → Act → World → Prop} (h1 : a.eval x = .pointer (some ⟨blk (a.eval x), ofs (a.eval x), none⟩)) (h2 : (row w (blk (a.eval x))).map (roomy (ofs (a.eval x)) 2) = some true) : Oper.wp Try.prog ⟨dst, .load 58 x, ty, pos, after, gd⟩ a w K Q = K (a.put dst (.agg (((row w (blk (a.eval x))).getD #[]).extract (ofs (a.eval x)) (ofs (a.eval x) + 2)))) w := wp_load_part _ 2 _ hl_under rfl hl_info h1 h2
theorem hl_store {dst : Option Tmp} {x : Operand} {ty : TypeId} {pos : String} {after : Array Edge} {gd : Option (Nat × Bool)} {y : Operand} {a : Act} {w : World} {K : Act → World → Prop} {Q : Exit → Act → World → Prop} (h1 : a.eval x = .pointer (some ⟨blk (a.eval x), 0, none⟩)) (h2 : (row w (blk (a.eval x))).map (·.size) = some 2) (h3 : a.eval y = .agg (aggOf (a.eval y))) (h4 : (aggOf (a.eval y)).size = 2) (h5 : allOne (aggOf (a.eval y)) = true) : Oper.wp Try.prog ⟨dst, .store 58 x y, ty, pos, after, gd⟩ a w K Q = K (a.put dst undef) (w.setRow (blk (a.eval x)) (aggOf (a.eval y))) := wp_store_agg _ 2 hl_info h1 h2 h3 h4 h5
theorem hl_run_load {ρ : Operand → Value} {dst : Option Tmp} {x : Operand} {ty : TypeId} {pos : String} {after : Array Edge} {gd : Option (Nat × Bool)} {w : World} (h1 : ρ x = .pointer (some ⟨blk (ρ x), ofs (ρ x), none⟩)) (h2 : (row w (blk (ρ x))).map (roomy (ofs (ρ x)) 2) = some true) : (execOp ρ ⟨dst, .load 58 x, ty, pos, after, gd⟩).run Try.prog w = .ok (.value (.agg (((row w (blk (ρ x))).getD #[]).extract (ofs (ρ x)) (ofs (ρ x) + 2)))) w := run_load_part _ 2 _ hl_under rfl hl_info h1 h2
theorem hl_quiet {C : World → Prop} {dst : Option Tmp} {x : Operand} {ty : TypeId} {pos : String} {after : Array Edge} {gd : Option (Nat × Bool)} {a : Act} {w : World} {g o : Nat} {cs : Array Value} (h1 : a.eval x = .pointer (some ⟨g, o, none⟩)) (h2 : row w g = some cs) (hs : roomy o 2 cs = true) : Oper.quietAt Try.prog ⟨dst, .load 58 x, ty, pos, after, gd⟩ a C w (.agg (cs.extract o (o + 2))) := quiet_load_part _ 2 _ hl_under rfl hl_info h1 h2 hs
attribute [go_sem ↓] hl_load hl_store hl_run_load
theorem hv_room (u : Hv) : roomy 0 2 u.cells = true := rfl
theorem hv_ext (u : Hv) : u.cells.extract 0 2 = u.cells := rfl
theorem hv_size (u : Hv) : u.cells.size = 2 := rfl
theorem hv_one (u : Hv) : allOne u.cells = true := by unfold allOne Hv.cells; simp [Value.oneCell']
attribute [go_sem] hv_room hv_ext hv_size hv_one
section
variable {α : Type} {P : Program} {T t : TypeId} {C : Nat} {f : α → Array Value} {z : Value} {bytes : Nat}
theorem step_append_aV (hu : P.underlying t = some (.slice T)) (hinfo : (P.info? T).map (fun i => (i.zero, i.size, i.bytes)) = some (some z, C, bytes)) (hz : z.cells.size = C) (h0 : 0 < C) (hbb : bytes ≤ 1000) (hC : ∀ x, (f x).size = C) (hone : ∀ x, allOne (f x) = true)
    {W : World} {ops : Array Oper} {o : Oper} {a : Act} {K : Act → World → Prop} {Q : Exit → Act → World → Prop} {E : Prop} (hgd : o.guard = none) (s x : Operand)
    (ho : o.op = .call { callee := .builtin .append, args := #[s, x], argTypes := #[t, t] })
    (B : Nat) (v : Value) (l m : List α) (A : Option Addr) (n c : Nat) (h : OwnC T C f W B v l) (hm : SliceOf C f W A m) (hs : a.eval s = v) (hx : a.eval x = .slice A n c) (hn : m.length = n) (hlen : l.length + m.length ≤ 1000000) (hB : B ≤ W.heap.size)
    (hk : ∀ v' W', AppC T C f W B v l m v' W' → K (a.put o.dst v') W') : if Region.wanted o (yielded ops a.tmps) = true then Oper.wp P o a W K Q else E := by
  have hw : Region.wanted o (yielded ops a.tmps) = true := by simp [Region.wanted, hgd]
  rw [if_pos hw]
  exact wp_append_a hu hinfo hz h0 hbb hC hone s x ho B v l m A n c h hm hs hx hn hlen hB hk
end
-- here the walk begins
theorem hl_run_store {ρ : Operand → Value} {dst : Option Tmp} {x y : Operand} {ty : TypeId} {pos : String} {after : Array Edge} {gd : Option (Nat × Bool)} {w : World}
    (h1 : ρ x = .pointer (some ⟨blk (ρ x), 0, none⟩)) (h2 : (row w (blk (ρ x))).map (·.size) = some 2)
    (h3 : ρ y = .agg (aggOf (ρ y))) (h4 : (aggOf (ρ y)).size = 2) (h5 : allOne (aggOf (ρ y)) = true) :
    (execOp ρ ⟨dst, .store 58 x y, ty, pos, after, gd⟩).run Try.prog w = .ok .skip (w.setRow (blk (ρ x)) (aggOf (ρ y))) := run_store_aggV _ 2 hl_info h1 h2 h3 h4 h5
attribute [go_sem ↓] hl_run_store
theorem hl_two (a b : Value) : (#[a, b] : Array Value).size = 2 := rfl
theorem hl_twoS (A B : Option Addr) (n c m d : Nat) : allOne #[Value.slice A n c, Value.slice B m d] = true := by unfold allOne; simp [Value.oneCell']
attribute [go_sem] hl_two hl_twoS
theorem chg_setRow1 (W : World) (g : Nat) (cs : Array Value) : Chg (only g) W (W.setRow g cs) := (Chg.refl (only g) W).setRow (.inl rfl) cs
theorem hv_built2 (A B : Option Addr) (n c m d : Nat) : Try.prog.built 58 [(0, .slice A n c), (1, .slice B m d)] = some #[.slice A n c, .slice B m d] := by kernel_rfl
attribute [go_sem] hv_built2
theorem OwnC.empV (W : World) : OwnC 22 1 recK (W.alloc (.cells #[] 22)) 0 (.slice (some ⟨W.heap.size, 0, none⟩) 0 0) [] := World.ownsRow_lit (base := 0) W _ 0 (by omega) (by unfold maxLen; omega) (by simp)
theorem OwnC.empV1 (W : World) (o : Obj) : OwnC 22 1 recK ((W.alloc o).alloc (.cells #[] 22)) 0 (.slice (some ⟨W.heap.size + 1, 0, none⟩) 0 0) [] := by
  have h := OwnC.empV (W.alloc o)
  rwa [World.size_alloc] at h
def WithPost (w : World) (u : Hv) (D : Option Addr) (c : Nat) (bs : List Nat) (e : Ending) (w' : World) : Prop := ∃ An cn, e = .returned (.agg #[.slice u.a7 u.snap.length u.c7, .slice An (u.rs.length + 1) cn]) ∧ OwnC 22 1 recK w' 0 (.slice An (u.rs.length + 1) cn) (u.rs ++ [⟨D, c, bs⟩]) ∧ (∀ k, (Value.slice An (u.rs.length + 1) cn).ownBlock = some k → w.heap.size ≤ k) ∧ Below w.heap.size w w'
set_option maxRecDepth 100000 in
set_option maxHeartbeats 8000000 in
theorem with_any (u : Hv) (hu : u.rs.length ≤ 1000) (D : Option Addr) (n c : Nat) (bs : List Nat) (hbs : bs.length = n) (w : World) (h : LsAt w u.a9 u.rs) :
    Calls Try.prog 21 #[.agg u.cells, .slice D n c] w (WithPost w u D c bs) := by
  have r2 : row ((w.alloc (.cells u.cells 58)).alloc (.cells #[.slice none 0 0, .slice none 0 0] 58)) w.heap.size = some u.cells := (by (repeat (first | assumption | (refine row_at _ _ _ _ ?_; first | rfl | (simp only [World.size_alloc]; done) | (simp only [World.size_alloc]; omega)) | (refine (row_past _ _ _ ?_).trans ?_; (focus (first | exact Nat.lt_succ_self _ | ((repeat rw [World.size_alloc]); omega) | (simp; done) | (simp; omega) | omega))) | rw [row_drewN] | rw [row_drew])); (first | done | fail))
  have r3 : row ((w.alloc (.cells u.cells 58)).alloc (.cells #[.slice none 0 0, .slice none 0 0] 58)) (w.heap.size + 1) = some #[.slice none 0 0, .slice none 0 0] := (by (repeat (first | assumption | (refine row_at _ _ _ _ ?_; first | rfl | (simp only [World.size_alloc]; done) | (simp only [World.size_alloc]; omega)) | (refine (row_past _ _ _ ?_).trans ?_; (focus (first | exact Nat.lt_succ_self _ | ((repeat rw [World.size_alloc]); omega) | (simp; done) | (simp; omega) | omega))) | rw [row_drewN] | rw [row_drew])); (first | done | fail))
  have hb0 : Below w.heap.size w ((w.alloc (.cells u.cells 58)).alloc (.cells #[.slice none 0 0, .slice none 0 0] 58)) := (by (repeat (first | exact Below.refl _ _ | assumption | (refine Below.allocT ?_ _) | refine Below.drew ?_ | refine below_drewN ?_ _ | (refine Below.then ?_ (by assumption)) | (refine Below.setRow ?_ ?_ _; rotate_left; (focus (first | exact Nat.lt_succ_self _ | ((repeat rw [World.size_alloc]); omega) | (simp; done) | (simp; omega) | omega))) | (refine Below.setCell ?_ ?_ _; rotate_left; (focus (first | exact Nat.lt_succ_self _ | ((repeat rw [World.size_alloc]); omega) | (simp; done) | (simp; omega) | omega))) | (refine Below.then' ?_ (by assumption) ?_; rotate_left; (focus (first | exact Nat.lt_succ_self _ | ((repeat rw [World.size_alloc]); omega) | (simp; done) | (simp; omega) | omega))) | fail)); (first | done | fail))
  obtain ⟨m, hm⟩ : ∃ m, m = u.rs.length := ⟨_, rfl⟩
  obtain ⟨k7, hk7⟩ : ∃ k, k = u.snap.length := ⟨_, rfl⟩
  have HMm : Hid (u.rs.length = m) := Lib.hid hm.symm
  have HK7 : Hid (u.snap.length = k7) := Lib.hid hk7.symm
  have HN := Lib.hid hbs
  rw [← hm] at hu
  clear hbs hm hk7
  go_enter Try.func21, Try.ntmps21
  go_upto_region 1 with fail
  generalize (w.alloc (.cells u.cells 58)).alloc (.cells #[.slice none 0 0, .slice none 0 0] 58) = w0 at *
  have HM : Hid (∀ W, Below w0.heap.size w0 W → W.cell? ⟨w.heap.size, 0, none⟩ = some (.slice u.a7 k7 u.c7) ∧ W.cell? ⟨w.heap.size, 1, none⟩ = some (.slice u.a9 m u.c9) ∧ (row W (w.heap.size + 1)).map (·.size) = some 2) := Lib.hid fun W hb => by
    have hr := (row_below hb (row_lt r2)).trans r2
    have hq := (row_below hb (row_lt r3)).trans r3
    exact ⟨(row_cell hr 0).trans (by rw [← HK7.out]; rfl), (row_cell hr 1).trans (by rw [← HMm.out]; rfl), by rw [hq]; rfl⟩
  have HML : Hid (∀ W a b, Below w0.heap.size w0 W → ((W.setCell ⟨w.heap.size + 1, 0, none⟩ a).setCell ⟨w.heap.size + 1, 1, none⟩ b).cell? ⟨w.heap.size, 0, none⟩ = some (.slice u.a7 k7 u.c7) ∧ ((W.setCell ⟨w.heap.size + 1, 0, none⟩ a).setCell ⟨w.heap.size + 1, 1, none⟩ b).cell? ⟨w.heap.size, 1, none⟩ = some (.slice u.a9 m u.c9) ∧ (row ((W.setCell ⟨w.heap.size + 1, 0, none⟩ a).setCell ⟨w.heap.size + 1, 1, none⟩ b) (w.heap.size + 1)).map (·.size) = some 2) := Lib.hid fun W a b hb => by
    have hr := (Chg.row (((Chg.refl (only (w.heap.size + 1)) W).setCell (p := ⟨w.heap.size + 1, 0, none⟩) (.inl rfl) a).setCell (p := ⟨w.heap.size + 1, 1, none⟩) (.inl rfl) b) (row_lt ((row_below hb (row_lt r2)).trans r2)) (fun e => by have e' : w.heap.size = w.heap.size + 1 := e; omega)).trans ((row_below hb (row_lt r2)).trans r2)
    have hq := row_set (row_set ((row_below hb (row_lt r3)).trans r3) 0 a) 1 b
    exact ⟨(row_cell hr 0).trans (by rw [← HK7.out]; rfl), (row_cell hr 1).trans (by rw [← HMm.out]; rfl), by rw [hq]; rfl⟩
  have hRw : Hid (∀ W, Below w0.heap.size w0 W → row W (w.heap.size + 1) = some #[.slice none 0 0, .slice none 0 0]) := Lib.hid fun W hb => (row_below hb (row_lt r3)).trans r3
  have HLs : Hid (∀ W, Below w0.heap.size w0 W → SliceOf 1 recK W u.a9 u.rs) := Lib.hid fun W hb => ((h.stay hb0).stay hb).sl
  have HPost : Hid (∀ A6 c6 w6, OwnC 22 1 recK w6 0 (.slice A6 (m + 1) c6) (u.rs ++ [⟨D, c, bs⟩]) → Below w0.heap.size w0 w6 → (∀ k, (Value.slice A6 (m + 1) c6).ownBlock = some k → w0.heap.size ≤ k) → WithPost w u D c bs (.returned (.agg #[.slice u.a7 k7 u.c7, .slice A6 (m + 1) c6])) ((w6.setCell ⟨w.heap.size + 1, 0, none⟩ (.slice u.a7 k7 u.c7)).setCell ⟨w.heap.size + 1, 1, none⟩ (.slice A6 (m + 1) c6))) := Lib.hid fun A6 c6 w6 ho hb hn => by
    have hl3 := row_lt r3
    refine ⟨A6, c6, by rw [HMm.out, HK7.out], ?_, ?_, Below.setCell (Below.setCell (Below.then hb0 hb) (p := ⟨w.heap.size + 1, 0, none⟩) (Nat.le_succ _) _) (p := ⟨w.heap.size + 1, 1, none⟩) (Nat.le_succ _) _⟩
    · rw [HMm.out]
      exact ho.chg (((Chg.refl (only (w.heap.size + 1)) w6).setCell (p := ⟨w.heap.size + 1, 0, none⟩) (.inl rfl) _).setCell (p := ⟨w.heap.size + 1, 1, none⟩) (.inl rfl) _) (fun k hk e => by have h1 := hn k hk; have e' : k = w.heap.size + 1 := e; omega)
    · rw [HMm.out]
      exact fun k hk => Nat.le_trans hb0.size (hn k hk)
  clear r2 r3 hb0 h
  refine wp_region_held_drew (S := (fun W => W.cell? ⟨w.heap.size, 0, none⟩ = some (.slice u.a7 k7 u.c7) ∧ W.cell? ⟨w.heap.size, 1, none⟩ = some (.slice u.a9 m u.c9) ∧ (row W (w.heap.size + 1)).map (·.size) = some 2)) (by kernel_rfl) ?_ (fun hHeld => ?_)
  focus ((try dsimp only); exact HM.out _ (by (repeat (first | exact Below.refl _ _ | assumption | (refine Below.allocT ?_ _) | refine Below.drew ?_ | refine below_drewN ?_ _ | (refine Below.then ?_ (by assumption)) | (refine Below.setRow ?_ ?_ _; rotate_left; (focus (first | exact Nat.lt_succ_self _ | ((repeat rw [World.size_alloc]); omega) | (simp; done) | (simp; omega) | omega))) | (refine Below.setCell ?_ ?_ _; rotate_left; (focus (first | exact Nat.lt_succ_self _ | ((repeat rw [World.size_alloc]); omega) | (simp; done) | (simp; omega) | omega))) | (refine Below.then' ?_ (by assumption) ?_; rotate_left; (focus (first | exact Nat.lt_succ_self _ | ((repeat rw [World.size_alloc]); omega) | (simp; done) | (simp; omega) | omega))) | fail)); (first | done | fail)))
  refine wpAnyH_take (i := 0) (oi := _) (v := ?_) rfl (by kernel_rfl) (by kernel_rfl) (by kernel_rfl) (fun _ _ _ h => h) (Or.inl ⟨by rfl, ?_⟩) (by assumption) ?_
  rotate_left
  focus (intro w hSw; (try dsimp only at hSw); go_simp; first | done | with_reducible rfl)
  try simp only [List.getElem_toArray, List.getElem_cons_zero, Act.put, List.setIfInBounds_toArray, List.set_cons_zero, List.set_cons_succ]
  refine wpAnyH_take (i := 1) (oi := _) (v := ?_) rfl (by kernel_rfl) (by kernel_rfl) (by kernel_rfl) (fun _ _ _ h => h) (Or.inl ⟨by rfl, ?_⟩) (by assumption) ?_
  rotate_left
  focus (intro w hSw; (try dsimp only at hSw); go_simp; first | done | with_reducible rfl)
  try simp only [List.getElem_toArray, List.getElem_cons_zero, List.getElem_cons_succ, Act.put, List.setIfInBounds_toArray, List.set_cons_zero, List.set_cons_succ]
  refine wpAnyH_take (i := 3) (oi := _) (v := ?_) rfl (by kernel_rfl) (by kernel_rfl) (by kernel_rfl) (fun _ _ _ h => h) (Or.inl ⟨by rfl, ?_⟩) (by assumption) ?_
  rotate_left
  focus (intro w hSw; (try dsimp only at hSw); go_simp; first | done | with_reducible rfl)
  try simp only [List.getElem_toArray, List.getElem_cons_zero, List.getElem_cons_succ, Act.put, List.setIfInBounds_toArray, List.set_cons_zero, List.set_cons_succ]
  refine wpAnyH_take (i := 4) (oi := _) (v := ?_) rfl (by kernel_rfl) (by kernel_rfl) (by kernel_rfl) (fun _ _ _ h => h) (Or.inl ⟨by rfl, ?_⟩) (by assumption) ?_
  rotate_left
  focus (intro w hSw; (try dsimp only at hSw); go_simp; first | done | with_reducible rfl)
  try simp only [List.getElem_toArray, List.getElem_cons_zero, List.getElem_cons_succ, Act.put, List.setIfInBounds_toArray, List.set_cons_zero, List.set_cons_succ]
  refine wpAnyH_take (i := 6) (oi := _) (v := ?_) rfl (by kernel_rfl) (by kernel_rfl) (by kernel_rfl) (fun _ _ _ h => h) (Or.inl ⟨by rfl, ?_⟩) (by assumption) ?_
  rotate_left
  focus (intro w hSw; (try dsimp only at hSw); go_simp; first | done | with_reducible rfl)
  try simp only [List.getElem_toArray, List.getElem_cons_zero, List.getElem_cons_succ, Act.put, List.setIfInBounds_toArray, List.set_cons_zero, List.set_cons_succ]
  refine wpAnyH_ready (rs := [2, 7]) (by kernel_rfl) (by simp) ?_
  refine AllReadyH.cons (o := _) rfl (fun K hK => ?_) (AllReadyH.cons (o := _) rfl (fun K hK => ?_) AllReadyH.nil)
  · go_simp
    refine hK.out _ _ ?_ (fun hHeld => ?_)
    focus ((try dsimp only); exact HM.out _ (by (repeat (first | exact Below.refl _ _ | assumption | (refine Below.allocT ?_ _) | refine Below.drew ?_ | refine below_drewN ?_ _ | (refine Below.then ?_ (by assumption)) | (refine Below.setRow ?_ ?_ _; rotate_left; (focus (first | exact Nat.lt_succ_self _ | ((repeat rw [World.size_alloc]); omega) | (simp; done) | (simp; omega) | omega))) | (refine Below.setCell ?_ ?_ _; rotate_left; (focus (first | exact Nat.lt_succ_self _ | ((repeat rw [World.size_alloc]); omega) | (simp; done) | (simp; omega) | omega))) | (refine Below.then' ?_ (by assumption) ?_; rotate_left; (focus (first | exact Nat.lt_succ_self _ | ((repeat rw [World.size_alloc]); omega) | (simp; done) | (simp; omega) | omega))) | fail)); (first | done | fail)))
    clear hK K
    try simp only [List.getElem_toArray, List.getElem_cons_zero, List.getElem_cons_succ, Act.put, List.setIfInBounds_toArray, List.set_cons_zero, List.set_cons_succ]
    refine wpAnyH_ready (rs := [5, 7]) (by kernel_rfl) (by simp) ?_
    refine AllReadyH.cons (o := _) rfl (fun K hK => ?_) (AllReadyH.cons (o := _) rfl (fun K hK => ?_) AllReadyH.nil)
    · refine step_append_aV bss_under bs_info rfl (by decide) (by decide) recK_size recK_one rfl _ _ (by rfl) 0 _ [] u.rs u.a9 m u.c9 (by first | exact (OwnC.empV w0).stay (by (repeat (first | exact Below.refl _ _ | assumption | (refine Below.allocT ?_ _) | refine Below.drew ?_ | refine below_drewN ?_ _ | (refine Below.then ?_ (by assumption)) | (refine Below.setRow ?_ ?_ _; rotate_left; (focus (first | exact Nat.lt_succ_self _ | ((repeat rw [World.size_alloc]); omega) | (simp; done) | (simp; omega) | omega))) | (refine Below.setCell ?_ ?_ _; rotate_left; (focus (first | exact Nat.lt_succ_self _ | ((repeat rw [World.size_alloc]); omega) | (simp; done) | (simp; omega) | omega))) | (refine Below.then' ?_ (by assumption) ?_; rotate_left; (focus (first | exact Nat.lt_succ_self _ | ((repeat rw [World.size_alloc]); omega) | (simp; done) | (simp; omega) | omega))) | fail)); (first | done | fail)) | exact (OwnC.empV w0.drew).stay (by (repeat (first | exact Below.refl _ _ | assumption | (refine Below.allocT ?_ _) | refine Below.drew ?_ | refine below_drewN ?_ _ | (refine Below.then ?_ (by assumption)) | (refine Below.setRow ?_ ?_ _; rotate_left; (focus (first | exact Nat.lt_succ_self _ | ((repeat rw [World.size_alloc]); omega) | (simp; done) | (simp; omega) | omega))) | (refine Below.setCell ?_ ?_ _; rotate_left; (focus (first | exact Nat.lt_succ_self _ | ((repeat rw [World.size_alloc]); omega) | (simp; done) | (simp; omega) | omega))) | (refine Below.then' ?_ (by assumption) ?_; rotate_left; (focus (first | exact Nat.lt_succ_self _ | ((repeat rw [World.size_alloc]); omega) | (simp; done) | (simp; omega) | omega))) | fail)); (first | done | fail))) (HLs.out _ (by (repeat (first | exact Below.refl _ _ | assumption | (refine Below.allocT ?_ _) | refine Below.drew ?_ | refine below_drewN ?_ _ | (refine Below.then ?_ (by assumption)) | (refine Below.setRow ?_ ?_ _; rotate_left; (focus (first | exact Nat.lt_succ_self _ | ((repeat rw [World.size_alloc]); omega) | (simp; done) | (simp; omega) | omega))) | (refine Below.setCell ?_ ?_ _; rotate_left; (focus (first | exact Nat.lt_succ_self _ | ((repeat rw [World.size_alloc]); omega) | (simp; done) | (simp; omega) | omega))) | (refine Below.then' ?_ (by assumption) ?_; rotate_left; (focus (first | exact Nat.lt_succ_self _ | ((repeat rw [World.size_alloc]); omega) | (simp; done) | (simp; omega) | omega))) | fail)); (first | done | fail))) (by rfl) (by rfl) HMm.out (by rw [HMm.out, List.length_nil]; omega) (Nat.zero_le _) ?_
      intro v4 w4 hA4
      obtain ⟨A4, c4, hv4⟩ := hA4.form (k := m) (by rw [HMm.out, List.length_nil, Nat.zero_add])
      subst hv4
      have hb4 : Below w0.heap.size w0 w4 := Below.trans (show Below w0.heap.size w0 _ from (by (repeat (first | exact Below.refl _ _ | assumption | (refine Below.allocT ?_ _) | refine Below.drew ?_ | refine below_drewN ?_ _ | (refine Below.then ?_ (by assumption)) | (refine Below.setRow ?_ ?_ _; rotate_left; (focus (first | exact Nat.lt_succ_self _ | ((repeat rw [World.size_alloc]); omega) | (simp; done) | (simp; omega) | omega))) | (refine Below.setCell ?_ ?_ _; rotate_left; (focus (first | exact Nat.lt_succ_self _ | ((repeat rw [World.size_alloc]); omega) | (simp; done) | (simp; omega) | omega))) | (refine Below.then' ?_ (by assumption) ?_; rotate_left; (focus (first | exact Nat.lt_succ_self _ | ((repeat rw [World.size_alloc]); omega) | (simp; done) | (simp; omega) | omega))) | fail)); (first | done | fail))) (Chg.toBelow hA4.chg (fun k hk => by cases hk; first | exact Nat.le_refl _ | exact Nat.le_succ _) (by simp <;> omega))
      have hn4 : ∀ k, (Value.slice A4 m c4).ownBlock = some k → w0.heap.size ≤ k := fun k hk => by
        rcases hA4.2.2 with q | q
        · have h1 := q.symm.trans hk; cases h1; first | exact Nat.le_refl _ | exact Nat.le_succ _
        · have h1 := q.symm.trans hk; cases h1; simp <;> omega
      have ho4 : OwnC 22 1 recK w4 0 (.slice A4 m c4) u.rs := by have h := hA4.1; rwa [List.nil_append] at h
      clear hA4
      refine hK.out _ _ ?_ (fun hHeld => ?_)
      focus ((try dsimp only); exact HM.out _ (by (repeat (first | exact Below.refl _ _ | assumption | (refine Below.allocT ?_ _) | refine Below.drew ?_ | refine below_drewN ?_ _ | (refine Below.then ?_ (by assumption)) | (refine Below.setRow ?_ ?_ _; rotate_left; (focus (first | exact Nat.lt_succ_self _ | ((repeat rw [World.size_alloc]); omega) | (simp; done) | (simp; omega) | omega))) | (refine Below.setCell ?_ ?_ _; rotate_left; (focus (first | exact Nat.lt_succ_self _ | ((repeat rw [World.size_alloc]); omega) | (simp; done) | (simp; omega) | omega))) | (refine Below.then' ?_ (by assumption) ?_; rotate_left; (focus (first | exact Nat.lt_succ_self _ | ((repeat rw [World.size_alloc]); omega) | (simp; done) | (simp; omega) | omega))) | fail)); (first | done | fail)))
      clear hK K
      try simp only [List.getElem_toArray, List.getElem_cons_zero, List.getElem_cons_succ, Act.put, List.setIfInBounds_toArray, List.set_cons_zero, List.set_cons_succ]
      refine wpAnyH_ready (rs := [7]) (by kernel_rfl) (by simp) ?_
      refine AllReadyH.cons (o := _) rfl (fun K hK => ?_) AllReadyH.nil
      go_simp
      refine hK.out _ _ ?_ (fun hHeld => ?_)
      focus ((try dsimp only); exact HM.out _ (by (repeat (first | exact Below.refl _ _ | assumption | (refine Below.allocT ?_ _) | refine Below.drew ?_ | refine below_drewN ?_ _ | (refine Below.then ?_ (by assumption)) | (refine Below.setRow ?_ ?_ _; rotate_left; (focus (first | exact Nat.lt_succ_self _ | ((repeat rw [World.size_alloc]); omega) | (simp; done) | (simp; omega) | omega))) | (refine Below.setCell ?_ ?_ _; rotate_left; (focus (first | exact Nat.lt_succ_self _ | ((repeat rw [World.size_alloc]); omega) | (simp; done) | (simp; omega) | omega))) | (refine Below.then' ?_ (by assumption) ?_; rotate_left; (focus (first | exact Nat.lt_succ_self _ | ((repeat rw [World.size_alloc]); omega) | (simp; done) | (simp; omega) | omega))) | fail)); (first | done | fail)))
      clear hK K
      try simp only [List.getElem_toArray, List.getElem_cons_zero, List.getElem_cons_succ, Act.put, List.setIfInBounds_toArray, List.set_cons_zero, List.set_cons_succ]
      refine wpAnyH_ready (rs := [8]) (by kernel_rfl) (by simp) ?_
      refine AllReadyH.cons (o := _) rfl (fun K hK => ?_) AllReadyH.nil
      refine step_append_d bss_under bs_info rfl (by decide) (by decide) recK_size recK_one rfl _ _ (by rfl) 0 (.slice A4 m c4) u.rs (by rfl) (ho4.stay (by (repeat (first | exact Below.refl _ _ | assumption | (refine Below.allocT ?_ _) | refine Below.drew ?_ | refine below_drewN ?_ _ | (refine Below.then ?_ (by assumption)) | (refine Below.setRow ?_ ?_ _; rotate_left; (focus (first | exact Nat.lt_succ_self _ | ((repeat rw [World.size_alloc]); omega) | (simp; done) | (simp; omega) | omega))) | (refine Below.setCell ?_ ?_ _; rotate_left; (focus (first | exact Nat.lt_succ_self _ | ((repeat rw [World.size_alloc]); omega) | (simp; done) | (simp; omega) | omega))) | (refine Below.then' ?_ (by assumption) ?_; rotate_left; (focus (first | exact Nat.lt_succ_self _ | ((repeat rw [World.size_alloc]); omega) | (simp; done) | (simp; omega) | omega))) | fail)); (first | done | fail))) w4.heap.size 1 ⟨D, c, bs⟩ (by rfl) (((by (repeat (first | assumption | (refine row_at _ _ _ _ ?_; first | rfl | (simp only [World.size_alloc]; done) | (simp only [World.size_alloc]; omega)) | (refine (row_past _ _ _ ?_).trans ?_; (focus (first | exact Nat.lt_succ_self _ | ((repeat rw [World.size_alloc]); omega) | (simp; done) | (simp; omega) | omega))) | rw [row_drewN] | rw [row_drew])); (first | done | fail)) : row _ w4.heap.size = some #[.slice D n c]).trans (by rw [← HN.out]; rfl)) m HMm.out (by rw [HMm.out]; omega) (Nat.zero_le _) ?_
      intro A6 c6 w6 hO6 hg6 hor6
      have hb6 : Below w0.heap.size w0 w6 := Below.grown (show Below w0.heap.size w0 _ from (by (repeat (first | exact Below.refl _ _ | assumption | (refine Below.allocT ?_ _) | refine Below.drew ?_ | refine below_drewN ?_ _ | (refine Below.then ?_ (by assumption)) | (refine Below.setRow ?_ ?_ _; rotate_left; (focus (first | exact Nat.lt_succ_self _ | ((repeat rw [World.size_alloc]); omega) | (simp; done) | (simp; omega) | omega))) | (refine Below.setCell ?_ ?_ _; rotate_left; (focus (first | exact Nat.lt_succ_self _ | ((repeat rw [World.size_alloc]); omega) | (simp; done) | (simp; omega) | omega))) | (refine Below.then' ?_ (by assumption) ?_; rotate_left; (focus (first | exact Nat.lt_succ_self _ | ((repeat rw [World.size_alloc]); omega) | (simp; done) | (simp; omega) | omega))) | fail)); (first | done | fail))) hg6 (by have := hb4.size; simp <;> omega) (fun k hk => hn4 k hk)
      have hn6 : ∀ k, (Value.slice A6 (m + 1) c6).ownBlock = some k → w0.heap.size ≤ k := fun k hk => by
        rcases hor6 with q | q
        · exact hn4 k (q.symm.trans hk)
        · have h1 := q.symm.trans hk; have h2 := hb4.size; cases h1; simp <;> omega
      refine hK.out _ _ ?_ (fun hHeld => ?_)
      focus ((try dsimp only); exact HM.out _ (by (repeat (first | exact Below.refl _ _ | assumption | (refine Below.allocT ?_ _) | refine Below.drew ?_ | refine below_drewN ?_ _ | (refine Below.then ?_ (by assumption)) | (refine Below.setRow ?_ ?_ _; rotate_left; (focus (first | exact Nat.lt_succ_self _ | ((repeat rw [World.size_alloc]); omega) | (simp; done) | (simp; omega) | omega))) | (refine Below.setCell ?_ ?_ _; rotate_left; (focus (first | exact Nat.lt_succ_self _ | ((repeat rw [World.size_alloc]); omega) | (simp; done) | (simp; omega) | omega))) | (refine Below.then' ?_ (by assumption) ?_; rotate_left; (focus (first | exact Nat.lt_succ_self _ | ((repeat rw [World.size_alloc]); omega) | (simp; done) | (simp; omega) | omega))) | fail)); (first | done | fail)))
      clear hK K
      try simp only [List.getElem_toArray, List.getElem_cons_zero, List.getElem_cons_succ, Act.put, List.setIfInBounds_toArray, List.set_cons_zero, List.set_cons_succ]
      refine wpAnyH_take (i := 9) (oi := _) (v := ?_) rfl (by kernel_rfl) (by kernel_rfl) (by kernel_rfl) (fun _ _ _ h => h) (Or.inl ⟨by rfl, ?_⟩) (by assumption) ?_
      rotate_left
      focus (intro w hSw; (try dsimp only at hSw); go_simp; first | done | with_reducible rfl)
      try simp only [List.getElem_toArray, List.getElem_cons_zero, List.getElem_cons_succ, Act.put, List.setIfInBounds_toArray, List.set_cons_zero, List.set_cons_succ]
      refine wpAnyH_ready (rs := [10]) (by kernel_rfl) (by simp) ?_
      refine AllReadyH.cons (o := _) rfl (fun K hK => ?_) AllReadyH.nil
      have hq10 := hRw.out w6 hb6
      have k10 : w6.cell? ⟨w.heap.size + 1, 0, none⟩ = some (.slice none 0 0) := row_cell hq10 0
      have k11 : w6.cell? ⟨w.heap.size + 1, 1, none⟩ = some (.slice none 0 0) := row_cell hq10 1
      have f10 := row_frozen hq10 0
      have f11 := row_frozen hq10 1
      go_simp
      refine hK.out _ _ ?_ (fun hHeld => ?_)
      focus ((try dsimp only); exact HML.out _ _ _ (by (repeat (first | exact Below.refl _ _ | assumption | (refine Below.allocT ?_ _) | refine Below.drew ?_ | refine below_drewN ?_ _ | (refine Below.then ?_ (by assumption)) | (refine Below.setRow ?_ ?_ _; rotate_left; (focus (first | exact Nat.lt_succ_self _ | ((repeat rw [World.size_alloc]); omega) | (simp; done) | (simp; omega) | omega))) | (refine Below.setCell ?_ ?_ _; rotate_left; (focus (first | exact Nat.lt_succ_self _ | ((repeat rw [World.size_alloc]); omega) | (simp; done) | (simp; omega) | omega))) | (refine Below.then' ?_ (by assumption) ?_; rotate_left; (focus (first | exact Nat.lt_succ_self _ | ((repeat rw [World.size_alloc]); omega) | (simp; done) | (simp; omega) | omega))) | fail)); (first | done | fail)))
      clear hK K
      try simp only [List.getElem_toArray, List.getElem_cons_zero, List.getElem_cons_succ, Act.put, List.setIfInBounds_toArray, List.set_cons_zero, List.set_cons_succ]
      refine wpAnyH_done (by kernel_rfl) ?_ _
      have HFin := Lib.hid (And.intro hO6 (And.intro hb6 hn6))
      clear hO6 hb6 hn6 hb4 hn4 ho4
      go_wp2_with fail
      obtain ⟨t, htt⟩ := row_heap ((row_set (row_set (hRw.out _ HFin.out.2.1) 0 (.slice u.a7 k7 u.c7)) 1 (.slice A6 (m + 1) c6)).trans (show _ = some #[.slice u.a7 k7 u.c7, .slice A6 (m + 1) c6] from rfl))
      exact bodyPost_ret (v := .agg #[.slice u.a7 k7 u.c7, .slice A6 (m + 1) c6]) (results_cell_row Try.results21 _ _ (w.heap.size + 1) t #[.slice u.a7 k7 u.c7, .slice A6 (m + 1) c6] (0, 0) _ rfl htt hl_under rfl hl_info) rfl (HPost.out A6 c6 w6 HFin.out.1 HFin.out.2.1 HFin.out.2.2)
    · go_simp
      refine hK.out _ _ ?_ (fun hHeld => ?_)
      focus ((try dsimp only); exact HM.out _ (by (repeat (first | exact Below.refl _ _ | assumption | (refine Below.allocT ?_ _) | refine Below.drew ?_ | refine below_drewN ?_ _ | (refine Below.then ?_ (by assumption)) | (refine Below.setRow ?_ ?_ _; rotate_left; (focus (first | exact Nat.lt_succ_self _ | ((repeat rw [World.size_alloc]); omega) | (simp; done) | (simp; omega) | omega))) | (refine Below.setCell ?_ ?_ _; rotate_left; (focus (first | exact Nat.lt_succ_self _ | ((repeat rw [World.size_alloc]); omega) | (simp; done) | (simp; omega) | omega))) | (refine Below.then' ?_ (by assumption) ?_; rotate_left; (focus (first | exact Nat.lt_succ_self _ | ((repeat rw [World.size_alloc]); omega) | (simp; done) | (simp; omega) | omega))) | fail)); (first | done | fail)))
      clear hK K
      try simp only [List.getElem_toArray, List.getElem_cons_zero, List.getElem_cons_succ, Act.put, List.setIfInBounds_toArray, List.set_cons_zero, List.set_cons_succ]
      refine wpAnyH_ready (rs := [5]) (by kernel_rfl) (by simp) ?_
      refine AllReadyH.cons (o := _) rfl (fun K hK => ?_) AllReadyH.nil
      refine step_append_aV bss_under bs_info rfl (by decide) (by decide) recK_size recK_one rfl _ _ (by rfl) 0 _ [] u.rs u.a9 m u.c9 (by first | exact (OwnC.empV w0).stay (by (repeat (first | exact Below.refl _ _ | assumption | (refine Below.allocT ?_ _) | refine Below.drew ?_ | refine below_drewN ?_ _ | (refine Below.then ?_ (by assumption)) | (refine Below.setRow ?_ ?_ _; rotate_left; (focus (first | exact Nat.lt_succ_self _ | ((repeat rw [World.size_alloc]); omega) | (simp; done) | (simp; omega) | omega))) | (refine Below.setCell ?_ ?_ _; rotate_left; (focus (first | exact Nat.lt_succ_self _ | ((repeat rw [World.size_alloc]); omega) | (simp; done) | (simp; omega) | omega))) | (refine Below.then' ?_ (by assumption) ?_; rotate_left; (focus (first | exact Nat.lt_succ_self _ | ((repeat rw [World.size_alloc]); omega) | (simp; done) | (simp; omega) | omega))) | fail)); (first | done | fail)) | exact (OwnC.empV w0.drew).stay (by (repeat (first | exact Below.refl _ _ | assumption | (refine Below.allocT ?_ _) | refine Below.drew ?_ | refine below_drewN ?_ _ | (refine Below.then ?_ (by assumption)) | (refine Below.setRow ?_ ?_ _; rotate_left; (focus (first | exact Nat.lt_succ_self _ | ((repeat rw [World.size_alloc]); omega) | (simp; done) | (simp; omega) | omega))) | (refine Below.setCell ?_ ?_ _; rotate_left; (focus (first | exact Nat.lt_succ_self _ | ((repeat rw [World.size_alloc]); omega) | (simp; done) | (simp; omega) | omega))) | (refine Below.then' ?_ (by assumption) ?_; rotate_left; (focus (first | exact Nat.lt_succ_self _ | ((repeat rw [World.size_alloc]); omega) | (simp; done) | (simp; omega) | omega))) | fail)); (first | done | fail))) (HLs.out _ (by (repeat (first | exact Below.refl _ _ | assumption | (refine Below.allocT ?_ _) | refine Below.drew ?_ | refine below_drewN ?_ _ | (refine Below.then ?_ (by assumption)) | (refine Below.setRow ?_ ?_ _; rotate_left; (focus (first | exact Nat.lt_succ_self _ | ((repeat rw [World.size_alloc]); omega) | (simp; done) | (simp; omega) | omega))) | (refine Below.setCell ?_ ?_ _; rotate_left; (focus (first | exact Nat.lt_succ_self _ | ((repeat rw [World.size_alloc]); omega) | (simp; done) | (simp; omega) | omega))) | (refine Below.then' ?_ (by assumption) ?_; rotate_left; (focus (first | exact Nat.lt_succ_self _ | ((repeat rw [World.size_alloc]); omega) | (simp; done) | (simp; omega) | omega))) | fail)); (first | done | fail))) (by rfl) (by rfl) HMm.out (by rw [HMm.out, List.length_nil]; omega) (Nat.zero_le _) ?_
      intro v4 w4 hA4
      obtain ⟨A4, c4, hv4⟩ := hA4.form (k := m) (by rw [HMm.out, List.length_nil, Nat.zero_add])
      subst hv4
      have hb4 : Below w0.heap.size w0 w4 := Below.trans (show Below w0.heap.size w0 _ from (by (repeat (first | exact Below.refl _ _ | assumption | (refine Below.allocT ?_ _) | refine Below.drew ?_ | refine below_drewN ?_ _ | (refine Below.then ?_ (by assumption)) | (refine Below.setRow ?_ ?_ _; rotate_left; (focus (first | exact Nat.lt_succ_self _ | ((repeat rw [World.size_alloc]); omega) | (simp; done) | (simp; omega) | omega))) | (refine Below.setCell ?_ ?_ _; rotate_left; (focus (first | exact Nat.lt_succ_self _ | ((repeat rw [World.size_alloc]); omega) | (simp; done) | (simp; omega) | omega))) | (refine Below.then' ?_ (by assumption) ?_; rotate_left; (focus (first | exact Nat.lt_succ_self _ | ((repeat rw [World.size_alloc]); omega) | (simp; done) | (simp; omega) | omega))) | fail)); (first | done | fail))) (Chg.toBelow hA4.chg (fun k hk => by cases hk; first | exact Nat.le_refl _ | exact Nat.le_succ _) (by simp <;> omega))
      have hn4 : ∀ k, (Value.slice A4 m c4).ownBlock = some k → w0.heap.size ≤ k := fun k hk => by
        rcases hA4.2.2 with q | q
        · have h1 := q.symm.trans hk; cases h1; first | exact Nat.le_refl _ | exact Nat.le_succ _
        · have h1 := q.symm.trans hk; cases h1; simp <;> omega
      have ho4 : OwnC 22 1 recK w4 0 (.slice A4 m c4) u.rs := by have h := hA4.1; rwa [List.nil_append] at h
      have rR : row w4 (w0.heap.size + 1) = some (recK ⟨D, c, bs⟩) := (row_grown' hA4.2.1 (by simp <;> omega) (by simp [Value.ownBlock] <;> omega)).trans (((by (repeat (first | assumption | (refine row_at _ _ _ _ ?_; first | rfl | (simp only [World.size_alloc]; done) | (simp only [World.size_alloc]; omega)) | (refine (row_past _ _ _ ?_).trans ?_; (focus (first | exact Nat.lt_succ_self _ | ((repeat rw [World.size_alloc]); omega) | (simp; done) | (simp; omega) | omega))) | rw [row_drewN] | rw [row_drew])); (first | done | fail)) : row _ (w0.heap.size + 1) = some #[.slice D n c]).trans (by rw [← HN.out]; rfl))
      clear hA4
      refine hK.out _ _ ?_ (fun hHeld => ?_)
      focus ((try dsimp only); exact HM.out _ (by (repeat (first | exact Below.refl _ _ | assumption | (refine Below.allocT ?_ _) | refine Below.drew ?_ | refine below_drewN ?_ _ | (refine Below.then ?_ (by assumption)) | (refine Below.setRow ?_ ?_ _; rotate_left; (focus (first | exact Nat.lt_succ_self _ | ((repeat rw [World.size_alloc]); omega) | (simp; done) | (simp; omega) | omega))) | (refine Below.setCell ?_ ?_ _; rotate_left; (focus (first | exact Nat.lt_succ_self _ | ((repeat rw [World.size_alloc]); omega) | (simp; done) | (simp; omega) | omega))) | (refine Below.then' ?_ (by assumption) ?_; rotate_left; (focus (first | exact Nat.lt_succ_self _ | ((repeat rw [World.size_alloc]); omega) | (simp; done) | (simp; omega) | omega))) | fail)); (first | done | fail)))
      clear hK K
      try simp only [List.getElem_toArray, List.getElem_cons_zero, List.getElem_cons_succ, Act.put, List.setIfInBounds_toArray, List.set_cons_zero, List.set_cons_succ]
      refine wpAnyH_ready (rs := [8]) (by kernel_rfl) (by simp) ?_
      refine AllReadyH.cons (o := _) rfl (fun K hK => ?_) AllReadyH.nil
      refine step_append_d bss_under bs_info rfl (by decide) (by decide) recK_size recK_one rfl _ _ (by rfl) 0 (.slice A4 m c4) u.rs (by rfl) ho4 (w0.heap.size + 1) 1 ⟨D, c, bs⟩ (by rfl) rR m HMm.out (by rw [HMm.out]; omega) (Nat.zero_le _) ?_
      intro A6 c6 w6 hO6 hg6 hor6
      have hb6 : Below w0.heap.size w0 w6 := Below.grown (show Below w0.heap.size w0 _ from (by (repeat (first | exact Below.refl _ _ | assumption | (refine Below.allocT ?_ _) | refine Below.drew ?_ | refine below_drewN ?_ _ | (refine Below.then ?_ (by assumption)) | (refine Below.setRow ?_ ?_ _; rotate_left; (focus (first | exact Nat.lt_succ_self _ | ((repeat rw [World.size_alloc]); omega) | (simp; done) | (simp; omega) | omega))) | (refine Below.setCell ?_ ?_ _; rotate_left; (focus (first | exact Nat.lt_succ_self _ | ((repeat rw [World.size_alloc]); omega) | (simp; done) | (simp; omega) | omega))) | (refine Below.then' ?_ (by assumption) ?_; rotate_left; (focus (first | exact Nat.lt_succ_self _ | ((repeat rw [World.size_alloc]); omega) | (simp; done) | (simp; omega) | omega))) | fail)); (first | done | fail))) hg6 (by have := hb4.size; simp <;> omega) (fun k hk => hn4 k hk)
      have hn6 : ∀ k, (Value.slice A6 (m + 1) c6).ownBlock = some k → w0.heap.size ≤ k := fun k hk => by
        rcases hor6 with q | q
        · exact hn4 k (q.symm.trans hk)
        · have h1 := q.symm.trans hk; have h2 := hb4.size; cases h1; simp <;> omega
      refine hK.out _ _ ?_ (fun hHeld => ?_)
      focus ((try dsimp only); exact HM.out _ (by (repeat (first | exact Below.refl _ _ | assumption | (refine Below.allocT ?_ _) | refine Below.drew ?_ | refine below_drewN ?_ _ | (refine Below.then ?_ (by assumption)) | (refine Below.setRow ?_ ?_ _; rotate_left; (focus (first | exact Nat.lt_succ_self _ | ((repeat rw [World.size_alloc]); omega) | (simp; done) | (simp; omega) | omega))) | (refine Below.setCell ?_ ?_ _; rotate_left; (focus (first | exact Nat.lt_succ_self _ | ((repeat rw [World.size_alloc]); omega) | (simp; done) | (simp; omega) | omega))) | (refine Below.then' ?_ (by assumption) ?_; rotate_left; (focus (first | exact Nat.lt_succ_self _ | ((repeat rw [World.size_alloc]); omega) | (simp; done) | (simp; omega) | omega))) | fail)); (first | done | fail)))
      clear hK K
      try simp only [List.getElem_toArray, List.getElem_cons_zero, List.getElem_cons_succ, Act.put, List.setIfInBounds_toArray, List.set_cons_zero, List.set_cons_succ]
      refine wpAnyH_take (i := 9) (oi := _) (v := ?_) rfl (by kernel_rfl) (by kernel_rfl) (by kernel_rfl) (fun _ _ _ h => h) (Or.inl ⟨by rfl, ?_⟩) (by assumption) ?_
      rotate_left
      focus (intro w hSw; (try dsimp only at hSw); go_simp; first | done | with_reducible rfl)
      try simp only [List.getElem_toArray, List.getElem_cons_zero, List.getElem_cons_succ, Act.put, List.setIfInBounds_toArray, List.set_cons_zero, List.set_cons_succ]
      refine wpAnyH_ready (rs := [10]) (by kernel_rfl) (by simp) ?_
      refine AllReadyH.cons (o := _) rfl (fun K hK => ?_) AllReadyH.nil
      have hq10 := hRw.out w6 hb6
      have k10 : w6.cell? ⟨w.heap.size + 1, 0, none⟩ = some (.slice none 0 0) := row_cell hq10 0
      have k11 : w6.cell? ⟨w.heap.size + 1, 1, none⟩ = some (.slice none 0 0) := row_cell hq10 1
      have f10 := row_frozen hq10 0
      have f11 := row_frozen hq10 1
      go_simp
      refine hK.out _ _ ?_ (fun hHeld => ?_)
      focus ((try dsimp only); exact HML.out _ _ _ (by (repeat (first | exact Below.refl _ _ | assumption | (refine Below.allocT ?_ _) | refine Below.drew ?_ | refine below_drewN ?_ _ | (refine Below.then ?_ (by assumption)) | (refine Below.setRow ?_ ?_ _; rotate_left; (focus (first | exact Nat.lt_succ_self _ | ((repeat rw [World.size_alloc]); omega) | (simp; done) | (simp; omega) | omega))) | (refine Below.setCell ?_ ?_ _; rotate_left; (focus (first | exact Nat.lt_succ_self _ | ((repeat rw [World.size_alloc]); omega) | (simp; done) | (simp; omega) | omega))) | (refine Below.then' ?_ (by assumption) ?_; rotate_left; (focus (first | exact Nat.lt_succ_self _ | ((repeat rw [World.size_alloc]); omega) | (simp; done) | (simp; omega) | omega))) | fail)); (first | done | fail)))
      clear hK K
      try simp only [List.getElem_toArray, List.getElem_cons_zero, List.getElem_cons_succ, Act.put, List.setIfInBounds_toArray, List.set_cons_zero, List.set_cons_succ]
      refine wpAnyH_done (by kernel_rfl) ?_ _
      have HFin := Lib.hid (And.intro hO6 (And.intro hb6 hn6))
      clear hO6 hb6 hn6 hb4 hn4 ho4
      go_wp2_with fail
      obtain ⟨t, htt⟩ := row_heap ((row_set (row_set (hRw.out _ HFin.out.2.1) 0 (.slice u.a7 k7 u.c7)) 1 (.slice A6 (m + 1) c6)).trans (show _ = some #[.slice u.a7 k7 u.c7, .slice A6 (m + 1) c6] from rfl))
      exact bodyPost_ret (v := .agg #[.slice u.a7 k7 u.c7, .slice A6 (m + 1) c6]) (results_cell_row Try.results21 _ _ (w.heap.size + 1) t #[.slice u.a7 k7 u.c7, .slice A6 (m + 1) c6] (0, 0) _ rfl htt hl_under rfl hl_info) rfl (HPost.out A6 c6 w6 HFin.out.1 HFin.out.2.1 HFin.out.2.2)
  · go_simp
    refine hK.out _ _ ?_ (fun hHeld => ?_)
    focus ((try dsimp only); exact HM.out _ (by (repeat (first | exact Below.refl _ _ | assumption | (refine Below.allocT ?_ _) | refine Below.drew ?_ | refine below_drewN ?_ _ | (refine Below.then ?_ (by assumption)) | (refine Below.setRow ?_ ?_ _; rotate_left; (focus (first | exact Nat.lt_succ_self _ | ((repeat rw [World.size_alloc]); omega) | (simp; done) | (simp; omega) | omega))) | (refine Below.setCell ?_ ?_ _; rotate_left; (focus (first | exact Nat.lt_succ_self _ | ((repeat rw [World.size_alloc]); omega) | (simp; done) | (simp; omega) | omega))) | (refine Below.then' ?_ (by assumption) ?_; rotate_left; (focus (first | exact Nat.lt_succ_self _ | ((repeat rw [World.size_alloc]); omega) | (simp; done) | (simp; omega) | omega))) | fail)); (first | done | fail)))
    clear hK K
    try simp only [List.getElem_toArray, List.getElem_cons_zero, List.getElem_cons_succ, Act.put, List.setIfInBounds_toArray, List.set_cons_zero, List.set_cons_succ]
    refine wpAnyH_ready (rs := [2]) (by kernel_rfl) (by simp) ?_
    refine AllReadyH.cons (o := _) rfl (fun K hK => ?_) AllReadyH.nil
    go_simp
    refine hK.out _ _ ?_ (fun hHeld => ?_)
    focus ((try dsimp only); exact HM.out _ (by (repeat (first | exact Below.refl _ _ | assumption | (refine Below.allocT ?_ _) | refine Below.drew ?_ | refine below_drewN ?_ _ | (refine Below.then ?_ (by assumption)) | (refine Below.setRow ?_ ?_ _; rotate_left; (focus (first | exact Nat.lt_succ_self _ | ((repeat rw [World.size_alloc]); omega) | (simp; done) | (simp; omega) | omega))) | (refine Below.setCell ?_ ?_ _; rotate_left; (focus (first | exact Nat.lt_succ_self _ | ((repeat rw [World.size_alloc]); omega) | (simp; done) | (simp; omega) | omega))) | (refine Below.then' ?_ (by assumption) ?_; rotate_left; (focus (first | exact Nat.lt_succ_self _ | ((repeat rw [World.size_alloc]); omega) | (simp; done) | (simp; omega) | omega))) | fail)); (first | done | fail)))
    clear hK K
    try simp only [List.getElem_toArray, List.getElem_cons_zero, List.getElem_cons_succ, Act.put, List.setIfInBounds_toArray, List.set_cons_zero, List.set_cons_succ]
    refine wpAnyH_ready (rs := [5]) (by kernel_rfl) (by simp) ?_
    refine AllReadyH.cons (o := _) rfl (fun K hK => ?_) AllReadyH.nil
    refine step_append_aV bss_under bs_info rfl (by decide) (by decide) recK_size recK_one rfl _ _ (by rfl) 0 _ [] u.rs u.a9 m u.c9 (by first | exact (OwnC.empV1 w0 (.cells #[.slice D n c] 22)).stay (by (repeat (first | exact Below.refl _ _ | assumption | (refine Below.allocT ?_ _) | refine Below.drew ?_ | refine below_drewN ?_ _ | (refine Below.then ?_ (by assumption)) | (refine Below.setRow ?_ ?_ _; rotate_left; (focus (first | exact Nat.lt_succ_self _ | ((repeat rw [World.size_alloc]); omega) | (simp; done) | (simp; omega) | omega))) | (refine Below.setCell ?_ ?_ _; rotate_left; (focus (first | exact Nat.lt_succ_self _ | ((repeat rw [World.size_alloc]); omega) | (simp; done) | (simp; omega) | omega))) | (refine Below.then' ?_ (by assumption) ?_; rotate_left; (focus (first | exact Nat.lt_succ_self _ | ((repeat rw [World.size_alloc]); omega) | (simp; done) | (simp; omega) | omega))) | fail)); (first | done | fail)) | exact (OwnC.empV1 w0.drew (.cells #[.slice D n c] 22)).stay (by (repeat (first | exact Below.refl _ _ | assumption | (refine Below.allocT ?_ _) | refine Below.drew ?_ | refine below_drewN ?_ _ | (refine Below.then ?_ (by assumption)) | (refine Below.setRow ?_ ?_ _; rotate_left; (focus (first | exact Nat.lt_succ_self _ | ((repeat rw [World.size_alloc]); omega) | (simp; done) | (simp; omega) | omega))) | (refine Below.setCell ?_ ?_ _; rotate_left; (focus (first | exact Nat.lt_succ_self _ | ((repeat rw [World.size_alloc]); omega) | (simp; done) | (simp; omega) | omega))) | (refine Below.then' ?_ (by assumption) ?_; rotate_left; (focus (first | exact Nat.lt_succ_self _ | ((repeat rw [World.size_alloc]); omega) | (simp; done) | (simp; omega) | omega))) | fail)); (first | done | fail))) (HLs.out _ (by (repeat (first | exact Below.refl _ _ | assumption | (refine Below.allocT ?_ _) | refine Below.drew ?_ | refine below_drewN ?_ _ | (refine Below.then ?_ (by assumption)) | (refine Below.setRow ?_ ?_ _; rotate_left; (focus (first | exact Nat.lt_succ_self _ | ((repeat rw [World.size_alloc]); omega) | (simp; done) | (simp; omega) | omega))) | (refine Below.setCell ?_ ?_ _; rotate_left; (focus (first | exact Nat.lt_succ_self _ | ((repeat rw [World.size_alloc]); omega) | (simp; done) | (simp; omega) | omega))) | (refine Below.then' ?_ (by assumption) ?_; rotate_left; (focus (first | exact Nat.lt_succ_self _ | ((repeat rw [World.size_alloc]); omega) | (simp; done) | (simp; omega) | omega))) | fail)); (first | done | fail))) (by rfl) (by rfl) HMm.out (by rw [HMm.out, List.length_nil]; omega) (Nat.zero_le _) ?_
    intro v4 w4 hA4
    obtain ⟨A4, c4, hv4⟩ := hA4.form (k := m) (by rw [HMm.out, List.length_nil, Nat.zero_add])
    subst hv4
    have hb4 : Below w0.heap.size w0 w4 := Below.trans (show Below w0.heap.size w0 _ from (by (repeat (first | exact Below.refl _ _ | assumption | (refine Below.allocT ?_ _) | refine Below.drew ?_ | refine below_drewN ?_ _ | (refine Below.then ?_ (by assumption)) | (refine Below.setRow ?_ ?_ _; rotate_left; (focus (first | exact Nat.lt_succ_self _ | ((repeat rw [World.size_alloc]); omega) | (simp; done) | (simp; omega) | omega))) | (refine Below.setCell ?_ ?_ _; rotate_left; (focus (first | exact Nat.lt_succ_self _ | ((repeat rw [World.size_alloc]); omega) | (simp; done) | (simp; omega) | omega))) | (refine Below.then' ?_ (by assumption) ?_; rotate_left; (focus (first | exact Nat.lt_succ_self _ | ((repeat rw [World.size_alloc]); omega) | (simp; done) | (simp; omega) | omega))) | fail)); (first | done | fail))) (Chg.toBelow hA4.chg (fun k hk => by cases hk; first | exact Nat.le_refl _ | exact Nat.le_succ _) (by simp <;> omega))
    have hn4 : ∀ k, (Value.slice A4 m c4).ownBlock = some k → w0.heap.size ≤ k := fun k hk => by
      rcases hA4.2.2 with q | q
      · have h1 := q.symm.trans hk; cases h1; first | exact Nat.le_refl _ | exact Nat.le_succ _
      · have h1 := q.symm.trans hk; cases h1; simp <;> omega
    have ho4 : OwnC 22 1 recK w4 0 (.slice A4 m c4) u.rs := by have h := hA4.1; rwa [List.nil_append] at h
    have rR : row w4 w0.heap.size = some (recK ⟨D, c, bs⟩) := (row_grown' hA4.2.1 (by simp <;> omega) (by simp [Value.ownBlock] <;> omega)).trans (((by (repeat (first | assumption | (refine row_at _ _ _ _ ?_; first | rfl | (simp only [World.size_alloc]; done) | (simp only [World.size_alloc]; omega)) | (refine (row_past _ _ _ ?_).trans ?_; (focus (first | exact Nat.lt_succ_self _ | ((repeat rw [World.size_alloc]); omega) | (simp; done) | (simp; omega) | omega))) | rw [row_drewN] | rw [row_drew])); (first | done | fail)) : row _ w0.heap.size = some #[.slice D n c]).trans (by rw [← HN.out]; rfl))
    clear hA4
    refine hK.out _ _ ?_ (fun hHeld => ?_)
    focus ((try dsimp only); exact HM.out _ (by (repeat (first | exact Below.refl _ _ | assumption | (refine Below.allocT ?_ _) | refine Below.drew ?_ | refine below_drewN ?_ _ | (refine Below.then ?_ (by assumption)) | (refine Below.setRow ?_ ?_ _; rotate_left; (focus (first | exact Nat.lt_succ_self _ | ((repeat rw [World.size_alloc]); omega) | (simp; done) | (simp; omega) | omega))) | (refine Below.setCell ?_ ?_ _; rotate_left; (focus (first | exact Nat.lt_succ_self _ | ((repeat rw [World.size_alloc]); omega) | (simp; done) | (simp; omega) | omega))) | (refine Below.then' ?_ (by assumption) ?_; rotate_left; (focus (first | exact Nat.lt_succ_self _ | ((repeat rw [World.size_alloc]); omega) | (simp; done) | (simp; omega) | omega))) | fail)); (first | done | fail)))
    clear hK K
    try simp only [List.getElem_toArray, List.getElem_cons_zero, List.getElem_cons_succ, Act.put, List.setIfInBounds_toArray, List.set_cons_zero, List.set_cons_succ]
    refine wpAnyH_ready (rs := [8]) (by kernel_rfl) (by simp) ?_
    refine AllReadyH.cons (o := _) rfl (fun K hK => ?_) AllReadyH.nil
    refine step_append_d bss_under bs_info rfl (by decide) (by decide) recK_size recK_one rfl _ _ (by rfl) 0 (.slice A4 m c4) u.rs (by rfl) ho4 w0.heap.size 1 ⟨D, c, bs⟩ (by rfl) rR m HMm.out (by rw [HMm.out]; omega) (Nat.zero_le _) ?_
    intro A6 c6 w6 hO6 hg6 hor6
    have hb6 : Below w0.heap.size w0 w6 := Below.grown (show Below w0.heap.size w0 _ from (by (repeat (first | exact Below.refl _ _ | assumption | (refine Below.allocT ?_ _) | refine Below.drew ?_ | refine below_drewN ?_ _ | (refine Below.then ?_ (by assumption)) | (refine Below.setRow ?_ ?_ _; rotate_left; (focus (first | exact Nat.lt_succ_self _ | ((repeat rw [World.size_alloc]); omega) | (simp; done) | (simp; omega) | omega))) | (refine Below.setCell ?_ ?_ _; rotate_left; (focus (first | exact Nat.lt_succ_self _ | ((repeat rw [World.size_alloc]); omega) | (simp; done) | (simp; omega) | omega))) | (refine Below.then' ?_ (by assumption) ?_; rotate_left; (focus (first | exact Nat.lt_succ_self _ | ((repeat rw [World.size_alloc]); omega) | (simp; done) | (simp; omega) | omega))) | fail)); (first | done | fail))) hg6 (by have := hb4.size; simp <;> omega) (fun k hk => hn4 k hk)
    have hn6 : ∀ k, (Value.slice A6 (m + 1) c6).ownBlock = some k → w0.heap.size ≤ k := fun k hk => by
      rcases hor6 with q | q
      · exact hn4 k (q.symm.trans hk)
      · have h1 := q.symm.trans hk; have h2 := hb4.size; cases h1; simp <;> omega
    refine hK.out _ _ ?_ (fun hHeld => ?_)
    focus ((try dsimp only); exact HM.out _ (by (repeat (first | exact Below.refl _ _ | assumption | (refine Below.allocT ?_ _) | refine Below.drew ?_ | refine below_drewN ?_ _ | (refine Below.then ?_ (by assumption)) | (refine Below.setRow ?_ ?_ _; rotate_left; (focus (first | exact Nat.lt_succ_self _ | ((repeat rw [World.size_alloc]); omega) | (simp; done) | (simp; omega) | omega))) | (refine Below.setCell ?_ ?_ _; rotate_left; (focus (first | exact Nat.lt_succ_self _ | ((repeat rw [World.size_alloc]); omega) | (simp; done) | (simp; omega) | omega))) | (refine Below.then' ?_ (by assumption) ?_; rotate_left; (focus (first | exact Nat.lt_succ_self _ | ((repeat rw [World.size_alloc]); omega) | (simp; done) | (simp; omega) | omega))) | fail)); (first | done | fail)))
    clear hK K
    try simp only [List.getElem_toArray, List.getElem_cons_zero, List.getElem_cons_succ, Act.put, List.setIfInBounds_toArray, List.set_cons_zero, List.set_cons_succ]
    refine wpAnyH_take (i := 9) (oi := _) (v := ?_) rfl (by kernel_rfl) (by kernel_rfl) (by kernel_rfl) (fun _ _ _ h => h) (Or.inl ⟨by rfl, ?_⟩) (by assumption) ?_
    rotate_left
    focus (intro w hSw; (try dsimp only at hSw); go_simp; first | done | with_reducible rfl)
    try simp only [List.getElem_toArray, List.getElem_cons_zero, List.getElem_cons_succ, Act.put, List.setIfInBounds_toArray, List.set_cons_zero, List.set_cons_succ]
    refine wpAnyH_ready (rs := [10]) (by kernel_rfl) (by simp) ?_
    refine AllReadyH.cons (o := _) rfl (fun K hK => ?_) AllReadyH.nil
    have hq10 := hRw.out w6 hb6
    have k10 : w6.cell? ⟨w.heap.size + 1, 0, none⟩ = some (.slice none 0 0) := row_cell hq10 0
    have k11 : w6.cell? ⟨w.heap.size + 1, 1, none⟩ = some (.slice none 0 0) := row_cell hq10 1
    have f10 := row_frozen hq10 0
    have f11 := row_frozen hq10 1
    go_simp
    refine hK.out _ _ ?_ (fun hHeld => ?_)
    focus ((try dsimp only); exact HML.out _ _ _ (by (repeat (first | exact Below.refl _ _ | assumption | (refine Below.allocT ?_ _) | refine Below.drew ?_ | refine below_drewN ?_ _ | (refine Below.then ?_ (by assumption)) | (refine Below.setRow ?_ ?_ _; rotate_left; (focus (first | exact Nat.lt_succ_self _ | ((repeat rw [World.size_alloc]); omega) | (simp; done) | (simp; omega) | omega))) | (refine Below.setCell ?_ ?_ _; rotate_left; (focus (first | exact Nat.lt_succ_self _ | ((repeat rw [World.size_alloc]); omega) | (simp; done) | (simp; omega) | omega))) | (refine Below.then' ?_ (by assumption) ?_; rotate_left; (focus (first | exact Nat.lt_succ_self _ | ((repeat rw [World.size_alloc]); omega) | (simp; done) | (simp; omega) | omega))) | fail)); (first | done | fail)))
    clear hK K
    try simp only [List.getElem_toArray, List.getElem_cons_zero, List.getElem_cons_succ, Act.put, List.setIfInBounds_toArray, List.set_cons_zero, List.set_cons_succ]
    refine wpAnyH_done (by kernel_rfl) ?_ _
    have HFin := Lib.hid (And.intro hO6 (And.intro hb6 hn6))
    clear hO6 hb6 hn6 hb4 hn4 ho4
    go_wp2_with fail
    obtain ⟨t, htt⟩ := row_heap ((row_set (row_set (hRw.out _ HFin.out.2.1) 0 (.slice u.a7 k7 u.c7)) 1 (.slice A6 (m + 1) c6)).trans (show _ = some #[.slice u.a7 k7 u.c7, .slice A6 (m + 1) c6] from rfl))
    exact bodyPost_ret (v := .agg #[.slice u.a7 k7 u.c7, .slice A6 (m + 1) c6]) (results_cell_row Try.results21 _ _ (w.heap.size + 1) t #[.slice u.a7 k7 u.c7, .slice A6 (m + 1) c6] (0, 0) _ rfl htt hl_under rfl hl_info) rfl (HPost.out A6 c6 w6 HFin.out.1 HFin.out.2.1 HFin.out.2.2)
end Go.Proofs.Ytkkncijbedfdfaa
