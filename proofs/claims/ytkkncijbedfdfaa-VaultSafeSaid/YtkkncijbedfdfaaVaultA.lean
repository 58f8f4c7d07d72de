/-
  Pieces are written, sector by sector, and synced: (*vault.Vault).put.
-/
import Derived.Test.YtkkncijbedfdfaaVault9
import Derived.Test.YtkkncijbedfdfaaPlate8
namespace Go.Proofs.Ytkkncijbedfdfaa
open Go.RowKit
set_option linter.unusedVariables false

theorem pc_under : Try.prog.underlying 77 = some (.struct (Try.prog.fieldsOf 77)) := by kernel_rfl
theorem pc_info : (Try.prog.info? 77).map (·.size) = some 2 := by kernel_rfl
theorem pc_load {dst : Option Tmp} {x : Operand} {ty : TypeId} {pos : String} {after : Array Edge} {gd : Option (Nat × Bool)} {a : Act} {w : World} {K : Act → World → Prop} {Q : Exit → Act → World → Prop} (h1 : a.eval x = .pointer (some ⟨blk (a.eval x), ofs (a.eval x), none⟩)) (h2 : (row w (blk (a.eval x))).map (roomy (ofs (a.eval x)) 2) = some true) : Oper.wp Try.prog ⟨dst, .load 77 x, ty, pos, after, gd⟩ a w K Q = K (a.put dst (.agg (((row w (blk (a.eval x))).getD #[]).extract (ofs (a.eval x)) (ofs (a.eval x) + 2)))) w := wp_load_part _ 2 _ pc_under rfl pc_info h1 h2
theorem pc_store {dst : Option Tmp} {x : Operand} {ty : TypeId} {pos : String} {after : Array Edge} {gd : Option (Nat × Bool)} {y : Operand} {a : Act} {w : World} {K : Act → World → Prop} {Q : Exit → Act → World → Prop} (h1 : a.eval x = .pointer (some ⟨blk (a.eval x), 0, none⟩)) (h2 : (row w (blk (a.eval x))).map (·.size) = some 2) (h3 : a.eval y = .agg (aggOf (a.eval y))) (h4 : (aggOf (a.eval y)).size = 2) (h5 : allOne (aggOf (a.eval y)) = true) : Oper.wp Try.prog ⟨dst, .store 77 x y, ty, pos, after, gd⟩ a w K Q = K (a.put dst undef) (w.setRow (blk (a.eval x)) (aggOf (a.eval y))) := wp_store_agg _ 2 pc_info h1 h2 h3 h4 h5
theorem pc_run_load {ρ : Operand → Value} {dst : Option Tmp} {x : Operand} {ty : TypeId} {pos : String} {after : Array Edge} {gd : Option (Nat × Bool)} {w : World} (h1 : ρ x = .pointer (some ⟨blk (ρ x), ofs (ρ x), none⟩)) (h2 : (row w (blk (ρ x))).map (roomy (ofs (ρ x)) 2) = some true) : (execOp ρ ⟨dst, .load 77 x, ty, pos, after, gd⟩).run Try.prog w = .ok (.value (.agg (((row w (blk (ρ x))).getD #[]).extract (ofs (ρ x)) (ofs (ρ x) + 2)))) w := run_load_part _ 2 _ pc_under rfl pc_info h1 h2
theorem pc_quiet {C : World → Prop} {dst : Option Tmp} {x : Operand} {ty : TypeId} {pos : String} {after : Array Edge} {gd : Option (Nat × Bool)} {a : Act} {w : World} {g o : Nat} {cs : Array Value} (h1 : a.eval x = .pointer (some ⟨g, o, none⟩)) (h2 : row w g = some cs) (hs : roomy o 2 cs = true) : Oper.quietAt Try.prog ⟨dst, .load 77 x, ty, pos, after, gd⟩ a C w (.agg (cs.extract o (o + 2))) := quiet_load_part _ 2 _ pc_under rfl pc_info h1 h2 hs
attribute [go_sem ↓] pc_load pc_store pc_run_load
def u8L (l : List Nat) : List Value := l.map fun x : Nat => Value.int .u8 ((x : Nat) : Int)
theorem u8L_len (l : List Nat) : (u8L l).length = l.length := by unfold u8L; rw [List.length_map]
theorem wpList_copyk {W : World} {ops : Array Oper} {rest : List Oper} {o : Oper} {a : Act} {Q : Exit → Act → World → Prop} (hgd : o.guard = none) (s x : Operand)
    (ho : o.op = .call { callee := .builtin .copy, args := #[s, x], argTypes := #[22, 22] })
    (b : Nat) (B : Option Addr) (m c1 c2 : Nat) (l : List Nat) (hs : a.eval s = .slice (some ⟨b, 0, none⟩) 64 c1) (hx : a.eval x = .slice B m c2) (hl : l.length = m) (hm : 0 < m) (hB : Bys W B l) (ht : W.there b 0 64)
    (hk : wpList Try.prog ops Q rest (a.put o.dst (goInt (u8L (l.take 64)).length)) (W.setCells b 0 (u8L (l.take 64)))) : wpList Try.prog ops Q (o :: rest) a W := by
  obtain ⟨b2, o2, rfl, _, hc⟩ := hB (by omega)
  refine wpList_plain hgd fun K hK => ?_
  have hlt : (u8L (l.take 64)).length ≤ 64 := by rw [u8L_len, List.length_take]; omega
  have hr := run_copy_cells (P := Try.prog) W 22 22 o.type 5 b 0 64 c1 ⟨b2, o2, none⟩ m c2 (u8L (l.take 64)) u8s_under (by kernel_rfl) (by rw [u8L_len, List.length_take, hl]; exact Nat.min_comm ..)
    (fun j v hv => by
      unfold u8L at hv
      rw [List.getElem?_map] at hv
      rcases hj : (l.take 64)[j]? with _ | y
      · rw [hj] at hv; cases hv
      · rw [hj] at hv
        cases hv
        have hjl := (List.getElem?_eq_some_iff.1 hj).1
        rw [List.length_take] at hjl
        rw [List.getElem?_take_of_lt (by omega)] at hj
        rw [add_plain', hc j (by omega), List.getD_eq_getElem?_getD, hj]; rfl)
    (fun j hj => (ht j (by omega)).1) (fun j hj => (ht j (by omega)).2) (fun v hv => by unfold u8L at hv; obtain ⟨y, _, rfl⟩ := List.mem_map.1 hv; rfl)
  unfold Oper.wp execOp
  simp only [ho, resolve, invoke, builtin, Sem.run_bind, Sem.run_pure, Result.andThen_ok, List.map_toArray, List.map_cons, List.map_nil, hs, hx, hr]
  exact hK _ _ hk
theorem zSecA_size : zSecA.size = 64 := by simp [zSecA]
theorem row_chunk {w : World} {b : Nat} (bs : List Nat) (j : Nat) (h : row w b = some zSecA) : row (w.setCells b 0 (u8L ((bs.drop (j * 64)).take 64))) b = some (secC (chunk bs j)).toArray := by
  obtain ⟨cs', h1, h2⟩ := row_setCells b (u8L ((bs.drop (j * 64)).take 64)) 0 w _ h
  rw [h1]
  congr 1
  have hl : (u8L ((bs.drop (j * 64)).take 64)).length ≤ 64 := by rw [u8L_len]; exact List.length_take_le ..
  have hsc : secC (chunk bs j) = u8L ((bs.drop (j * 64)).take 64) ++ List.replicate (64 - (u8L ((bs.drop (j * 64)).take 64)).length) (.int .u8 0) := by
    show (chunkL bs j).map _ = _
    unfold chunkL
    rw [List.map_append, List.map_replicate, u8L_len]
    rfl
  rw [hsc]
  generalize u8L ((bs.drop (j * 64)).take 64) = vs at *
  rw [zSecA_size] at h2
  apply Array.ext
  · rw [h2, List.size_toArray, List.length_append, List.length_replicate]; omega
  · intro i hi hj
    rw [h2] at hi
    have hc := row_cell h1 i
    rw [Array.getElem?_eq_getElem (by rw [h2]; exact hi)] at hc
    apply Option.some.inj
    rw [← hc, ← Array.getElem?_eq_getElem hj, List.getElem?_toArray]
    by_cases hiv : i < vs.length
    · have hin := World.cell?_setCells_in b vs 0 w (fun j hj => by
        rw [row_cell h (0 + j), Array.getElem?_eq_getElem (by rw [zSecA_size]; omega)]; rfl) i hiv
      rw [Nat.zero_add] at hin
      rw [hin, List.getElem?_append_left hiv, List.getElem?_eq_getElem hiv]
    · rw [World.cell?_setCells_out b vs 0 w ⟨b, i, none⟩ (fun _ _ => .inr (by show 0 + vs.length ≤ i; omega)), row_cell h i, List.getElem?_append_right (by omega), List.getElem?_replicate, if_pos (by omega)]
      unfold zSecA
      rw [List.getElem?_toArray, List.getElem?_replicate, if_pos hi]
theorem made64 {w w1 : World} {v : Value} (hv : v = .slice (some ⟨w.heap.size, 0, none⟩) 64 64) (hown : w1.ownsRow 0 5 1 v 64 ((madeCells #[Value.int .u8 0] 64).toList)) : row w1 w.heap.size = some zSecA := by
  subst hv
  rcases hown.2 with ⟨_, h0⟩ | ⟨gs, cap, cur, hv, _, hheap, _, _, hsz, htake⟩
  · omega
  · simp only [Value.slice.injEq, Option.some.injEq, Addr.mk.injEq, true_and, and_true] at hv
    obtain ⟨e1, e2⟩ := hv
    have h3 : cur.toList = List.replicate 64 (Value.int .u8 0) := by
      rw [List.take_of_length_le (by rw [Array.length_toList, hsz]; omega)] at htake
      rw [htake]
      exact toList_madeCells_one _ _
    rw [e1]
    unfold Go.Proofs.Ytkkncijbedfdfaa.row
    rw [hheap]
    show some cur = _
    congr 1
    rw [← Array.toArray_toList (xs := cur), h3]
    rfl
theorem drop_pieces (o : Nat) (bs : List Nat) (j : Nat) (h : j < secs bs.length) : (pieces o bs).drop j = (o + j, chunk bs j) :: (pieces o bs).drop (j + 1) := by
  have hl : (pieces o bs).length = secs bs.length := by unfold pieces; rw [List.length_map, List.length_range]
  rw [List.drop_eq_getElem_cons (by omega)]
  congr 1
  unfold pieces
  rw [List.getElem_map, List.getElem_range]
/-- How far a put has got. -/
def Putting (w2 : World) (F : Nat → Prop) (g : Nat) (s : Ps) (ws : List (Nat × Sec)) (j : Nat) (W : World) : Prop := ∃ s', putP s ws = putP s' (ws.drop j) ∧ s'.down = false ∧ s'.pend.length = s.pend.length + j ∧ s'.sure.length = s.sure.length ∧ PlTo w2 F g s' W
def PieceC (o : Nat) (D : Option Addr) (n c : Nat) : Array Value := #[.int .i64 (o : Int), .slice D n c]
theorem PieceC_room (o : Nat) (D : Option Addr) (n c : Nat) : roomy 0 2 (PieceC o D n c) = true := rfl
theorem PieceC_ext (o : Nat) (D : Option Addr) (n c : Nat) : (PieceC o D n c).extract 0 2 = PieceC o D n c := rfl
theorem PieceC_size (o : Nat) (D : Option Addr) (n c : Nat) : (PieceC o D n c).size = 2 := rfl
theorem PieceC_one (o : Nat) (D : Option Addr) (n c : Nat) : allOne (PieceC o D n c) = true := by unfold allOne PieceC; simp [Value.oneCell']
attribute [go_sem] PieceC_room PieceC_ext PieceC_size PieceC_one
set_option maxHeartbeats 8000000 in
set_option maxRecDepth 100000 in
theorem put_any (gv g gs : Nat) (pv : Value) (A : Option Addr) (c : Nat) (s : Ps) (hd : s.down = false) (o n cD b : Nat) (D : Option Addr) (bs : List Nat) (hbs : bs.length = n) (hn : n ≤ 10000000) (hcap : n ≤ cD) (hcD : cD ≤ 9223372036854775807) (ho : o + secs n ≤ s.sure.length) (hfew : s.pend.length + secs n < 50000) (w : World) (hr : row w b = some (PieceC o D n cD)) (hD : Bys w D bs) (hDn : 0 < n → ∀ a, D = some a → ¬ PS g gs pv A a.block) (h5 : w.cell? ⟨gv, 5, none⟩ = some (.pointer (some ⟨g, 0, none⟩))) (hgv : gv < w.heap.size) (hgn : ¬ PS g gs pv A gv) (h : PlAt w g gs pv A c s) :
    Calls Try.prog 42 #[.pointer (some ⟨gv, 0, none⟩), .slice (some ⟨b, 0, none⟩) 1 1] w fun e w' => e = .returned (.int .i64 (putP s (pieces o bs)).1) ∧ PlTo w (PS g gs pv A) g (putP s (pieces o bs)).2 w' := by
  have hfs := h.fews
  have HSec := Lib.hid (fun W => sectors_any n (by omega) W)
  have HSy := Lib.hid (fun (s' : Ps) W gs pv A c (h : PlAt W g gs pv A c s') => sync_any g gs pv A c s' W h)
  have hk1 : secs n ≤ 16384 := by omega
  have hks : n ≤ secs n * 64 := by unfold secs; omega
  have hks2 : ∀ j, j < secs n → j * 64 < n := fun j hj => by unfold secs at hj; omega
  obtain ⟨k, hk⟩ : ∃ k, k = secs n := ⟨_, rfl⟩
  have H0 := Lib.hid h
  have HD := Lib.hid hD
  have HDn := Lib.hid hDn
  have H5 := Lib.hid h5
  have HGn := Lib.hid (And.intro hgv hgn)
  have HBs := Lib.hid hbs
  have HPl : Hid (∀ j, j < k → (pieces o bs).drop j = (o + j, chunk bs j) :: (pieces o bs).drop (j + 1)) := Lib.hid fun j hj => drop_pieces o bs j (by rw [hbs, ← hk]; exact hj)
  have HPe : Hid ((pieces o bs).drop k = []) := Lib.hid (by
    rw [List.drop_eq_nil_of_le]
    unfold pieces
    rw [List.length_map, List.length_range, hbs, ← hk]
    exact Nat.le_refl _)
  rw [← hk] at HSec hks hks2 hk1 hfew ho
  have HK2 := Lib.hid hks2
  have HX : Hid (∃ p, p = putP s (pieces o bs)) := Lib.hid ⟨_, rfl⟩
  obtain ⟨pp, hpp⟩ := HX.out
  rw [← hpp]
  have HPP : Hid (putP s (pieces o bs) = pp) := Lib.hid hpp.symm
  clear h hD hDn h5 hgv hgn hbs hk hks2 HX hpp
  go_enter Try.func42, Try.ntmps42
  go_wp2_with fail
  go_loopw [12] (fun i wr => ∃ q : Nat, i = .int .i64 q ∧ q ≤ 1 ∧ Hid ((q = 0 → w = wr) ∧ (q = 1 → Putting w (PS g gs pv A) g s (pieces o bs) k wr))) (fun i _ => 1 - (intOf i).toNat)
  case atStart => exact ⟨0, rfl, by omega, Lib.hid ⟨fun _ => rfl, fun h => by omega⟩⟩
  case round =>
    obtain ⟨q, rfl, hq, hQ⟩ := hrel
    rcases (show q = 0 ∨ q = 1 by omega) with rfl | rfl
    · obtain rfl := hQ.out.1 rfl
      clear hQ
      go_upto_region 4 with fail
      change Code.wp _ _ _ _ (w.alloc (.cells (PieceC o D n cD) 77))
      have r2 : row (w.alloc (.cells (PieceC o D n cD) 77)) w.heap.size = some (PieceC o D n cD) := (by (repeat (first | assumption | (refine row_at _ _ _ _ ?_; first | rfl | (simp only [World.size_alloc]; done) | (simp only [World.size_alloc]; omega)) | (refine (row_past _ _ _ ?_).trans ?_; (focus (first | exact Nat.lt_succ_self _ | ((repeat rw [World.size_alloc]); omega) | (simp; done) | (simp; omega) | omega))) | rw [row_drewN] | rw [row_drew])); (first | done | fail))
      have B2 : Below w.heap.size w (w.alloc (.cells (PieceC o D n cD) 77)) := (by (repeat (first | exact Below.refl _ _ | assumption | (refine Below.allocT ?_ _) | refine Below.drew ?_ | refine below_drewN ?_ _ | (refine Below.then ?_ (by assumption)) | (refine Below.setRow ?_ ?_ _; rotate_left; (focus (first | exact Nat.lt_succ_self _ | ((repeat rw [World.size_alloc]); omega) | (simp; done) | (simp; omega) | omega))) | (refine Below.setCell ?_ ?_ _; rotate_left; (focus (first | exact Nat.lt_succ_self _ | ((repeat rw [World.size_alloc]); omega) | (simp; done) | (simp; omega) | omega))) | (refine Below.then' ?_ (by assumption) ?_; rotate_left; (focus (first | exact Nat.lt_succ_self _ | ((repeat rw [World.size_alloc]); omega) | (simp; done) | (simp; omega) | omega))) | fail)); (first | done | fail))
      have hs2 : w.heap.size < (w.alloc (.cells (PieceC o D n cD) 77)).heap.size := by rw [World.size_alloc]; omega
      generalize w.alloc (.cells (PieceC o D n cD) 77) = w2 at *
      have kc : w2.cell? ⟨w.heap.size, 1, none⟩ = some (.slice D n cD) := row_cell r2 1
      have H2 := Lib.hid (H0.out.stay B2)
      have HD2 := Lib.hid (HD.out.stay B2)
      have H52 := Lib.hid ((B2.cell (p := ⟨gv, 5, none⟩) HGn.out.1).trans H5.out)
      have HB2 := Lib.hid B2
      have HR2 := Lib.hid r2
      have HS2 := Lib.hid hs2
      have HBk := Lib.hid H0.out.blocks
      clear r2 B2 hs2
      go_wp2_with fail
      refine (HSec.out _).mono ?_
      rintro e w3 ⟨rfl, rfl⟩
      go_wp2_with fail
      go_loopw [20] (fun i wr => ∃ j : Nat, i = .int .i64 j ∧ j ≤ k ∧ Hid (Putting w2 (PS g gs pv A) g s (pieces o bs) j wr)) (fun i _ => k - (intOf i).toNat)
      case atStart => exact ⟨0, rfl, by omega, Lib.hid ⟨s, rfl, hd, rfl, rfl, H2.out.self⟩⟩
      case round =>
        obtain ⟨j, rfl, hj, hG⟩ := hrel
        obtain ⟨s', p1, p2, p3, p4, gs1, pv1, A1, c1, hP1, hF1, hC1⟩ := hG.out
        have hkeep : ∀ x, x < w2.heap.size → ¬ PS g gs pv A x → ¬ PS g gs1 pv1 A1 x := fun x hx hn hp => by
          rcases hF1 x hp with e | e
          · exact hn e
          · omega
        have hbox : ¬ PS g gs pv A w.heap.size := fun e => Nat.lt_irrefl _ (HBk.out _ e)
        by_cases hlt : j < k
        · have z1 : (j : Int) < (k : Int) := by omega
          have z1' : (0 : Int) ≤ (j : Int) := by omega
          obtain ⟨lo, hlo⟩ : ∃ lo, lo = j * 64 := ⟨_, rfl⟩
          have hlon := HK2.out j hlt
          rw [← hlo] at hlon
          have E1 : IntKind.i64.wrap ((j : Int) * 64) = (lo : Int) := by rw [show (j : Int) * 64 = (lo : Int) by omega]; exact IntWalk.i64_in _ (by omega)
          have y1 : (0 : Int) ≤ (lo : Int) := by omega
          have y2 : (lo : Int) ≤ (n : Int) := by omega
          have y3 : ¬ cD = lo := by omega
          have y4 : lo ≤ n := by omega
          have HCh : Hid (Chg (PS g gs pv A) w2 wr) := Lib.hid hC1
          obtain ⟨i0, hi, hz0, hz1, hz2⟩ := info_parts u8_info
          have hDw := HD2.out.chg' hC1 (fun hp a ha => HDn.out (by rw [← HBs.out]; exact hp) a ha)
          obtain ⟨db, doff, rfl, _, _⟩ := hDw (by rw [HBs.out]; omega)
          have HDl := Lib.hid (bys_part hDw lo (n - lo) (by rw [HBs.out]; omega))
          have rb := (hC1.row (row_lt HR2.out) hbox).trans HR2.out
          have HRb := Lib.hid rb
          have HWr := Lib.hid (And.intro p1 (And.intro p2 (And.intro p3 (And.intro p4 (And.intro hP1 hF1)))))
          have HKp := Lib.hid hkeep
          have HLo := Lib.hid hlo
          clear p1 p2 p3 p4 hP1 hF1 hC1 hkeep hDw rb hG hlo
          go_upto_region 8 with (at_make; refine wpList_make_full wr rfl _ _ 22 rfl 0 5 i0 (.int .u8 0) 1 u8s_under hi hz0 hz1 .i64 .i64 64 64 64 (by rfl) (by rfl) rfl rfl (by rw [hz2]; omega) (by unfold maxLen; omega) (Nat.zero_le _) ?_; intro w4 hown hg4; have HO4 := Lib.hid (made64 rfl hown); have HB4 : Hid (Below wr.heap.size wr w4) := Lib.hid ((Below.refl _ wr).grown hg4 (Nat.le_refl _) (fun k hk => by cases hk)); clear hown hg4)
          have r4 := (row_below HB4.out (row_lt HRb.out)).trans HRb.out
          have kc : w4.cell? ⟨w.heap.size, 1, none⟩ = some (.slice (some ⟨db, doff, none⟩) n cD) := row_cell r4 1
          have hdl : Bys w4 (some ⟨db, doff + lo, none⟩) (bs.drop lo) := by
            have := HDl.out.stay HB4.out
            rwa [List.take_of_length_le (by rw [List.length_drop, HBs.out]; exact Nat.le_refl _)] at this
          have hth : w4.there w.heap.size 0 0 := fun j hj => by omega
          have hth4 := there_of_row HO4.out 64 (by rw [zSecA_size]; exact Nat.le_refl _)
          go_upto_region 9 with (refine wpList_copyk rfl _ _ (by rfl) wr.heap.size (some ⟨db, doff + lo, none⟩) (n - lo) 64 (cD - lo) (bs.drop lo) (by rfl) (by rfl) (by rw [List.length_drop, HBs.out]) (by omega) hdl hth4 ?_)
          have r5 := row_chunk bs j HO4.out
          rw [← HLo.out] at r5
          have hc5 : Chg (fun x => x = wr.heap.size) w4 (w4.setCells wr.heap.size 0 (u8L ((bs.drop lo).take 64))) := chg_setCells (S := fun x => x = wr.heap.size) _ rfl _ _ _ _ (Chg.refl _ _)
          generalize w4.setCells wr.heap.size 0 (u8L ((bs.drop lo).take 64)) = w5 at *
          have hwr := Lib.hid (show ∀ x, PS g gs1 pv1 A1 x → x < wr.heap.size from HWr.out.2.2.2.2.1.blocks)
          have P5 := Lib.hid ((HWr.out.2.2.2.2.1.stay HB4.out).chg hc5 (fun x hx e => by have := hwr.out x hx; omega))
          have C5 : Hid (Chg (PS g gs pv A) w2 w5) := Lib.hid ((HCh.out.below_then HB4.out (Nat.le_refl _)).andThen hc5 (fun x hx => .inr (by rw [hx]; exact HCh.out.size)))
          have HM : Hid (∀ W, Chg (PS g gs pv A) w2 W → W.cell? ⟨gv, 5, none⟩ = some (.pointer (some ⟨g, 0, none⟩)) ∧ W.cell? ⟨w.heap.size, 0, none⟩ = some (.int .i64 (o : Int))) := Lib.hid fun W hc => ⟨(hc.cell (Nat.lt_of_lt_of_le HGn.out.1 HB2.out.size) HGn.out.2 5).trans H52.out, (hc.cell (row_lt HR2.out) hbox 0).trans (row_cell HR2.out 0)⟩
          have HWt : Hid (∀ W (z : Int), z = ((o + j : Nat) : Int) → Below w5.heap.size w5 W → Calls Try.prog 50 #[.pointer (some ⟨g, 0, none⟩), .int .i64 z, .slice (some ⟨wr.heap.size, 0, none⟩) 64 64] W fun e w' => e = .returned (.int .i64 (s'.write (o + j, chunk bs j)).1) ∧ PlTo W (PS g gs1 pv1 A1) g (s'.write (o + j, chunk bs j)).2 w') := Lib.hid fun W z hz hb => by
            subst hz
            exact write_any g gs1 pv1 A1 c1 s' (o + j) (by rw [HWr.out.2.2.2.1]; omega) (chunk bs j) (some ⟨wr.heap.size, 0, none⟩) 64 HWr.out.2.1 (by rw [HWr.out.2.2.1]; omega) W (P5.out.stay hb) ((sec_bys r5).stay hb) (fun x hx hp => by
              cases hx
              exact Nat.lt_irrefl _ (hwr.out _ hp))
          have E2 : IntKind.i64.wrap ((o : Int) + (j : Int)) = (o : Int) + (j : Int) := IntWalk.i64_in _ (by omega)
          have HFt : Hid (∀ W w6 s6, Below w5.heap.size w5 W → PlTo W (PS g gs1 pv1 A1) g s6 w6 → PlTo w2 (PS g gs pv A) g s6 w6) := Lib.hid fun W w6 s6 hb ht => PlTo.trans HWr.out.2.2.2.2.2 (C5.out.below_then hb (Nat.le_refl _)) ht
          have hwc := write_cases s' (o + j, chunk bs j) HWr.out.2.1
          have HDr := Lib.hid (HPl.out j hlt)
          clear hc5 r5 hth hth4 hdl HO4 r4 kc
          rcases hwc with ⟨a1, a2, a3, a4⟩ | ⟨a1, a2, a3, a4⟩
          · have HN : Hid (putP s (pieces o bs) = putP (s'.write (o + j, chunk bs j)).2 ((pieces o bs).drop (j + 1)) ∧ (s'.write (o + j, chunk bs j)).2.down = false ∧ (s'.write (o + j, chunk bs j)).2.pend.length = s.pend.length + (j + 1) ∧ (s'.write (o + j, chunk bs j)).2.sure.length = s.sure.length) := Lib.hid ⟨by rw [HWr.out.1, HDr.out, putP, if_pos a1], a2, by rw [a3, List.length_append, HWr.out.2.2.1]; rfl, by rw [a4]; exact HWr.out.2.2.2.1⟩
            rw [a1] at HWt
            generalize (s'.write (o + j, chunk bs j)).2 = s6 at *
            clear a1 a2 a3 a4
            go_region_held3 (fun W => W.cell? ⟨gv, 5, none⟩ = some (.pointer (some ⟨g, 0, none⟩)) ∧ W.cell? ⟨w.heap.size, 0, none⟩ = some (.int .i64 (o : Int))) (first | exact HM.out _ hC6 | exact HM.out _ C5.out.drew | exact HM.out _ (C5.out.below_then (show Below w5.heap.size w5 _ from (by (repeat (first | exact Below.refl _ _ | assumption | (refine Below.allocT ?_ _) | refine Below.drew ?_ | refine below_drewN ?_ _ | (refine Below.then ?_ (by assumption)) | (refine Below.setRow ?_ ?_ _; rotate_left; (focus (first | exact Nat.lt_succ_self _ | ((repeat rw [World.size_alloc]); omega) | (simp; done) | (simp; omega) | omega))) | (refine Below.setCell ?_ ?_ _; rotate_left; (focus (first | exact Nat.lt_succ_self _ | ((repeat rw [World.size_alloc]); omega) | (simp; done) | (simp; omega) | omega))) | (refine Below.then' ?_ (by assumption) ?_; rotate_left; (focus (first | exact Nat.lt_succ_self _ | ((repeat rw [World.size_alloc]); omega) | (simp; done) | (simp; omega) | omega))) | fail)); (first | done | fail))) (Nat.le_refl _))) ((go_at_call 50; refine (HWt.out _ _ (by omega) (by (repeat (first | exact Below.refl _ _ | assumption | (refine Below.allocT ?_ _) | refine Below.drew ?_ | refine below_drewN ?_ _ | (refine Below.then ?_ (by assumption)) | (refine Below.setRow ?_ ?_ _; rotate_left; (focus (first | exact Nat.lt_succ_self _ | ((repeat rw [World.size_alloc]); omega) | (simp; done) | (simp; omega) | omega))) | (refine Below.setCell ?_ ?_ _; rotate_left; (focus (first | exact Nat.lt_succ_self _ | ((repeat rw [World.size_alloc]); omega) | (simp; done) | (simp; omega) | omega))) | (refine Below.then' ?_ (by assumption) ?_; rotate_left; (focus (first | exact Nat.lt_succ_self _ | ((repeat rw [World.size_alloc]); omega) | (simp; done) | (simp; omega) | omega))) | fail)); (first | done | fail))).mono ?_; rintro e w6 ⟨rfl, hT⟩; have hT6 := HFt.out _ _ _ (show Below w5.heap.size w5 _ from (by (repeat (first | exact Below.refl _ _ | assumption | (refine Below.allocT ?_ _) | refine Below.drew ?_ | refine below_drewN ?_ _ | (refine Below.then ?_ (by assumption)) | (refine Below.setRow ?_ ?_ _; rotate_left; (focus (first | exact Nat.lt_succ_self _ | ((repeat rw [World.size_alloc]); omega) | (simp; done) | (simp; omega) | omega))) | (refine Below.setCell ?_ ?_ _; rotate_left; (focus (first | exact Nat.lt_succ_self _ | ((repeat rw [World.size_alloc]); omega) | (simp; done) | (simp; omega) | omega))) | (refine Below.then' ?_ (by assumption) ?_; rotate_left; (focus (first | exact Nat.lt_succ_self _ | ((repeat rw [World.size_alloc]); omega) | (simp; done) | (simp; omega) | omega))) | fail)); (first | done | fail))) hT; have hC6 : Chg (PS g gs pv A) w2 w6 := (by obtain ⟨_, _, _, _, _, _, hc⟩ := hT6; exact hc)))
            have HT6 := Lib.hid hT6
            clear hT hT6 hC6
            go_wp2_with fail
            exact ⟨⟨j + 1, by go_num, by omega, Lib.hid ⟨s6, HN.out.1, HN.out.2.1, HN.out.2.2.1, HN.out.2.2.2, HT6.out⟩⟩, by simp [intOf]; omega⟩
          · have HN : Hid (pp = s'.write (o + j, chunk bs j)) := Lib.hid (by rw [← HPP.out, HWr.out.1, HDr.out, putP, if_neg (by rw [a1]; decide)])
            have HA1 := Lib.hid a1
            rw [a1] at HWt
            clear a1 a2 a3 a4
            go_region_held3 (fun W => W.cell? ⟨gv, 5, none⟩ = some (.pointer (some ⟨g, 0, none⟩)) ∧ W.cell? ⟨w.heap.size, 0, none⟩ = some (.int .i64 (o : Int))) (first | exact HM.out _ hC6 | exact HM.out _ C5.out.drew | exact HM.out _ (C5.out.below_then (show Below w5.heap.size w5 _ from (by (repeat (first | exact Below.refl _ _ | assumption | (refine Below.allocT ?_ _) | refine Below.drew ?_ | refine below_drewN ?_ _ | (refine Below.then ?_ (by assumption)) | (refine Below.setRow ?_ ?_ _; rotate_left; (focus (first | exact Nat.lt_succ_self _ | ((repeat rw [World.size_alloc]); omega) | (simp; done) | (simp; omega) | omega))) | (refine Below.setCell ?_ ?_ _; rotate_left; (focus (first | exact Nat.lt_succ_self _ | ((repeat rw [World.size_alloc]); omega) | (simp; done) | (simp; omega) | omega))) | (refine Below.then' ?_ (by assumption) ?_; rotate_left; (focus (first | exact Nat.lt_succ_self _ | ((repeat rw [World.size_alloc]); omega) | (simp; done) | (simp; omega) | omega))) | fail)); (first | done | fail))) (Nat.le_refl _))) ((go_at_call 50; refine (HWt.out _ _ (by omega) (by (repeat (first | exact Below.refl _ _ | assumption | (refine Below.allocT ?_ _) | refine Below.drew ?_ | refine below_drewN ?_ _ | (refine Below.then ?_ (by assumption)) | (refine Below.setRow ?_ ?_ _; rotate_left; (focus (first | exact Nat.lt_succ_self _ | ((repeat rw [World.size_alloc]); omega) | (simp; done) | (simp; omega) | omega))) | (refine Below.setCell ?_ ?_ _; rotate_left; (focus (first | exact Nat.lt_succ_self _ | ((repeat rw [World.size_alloc]); omega) | (simp; done) | (simp; omega) | omega))) | (refine Below.then' ?_ (by assumption) ?_; rotate_left; (focus (first | exact Nat.lt_succ_self _ | ((repeat rw [World.size_alloc]); omega) | (simp; done) | (simp; omega) | omega))) | fail)); (first | done | fail))).mono ?_; rintro e w6 ⟨rfl, hT⟩; have hT6 := HFt.out _ _ _ (show Below w5.heap.size w5 _ from (by (repeat (first | exact Below.refl _ _ | assumption | (refine Below.allocT ?_ _) | refine Below.drew ?_ | refine below_drewN ?_ _ | (refine Below.then ?_ (by assumption)) | (refine Below.setRow ?_ ?_ _; rotate_left; (focus (first | exact Nat.lt_succ_self _ | ((repeat rw [World.size_alloc]); omega) | (simp; done) | (simp; omega) | omega))) | (refine Below.setCell ?_ ?_ _; rotate_left; (focus (first | exact Nat.lt_succ_self _ | ((repeat rw [World.size_alloc]); omega) | (simp; done) | (simp; omega) | omega))) | (refine Below.then' ?_ (by assumption) ?_; rotate_left; (focus (first | exact Nat.lt_succ_self _ | ((repeat rw [World.size_alloc]); omega) | (simp; done) | (simp; omega) | omega))) | fail)); (first | done | fail))) hT; have hC6 : Chg (PS g gs pv A) w2 w6 := (by obtain ⟨_, _, _, _, _, _, hc⟩ := hT6; exact hc)))
            have HT6 := Lib.hid hT6
            clear hT hT6 hC6
            go_wp2_with fail
            go_ret
            rw [HN.out]
            exact ⟨by rw [HA1.out]; rfl, PlTo.trans (fun x hx => .inl hx) (Chg.of_below HB2.out (Nat.le_refl _)) HT6.out⟩
        · obtain rfl : j = k := by omega
          have HNx : Hid (Putting w (PS g gs pv A) g s (pieces o bs) j wr) := Lib.hid ⟨s', p1, p2, p3, p4, PlTo.trans (fun x hx => .inl hx) (Chg.of_below HB2.out (Nat.le_refl _)) ⟨gs1, pv1, A1, c1, hP1, hF1, hC1⟩⟩
          clear p1 p2 p3 p4 hP1 hF1 hC1 hG hkeep
          go_wp2_with fail
          exact ⟨⟨1, by go_num, by omega, Lib.hid ⟨fun h => by omega, fun _ => HNx.out⟩⟩, by simp [intOf]⟩
    · obtain ⟨s', p1, p2, p3, p4, gs1, pv1, A1, c1, hP1, hF1, hC1⟩ := hQ.out.2 rfl
      have k5 := (hC1.cell HGn.out.1 HGn.out.2 5).trans H5.out
      have HS := Lib.hid (HSy.out s' wr gs1 pv1 A1 c1 hP1)
      have HE : Hid (pp = s'.sync) := Lib.hid (by rw [← HPP.out, p1, HPe.out, putP])
      have HFC := Lib.hid (And.intro hF1 hC1)
      clear p1 p2 p3 p4 hP1 hF1 hC1 hQ
      go_wp2_with fail
      refine (HS.out).mono ?_
      rintro e w6 ⟨rfl, hT⟩
      have HT := Lib.hid (PlTo.trans HFC.out.1 HFC.out.2 hT)
      clear hT
      go_wp2_with fail
      go_ret
      rw [HE.out]
      exact ⟨rfl, HT.out⟩
end Go.Proofs.Ytkkncijbedfdfaa
