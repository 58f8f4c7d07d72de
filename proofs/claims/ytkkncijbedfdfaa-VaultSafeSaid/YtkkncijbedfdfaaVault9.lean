/-
  A vault takes what a head says: (*vault.Vault).load.
-/
import Derived.Test.YtkkncijbedfdfaaVault8
namespace Go.Proofs.Ytkkncijbedfdfaa
open Go.RowKit
set_option linter.unusedVariables false

/-- A vault's cells, its slices as values. -/
def rawC (h : Hd) (g room : Nat) (s7 s8 s9 : Value) (br : Bool) : Array Value := #[.int .u64 (h.gen : Int), .int .i64 (h.area : Int), .int .i64 (h.snap : Int), .int .i64 (h.log : Int), .int .i64 (h.all : Int), .pointer (some ⟨g, 0, none⟩), .int .i64 (room : Int), s7, s8, s9, .bool br]
theorem vtC_raw (v : Vt) (g room : Nat) (br : Bool) (x : VtA) : vtC v g room br x = rawC v.hd g room (.slice x.a7 v.snap.length x.c7) (.slice x.a8 v.log.length x.c8) (.slice x.a9 x.rs.length x.c9) br := rfl
theorem rawC_room (h : Hd) (g room : Nat) (s7 s8 s9 : Value) (br : Bool) : roomy 0 5 (rawC h g room s7 s8 s9 br) = true := rfl
theorem rawC_ext (h : Hd) (g room : Nat) (s7 s8 s9 : Value) (br : Bool) : (rawC h g room s7 s8 s9 br).extract 0 5 = headC h := rfl
attribute [go_sem] rawC_room rawC_ext
/-- The head's five cells turned. -/
def putCs (w : World) (g : Nat) (cs : Array Value) : World := w.setCells g 0 cs.toList
abbrev putHd (w : World) (gv : Nat) (h : Hd) : World := putCs w gv (headC h)
theorem there_of_row {w : World} {g : Nat} {cs : Array Value} (hr : row w g = some cs) (n : Nat) (hn : n ≤ cs.size) : w.there g 0 n := fun j hj => by
  rw [Nat.zero_add]
  refine ⟨?_, row_frozen hr j⟩
  rw [row_cell hr j, Array.getElem?_eq_getElem (by omega)]; rfl
theorem hd_store11 {dst : Option Tmp} {x y : Operand} {ty : TypeId} {pos : String} {after : Array Edge} {gd : Option (Nat × Bool)} {a : Act} {w : World} {K : Act → World → Prop} {Q : Exit → Act → World → Prop}
    (h1 : a.eval x = .pointer (some ⟨blk (a.eval x), 0, none⟩)) (h2 : (row w (blk (a.eval x))).map (·.size) = some 11)
    (h3 : a.eval y = .agg (aggOf (a.eval y))) (h4 : (aggOf (a.eval y)).size = 5) (h5 : allOne (aggOf (a.eval y)) = true) :
    Oper.wp Try.prog ⟨dst, .store 40 x y, ty, pos, after, gd⟩ a w K Q = K (a.put dst undef) (putCs w (blk (a.eval x)) (aggOf (a.eval y))) := by
  obtain ⟨cs, hc, hs⟩ := Option.map_eq_some_iff.1 h2
  have ht := there_of_row hc 5 (by omega)
  rw [← h4] at ht
  generalize blk (a.eval x) = g at *
  generalize aggOf (a.eval y) = cells at *
  unfold Oper.wp execOp
  simp only [h1, h3, Instr.storeAt, Instr.sureAddr, Sem.run_bind, Sem.run_pure, Result.andThen_ok, run_storeVar_mid w g 0 40 cells ht (by rw [h4]; exact hd_info) h5]
  rfl
theorem rawC_size (h : Hd) (g room : Nat) (s7 s8 s9 : Value) (br : Bool) : (rawC h g room s7 s8 s9 br).size = 11 := rfl
attribute [go_sem ↓] hd_store11
attribute [go_sem] rawC_size
theorem putHd_row {w : World} {gv : Nat} {h0 h : Hd} {g room : Nat} {s7 s8 s9 : Value} {br : Bool} (hr : row w gv = some (rawC h0 g room s7 s8 s9 br)) : row (putHd w gv h) gv = some (rawC h g room s7 s8 s9 br) := by
  unfold putHd putCs headC
  show row (((((w.setCell ⟨gv, 0, none⟩ _).setCell ⟨gv, 1, none⟩ _).setCell ⟨gv, 2, none⟩ _).setCell ⟨gv, 3, none⟩ _).setCell ⟨gv, 4, none⟩ _) gv = _
  rw [row_set (row_set (row_set (row_set (row_set hr 0 _) 1 _) 2 _) 3 _) 4 _]
  rfl
theorem putHd_chg (w : World) (gv : Nat) (h : Hd) : Chg (only gv) w (putHd w gv h) := chg_setCells (S := only gv) gv rfl _ _ _ _ (Chg.refl _ _)
theorem rawC_there {w : World} {gv : Nat} {h0 : Hd} {g room : Nat} {s7 s8 s9 : Value} {br : Bool} (hr : row w gv = some (rawC h0 g room s7 s8 s9 br)) : w.there gv 0 5 := fun j hj => by
  rw [Nat.zero_add]
  refine ⟨?_, row_frozen hr j⟩
  rw [row_cell hr j]
  have : j < (rawC h0 g room s7 s8 s9 br).size := by show j < 11; omega
  rw [Array.getElem?_eq_getElem this]; rfl
theorem headC_info (h : Hd) : (Try.prog.info? 40).map (·.size) = some (headC h).size := hd_info
theorem headC_all (h : Hd) : (headC h).all (·.oneCell') = true := headC_one h
/-- A vault's block and its slices, written anew. -/
theorem vt_fin {w3 w4 w5 : World} {gv g room B : Nat} {br : Bool} {v : Vt} {s7 s8 s9 : Value} {A7 A8 A9 : Option Addr} {n7 c7 n8 c8 n9 c9 : Nat} {rs : List Rec} (hgv : gv < B) (hB3 : B ≤ w3.heap.size) (hc : Chg (only gv) w4 w5) (hr : row w5 gv = some (rawC v.hd g room s7 s8 s9 br)) (hV : n7 = v.snap.length ∧ n8 = v.log.length ∧ n9 = v.recs.length) (h7 : Bys w3 A7 v.snap) (h8 : Bys w3 A8 v.log) (k7 : Bys w4 A7 v.snap) (k8 : Bys w4 A8 v.log) (m7 : ∀ a, A7 = some a → B ≤ a.block) (m8 : ∀ a, A8 = some a → B ≤ a.block) (hR : RecsIn w4 w3.heap.size (.slice A9 n9 c9) rs) (hm : rs.map (·.bs) = v.recs) :
    VtAt (((w5.setCell ⟨gv, 7, none⟩ (.slice A7 n7 c7)).setCell ⟨gv, 8, none⟩ (.slice A8 n8 c8)).setCell ⟨gv, 9, none⟩ (.slice A9 n9 c9)) gv g room br v ⟨A7, c7, A8, c8, A9, c9, rs⟩ ∧ (∀ k, DB v ⟨A7, c7, A8, c8, A9, c9, rs⟩ k ∨ VS gv ⟨A7, c7, A8, c8, A9, c9, rs⟩ k → k = gv ∨ B ≤ k) ∧ Chg (only gv) w4 (((w5.setCell ⟨gv, 7, none⟩ (.slice A7 n7 c7)).setCell ⟨gv, 8, none⟩ (.slice A8 n8 c8)).setCell ⟨gv, 9, none⟩ (.slice A9 n9 c9)) := by
  obtain ⟨rfl, rfl, rfl⟩ := hV
  have hc2 : Chg (only gv) w4 (((w5.setCell ⟨gv, 7, none⟩ (.slice A7 v.snap.length c7)).setCell ⟨gv, 8, none⟩ (.slice A8 v.log.length c8)).setCell ⟨gv, 9, none⟩ (.slice A9 v.recs.length c9)) := ((hc.setCell (p := ⟨gv, 7, none⟩) (.inl rfl) _).setCell (p := ⟨gv, 8, none⟩) (.inl rfl) _).setCell (p := ⟨gv, 9, none⟩) (.inl rfl) _
  have hlen : rs.length = v.recs.length := by rw [← hm, List.length_map]
  have hlt := hR.lt
  have hne7 : 0 < v.snap.length → ∀ a, A7 = some a → ¬ only gv a.block := fun _ a ha e => by have := m7 a ha; have e' : a.block = gv := e; omega
  have hne8 : 0 < v.log.length → ∀ a, A8 = some a → ¬ only gv a.block := fun _ a ha e => by have := m8 a ha; have e' : a.block = gv := e; omega
  have hne9 : ∀ k, (Value.slice A9 v.recs.length c9).ownBlock = some k → ¬ only gv k := fun k hk e => by have := (hlt.1 k hk).1; have e' : k = gv := e; omega
  have hneR : ∀ r ∈ rs, 0 < r.bs.length → ∀ a, r.a = some a → ¬ only gv a.block := fun r hr hp a ha e => by have := (hlt.2 r hr hp a ha).1; have e' : a.block = gv := e; omega
  refine ⟨⟨?_, k7.chg' hc2 hne7, k8.chg' hc2 hne8, ?_, fun r hr => (hR.bys r hr).chg' hc2 (hneR r hr), hm, fun e => hne9 gv (by rw [← e, hlen]) rfl, ?_⟩, ?_, hc2⟩
  · rw [row_set (row_set (row_set hr 7 _) 8 _) 9 _, vtC_raw]
    show some (rawC v.hd g room _ _ _ br) = some (rawC v.hd g room _ _ (.slice A9 rs.length c9) br)
    rw [hlen]
  · show OwnC _ 1 recK _ 0 (.slice A9 rs.length c9) rs
    rw [hlen]
    exact (hR.own.base (Nat.zero_le _)).chg hc2 hne9
  · intro k hk hv
    have hv' : k = gv ∨ (Value.slice A9 v.recs.length c9).ownBlock = some k := by rw [← hlen]; exact hv
    rcases hk with ⟨hp, a, ha, rfl⟩ | ⟨hp, a, ha, rfl⟩ | ⟨r, hr, hp, a, ha, rfl⟩
    · rcases hv' with e | e
      · exact hne7 hp a ha e
      · have h1 := (hlt.1 _ e).1
        have h2 := h7.lt hp a ha
        omega
    · rcases hv' with e | e
      · exact hne8 hp a ha e
      · have h1 := (hlt.1 _ e).1
        have h2 := h8.lt hp a ha
        omega
    · rcases hv' with e | e
      · exact hneR r hr hp a ha e
      · exact hR.apart r hr hp a ha e
  · intro k hk
    rcases hk with (⟨hp, a, ha, rfl⟩ | ⟨hp, a, ha, rfl⟩ | ⟨r, hr, hp, a, ha, rfl⟩) | rfl | hk
    · exact .inr (m7 a ha)
    · exact .inr (m8 a ha)
    · exact .inr (Nat.le_trans hB3 (hlt.2 r hr hp a ha).1)
    · exact .inl rfl
    · have hk' : (Value.slice A9 v.recs.length c9).ownBlock = some k := by rw [← hlen]; exact hk
      exact .inr (Nat.le_trans hB3 (hlt.1 _ hk').1)
def LoadPost (w : World) (gv g room : Nat) (br : Bool) (v : Vt) (e : Ending) (w' : World) : Prop := e = .returned (.int .i64 0) ∧ ∃ x, VtAt w' gv g room br v x ∧ (∀ k, DB v x k ∨ VS gv x k → k = gv ∨ w.heap.size ≤ k) ∧ Chg (only gv) w w'
set_option maxHeartbeats 8000000 in
set_option maxRecDepth 100000 in
theorem load_any (gv g gs : Nat) (pv : Value) (A : Option Addr) (c : Nat) (s : Ps) (hd : s.down = false) (hp : s.pend = []) (room : Nat) (br : Bool) (v : Vt) (hI : Inv s.sure room v) (hok : RecsOk v.recs) (hm5 : v.recs.length < 100000) (h0 : Hd) (s7 s8 s9 : Value) (w : World) (hr : row w gv = some (rawC h0 g room s7 s8 s9 br)) (h : PlAt w g gs pv A c s) (hgv : ¬ PS g gs pv A gv) :
    Calls Try.prog 24 #[.pointer (some ⟨gv, 0, none⟩), .agg (headC v.hd)] w (LoadPost w gv g room br v) := by
  have hfit := hI.ok.fits
  have hrm := hI.ok.room
  have har := hI.ok.area
  have hlen := hI.len
  have hsl1 := secs_le (n := v.hd.snap) (r := room) (by omega)
  have hsl2 := secs_le (n := v.hd.log) (r := room) (by omega)
  have hbeg : 2 ≤ begA room v.hd.area ∧ begA room v.hd.area + room ≤ 2 + 2 * room := by
    unfold begA
    rcases area_cases har with q | q <;> rw [q] <;> omega
  have hrd := fun W (o n : Nat) (hn : n ≤ 10000000) (ho : o + secs n ≤ s.sure.length) (hb : Below w.heap.size w W) => vread_any gv g gs pv A c s hd hp o n hn ho W ((hb.cell (p := ⟨gv, 5, none⟩) (row_lt hr)).trans (row_cell hr 5)) (Nat.lt_of_lt_of_le (row_lt hr) hb.size) (h.stay hb)
  have hd1 := read_data hI.dsnap
  have hd2 := read_data hI.dlog
  rw [← hI.snap] at hd1 hd2
  rw [← hI.log] at hd2
  have HR1 : Hid (∀ W (z : Int), z = ((begA room v.hd.area : Nat) : Int) → Below w.heap.size w W → Calls Try.prog 37 #[.pointer (some ⟨gv, 0, none⟩), .int .i64 z, .int .i64 (v.hd.snap : Int)] W (VReadPost W v.hd.snap v.snap)) := Lib.hid fun W z hz hb => by
    have := hrd W (begA room v.hd.area) v.hd.snap (by omega) (by omega) hb
    rw [hd1] at this
    rw [hz]; exact this
  have HR2 : Hid (∀ W (z : Int), z = ((begA room v.hd.area + secs v.hd.snap : Nat) : Int) → Below w.heap.size w W → Calls Try.prog 37 #[.pointer (some ⟨gv, 0, none⟩), .int .i64 z, .int .i64 (v.hd.log : Int)] W (VReadPost W v.hd.log v.log)) := Lib.hid fun W z hz hb => by
    have := hrd W (begA room v.hd.area + secs v.hd.snap) v.hd.log (by omega) (by omega) hb
    rw [hd2] at this
    rw [hz]; exact this
  have HBg : Hid (∀ W, Below w.heap.size w W → Calls Try.prog 29 #[.pointer (some ⟨gv, 0, none⟩), .int .i64 (v.hd.area : Int)] W fun e w' => e = .returned (.int .i64 ((begA room v.hd.area : Nat) : Int)) ∧ W = w') := Lib.hid fun W hb => begin_any gv room v.hd.area har hrm W ((hb.cell (p := ⟨gv, 6, none⟩) (row_lt hr)).trans (row_cell hr 6))
  have HCt : Hid (∀ W Al cl, Bys W Al v.log → Calls Try.prog 38 #[.slice Al v.hd.log cl, .int .i64 (v.hd.all : Int)] W (CutPost W v.recs)) := Lib.hid fun W Al cl hb => cut_any Al v.hd.log cl v.hd.all v.recs hok hI.all.symm (by rw [← hI.logE, hI.log]) (by omega) (by rw [hI.all]; exact hm5) W (by rw [← hI.logE]; exact hb)
  have HV : Hid (v.hd.snap = v.snap.length ∧ v.hd.log = v.log.length ∧ v.hd.all = v.recs.length) := Lib.hid ⟨hI.snap, hI.log, hI.all⟩
  have r0 : row (w.alloc (.cells (headC v.hd) 40)) w.heap.size = some (headC v.hd) := (by (repeat (first | assumption | (refine row_at _ _ _ _ ?_; first | rfl | (simp only [World.size_alloc]; done) | (simp only [World.size_alloc]; omega)) | (refine (row_past _ _ _ ?_).trans ?_; (focus (first | exact Nat.lt_succ_self _ | ((repeat rw [World.size_alloc]); omega) | (simp; done) | (simp; omega) | omega))) | rw [row_drewN] | rw [row_drew])); (first | done | fail))
  have q0 : row (w.alloc (.cells (headC v.hd) 40)) gv = some (rawC h0 g room s7 s8 s9 br) := (row_past _ _ _ (row_lt hr)).trans hr
  have hB0 : Below w.heap.size w (w.alloc (.cells (headC v.hd) 40)) := (by (repeat (first | exact Below.refl _ _ | assumption | (refine Below.allocT ?_ _) | refine Below.drew ?_ | refine below_drewN ?_ _ | (refine Below.then ?_ (by assumption)) | (refine Below.setRow ?_ ?_ _; rotate_left; (focus (first | exact Nat.lt_succ_self _ | ((repeat rw [World.size_alloc]); omega) | (simp; done) | (simp; omega) | omega))) | (refine Below.setCell ?_ ?_ _; rotate_left; (focus (first | exact Nat.lt_succ_self _ | ((repeat rw [World.size_alloc]); omega) | (simp; done) | (simp; omega) | omega))) | (refine Below.then' ?_ (by assumption) ?_; rotate_left; (focus (first | exact Nat.lt_succ_self _ | ((repeat rw [World.size_alloc]); omega) | (simp; done) | (simp; omega) | omega))) | fail)); (first | done | fail))
  have HGv := Lib.hid (row_lt hr)
  clear hI hok hm5 h hgv hrd hd1 hd2 hr hlen hd hp
  go_enter Try.func24, Try.ntmps24
  go_upto_region 1 with fail
  generalize w.alloc (.cells (headC v.hd) 40) = w0 at *
  have c1 : w0.cell? ⟨w.heap.size, 1, none⟩ = some (.int .i64 (v.hd.area : Int)) := row_cell r0 1
  have c2 : w0.cell? ⟨w.heap.size, 2, none⟩ = some (.int .i64 (v.hd.snap : Int)) := row_cell r0 2
  have HR0 := Lib.hid (And.intro r0 (And.intro q0 hB0))
  clear r0 q0 hB0
  go_wp2_with fail
  refine (HBg.out _ HR0.out.2.2).mono ?_
  rintro e w1 ⟨rfl, rfl⟩
  go_wp2_with fail
  refine (HR1.out _ _ rfl HR0.out.2.2).mono ?_
  rintro e w2 ⟨A7, c7, rfl, hy7, hl7, hn7, hb2⟩
  have HS7 := Lib.hid (And.intro hy7 hn7)
  have HR2' := Lib.hid (And.intro ((row_below hb2 (row_lt HR0.out.1)).trans HR0.out.1) (And.intro ((row_below hb2 (row_lt HR0.out.2.1)).trans HR0.out.2.1) (Below.then HR0.out.2.2 hb2)))
  clear hy7 hl7 hn7 hb2 c1 c2
  go_upto_region 5 with fail
  have HM : Hid (∀ W, Below w2.heap.size w2 W → W.cell? ⟨w.heap.size, 2, none⟩ = some (.int .i64 (v.hd.snap : Int)) ∧ W.cell? ⟨w.heap.size, 3, none⟩ = some (.int .i64 (v.hd.log : Int))) := Lib.hid fun W hb => by
    have hh := (row_below hb (row_lt HR2'.out.1)).trans HR2'.out.1
    exact ⟨row_cell hh 2, row_cell hh 3⟩
  have E1 : IntKind.i64.wrap (((begA room v.hd.area : Nat) : Int) + ((secs v.hd.snap : Nat) : Int)) = ((begA room v.hd.area : Nat) : Int) + ((secs v.hd.snap : Nat) : Int) := IntWalk.i64_in _ (by omega)
  go_region_held3 (fun W => W.cell? ⟨w.heap.size, 2, none⟩ = some (.int .i64 (v.hd.snap : Int)) ∧ W.cell? ⟨w.heap.size, 3, none⟩ = some (.int .i64 (v.hd.log : Int))) (exact HM.out _ (by (repeat (first | exact Below.refl _ _ | assumption | (refine Below.allocT ?_ _) | refine Below.drew ?_ | refine below_drewN ?_ _ | (refine Below.then ?_ (by assumption)) | (refine Below.setRow ?_ ?_ _; rotate_left; (focus (first | exact Nat.lt_succ_self _ | ((repeat rw [World.size_alloc]); omega) | (simp; done) | (simp; omega) | omega))) | (refine Below.setCell ?_ ?_ _; rotate_left; (focus (first | exact Nat.lt_succ_self _ | ((repeat rw [World.size_alloc]); omega) | (simp; done) | (simp; omega) | omega))) | (refine Below.then' ?_ (by assumption) ?_; rotate_left; (focus (first | exact Nat.lt_succ_self _ | ((repeat rw [World.size_alloc]); omega) | (simp; done) | (simp; omega) | omega))) | fail)); (first | done | fail))) (first
    | (go_at_call 28; refine (sectors_any _ (by omega) _).mono ?_; rintro e w3 ⟨rfl, rfl⟩)
    | (go_at_call 37; refine (HR2.out _ _ (by omega) (Below.then HR2'.out.2.2 (by (repeat (first | exact Below.refl _ _ | assumption | (refine Below.allocT ?_ _) | refine Below.drew ?_ | refine below_drewN ?_ _ | (refine Below.then ?_ (by assumption)) | (refine Below.setRow ?_ ?_ _; rotate_left; (focus (first | exact Nat.lt_succ_self _ | ((repeat rw [World.size_alloc]); omega) | (simp; done) | (simp; omega) | omega))) | (refine Below.setCell ?_ ?_ _; rotate_left; (focus (first | exact Nat.lt_succ_self _ | ((repeat rw [World.size_alloc]); omega) | (simp; done) | (simp; omega) | omega))) | (refine Below.then' ?_ (by assumption) ?_; rotate_left; (focus (first | exact Nat.lt_succ_self _ | ((repeat rw [World.size_alloc]); omega) | (simp; done) | (simp; omega) | omega))) | fail)); (first | done | fail)))).mono ?_; rintro e w3 ⟨A8, c8, rfl, hy8, hl8, hn8, hb3⟩; replace hb3 : Below w2.heap.size w2 w3 := (by (repeat (first | exact Below.refl _ _ | assumption | (refine Below.allocT ?_ _) | refine Below.drew ?_ | refine below_drewN ?_ _ | (refine Below.then ?_ (by assumption)) | (refine Below.setRow ?_ ?_ _; rotate_left; (focus (first | exact Nat.lt_succ_self _ | ((repeat rw [World.size_alloc]); omega) | (simp; done) | (simp; omega) | omega))) | (refine Below.setCell ?_ ?_ _; rotate_left; (focus (first | exact Nat.lt_succ_self _ | ((repeat rw [World.size_alloc]); omega) | (simp; done) | (simp; omega) | omega))) | (refine Below.then' ?_ (by assumption) ?_; rotate_left; (focus (first | exact Nat.lt_succ_self _ | ((repeat rw [World.size_alloc]); omega) | (simp; done) | (simp; omega) | omega))) | fail)); (first | done | fail))))
  have HS8 := Lib.hid (And.intro hy8 hn8)
  have HB3 := Lib.hid (Below.then HR2'.out.2.2 hb3)
  have r3 := (row_below hb3 (row_lt HR2'.out.1)).trans HR2'.out.1
  have c4 : w3.cell? ⟨w.heap.size, 4, none⟩ = some (.int .i64 (v.hd.all : Int)) := row_cell r3 4
  have HR3 := Lib.hid (And.intro r3 ((row_below hb3 (row_lt HR2'.out.2.1)).trans HR2'.out.2.1))
  have HS7' := Lib.hid (And.intro (HS7.out.1.stay hb3) hb3.size)
  clear hy8 hl8 hn8 hb3 r3 HM
  go_wp2_with fail
  refine (HCt.out _ _ _ HS8.out.1).mono ?_
  rintro e w4 ⟨A9, c9, rs, rfl, hRc, hmp, hb4⟩
  have HRc := Lib.hid hRc
  have HMp := Lib.hid hmp
  have HB4 := Lib.hid (Below.then HB3.out hb4)
  have r4 := (row_below hb4 (row_lt HR3.out.1)).trans HR3.out.1
  have q4 := (row_below hb4 (row_lt HR3.out.2)).trans HR3.out.2
  have H7 := Lib.hid (HS7'.out.1.stay hb4)
  have H8 := Lib.hid (HS8.out.1.stay hb4)
  have q5 := putHd_row (h := v.hd) q4
  have k7 : (putHd w4 gv v.hd).cell? ⟨gv, 7, none⟩ = some s7 := row_cell q5 7
  have k8 : (putHd w4 gv v.hd).cell? ⟨gv, 8, none⟩ = some s8 := row_cell q5 8
  have k9 : (putHd w4 gv v.hd).cell? ⟨gv, 9, none⟩ = some s9 := row_cell q5 9
  have f7 := row_frozen q5 7
  have f8 := row_frozen q5 8
  have f9 := row_frozen q5 9
  have HC5 := Lib.hid (putHd_chg w4 gv v.hd)
  have HQ5 := Lib.hid q5
  have HTh := Lib.hid (rawC_there q4)
  clear hRc hmp hb4 q5 c4 HR3
  go_upto_region 11 with fail
  go_wp2_with fail
  go_ret
  obtain ⟨z1, z2, z3⟩ := vt_fin (B := w.heap.size) (A9 := A9) (c7 := c7) (c8 := c8) HGv.out HB3.out.size HC5.out HQ5.out ⟨HV.out.1, HV.out.2.1, rfl⟩ HS7'.out.1 HS8.out.1 H7.out H8.out (fun a ha => Nat.le_trans HR0.out.2.2.size (HS7.out.2 a ha)) (fun a ha => Nat.le_trans HR2'.out.2.2.size (HS8.out.2 a ha)) HRc.out HMp.out
  exact ⟨rfl, _, z1, z2, Chg.below_before HB4.out z3⟩
end Go.Proofs.Ytkkncijbedfdfaa
