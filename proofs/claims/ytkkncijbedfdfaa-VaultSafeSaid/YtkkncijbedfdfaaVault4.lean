/-
  A head read out of a sector: vault.parse.
-/
import Derived.Test.YtkkncijbedfdfaaVault3
import Derived.Test.YtkkncijbedfdfaaAgg
import Derived.Test.YtkkncijbedfdfaaCalmV
import Derived.BigQuiet
import Derived.BigRegion
import Derived.Deep.RegionHeld3
import Derived.RegionTactic
import Derived.Deep.Cut
import Derived.Deep.DeepCutAuto
import Derived.IntWalk
namespace Go.Proofs.Ytkkncijbedfdfaa
open Go.RowKit
set_option linter.unusedVariables false

theorem headC_size (h : Hd) : (headC h).size = 5 := rfl
theorem headC_one (h : Hd) : allOne (headC h) = true := by unfold allOne headC; simp [Value.oneCell']
def Hd.none : Hd := ⟨0, 0, 0, 0, 0⟩
theorem hd_under : Try.prog.underlying 40 = some (.struct (Try.prog.fieldsOf 40)) := by kernel_rfl
theorem hd_info : (Try.prog.info? 40).map (·.size) = some 5 := by kernel_rfl
theorem hd_load {dst : Option Tmp} {x : Operand} {ty : TypeId} {pos : String} {after : Array Edge} {gd : Option (Nat × Bool)} {a : Act} {w : World} {K : Act → World → Prop} {Q : Exit → Act → World → Prop} (h1 : a.eval x = .pointer (some ⟨blk (a.eval x), ofs (a.eval x), none⟩)) (h2 : (row w (blk (a.eval x))).map (roomy (ofs (a.eval x)) 5) = some true) : Oper.wp Try.prog ⟨dst, .load 40 x, ty, pos, after, gd⟩ a w K Q = K (a.put dst (.agg (((row w (blk (a.eval x))).getD #[]).extract (ofs (a.eval x)) (ofs (a.eval x) + 5)))) w := wp_load_part _ 5 _ hd_under rfl hd_info h1 h2
theorem hd_store {dst : Option Tmp} {x : Operand} {ty : TypeId} {pos : String} {after : Array Edge} {gd : Option (Nat × Bool)} {y : Operand} {a : Act} {w : World} {K : Act → World → Prop} {Q : Exit → Act → World → Prop} (h1 : a.eval x = .pointer (some ⟨blk (a.eval x), 0, none⟩)) (h2 : (row w (blk (a.eval x))).map (·.size) = some 5) (h3 : a.eval y = .agg (aggOf (a.eval y))) (h4 : (aggOf (a.eval y)).size = 5) (h5 : allOne (aggOf (a.eval y)) = true) : Oper.wp Try.prog ⟨dst, .store 40 x y, ty, pos, after, gd⟩ a w K Q = K (a.put dst undef) (w.setRow (blk (a.eval x)) (aggOf (a.eval y))) := wp_store_agg _ 5 hd_info h1 h2 h3 h4 h5
theorem hd_run_load {ρ : Operand → Value} {dst : Option Tmp} {x : Operand} {ty : TypeId} {pos : String} {after : Array Edge} {gd : Option (Nat × Bool)} {w : World} (h1 : ρ x = .pointer (some ⟨blk (ρ x), ofs (ρ x), none⟩)) (h2 : (row w (blk (ρ x))).map (roomy (ofs (ρ x)) 5) = some true) : (execOp ρ ⟨dst, .load 40 x, ty, pos, after, gd⟩).run Try.prog w = .ok (.value (.agg (((row w (blk (ρ x))).getD #[]).extract (ofs (ρ x)) (ofs (ρ x) + 5)))) w := run_load_part _ 5 _ hd_under rfl hd_info h1 h2
theorem hd_quiet {C : World → Prop} {dst : Option Tmp} {x : Operand} {ty : TypeId} {pos : String} {after : Array Edge} {gd : Option (Nat × Bool)} {a : Act} {w : World} {g o : Nat} {cs : Array Value} (h1 : a.eval x = .pointer (some ⟨g, o, none⟩)) (h2 : row w g = some cs) (hs : roomy o 5 cs = true) : Oper.quietAt Try.prog ⟨dst, .load 40 x, ty, pos, after, gd⟩ a C w (.agg (cs.extract o (o + 5))) := quiet_load_part _ 5 _ hd_under rfl hd_info h1 h2 hs
attribute [go_sem ↓] hd_load hd_store hd_run_load
attribute [go_sem] headC_size headC_one
theorem hd_build0 {dst : Option Tmp} {ty : TypeId} {pos : String} {after : Array Edge} {gd : Option (Nat × Bool)} {a : Act} {w : World} {K : Act → World → Prop} {Q : Exit → Act → World → Prop} :
    Oper.wp Try.prog ⟨dst, .build 40 #[], ty, pos, after, gd⟩ a w K Q = K (a.put dst (.agg (headC Hd.none))) w := by
  have h : Try.prog.built 40 [] = some (headC Hd.none) := by kernel_rfl
  unfold Oper.wp execOp
  simp [run_build, h]
  rfl
attribute [go_sem ↓] hd_build0
theorem bys_part {W : World} {b off : Nat} {bs : List Nat} (h : Bys W (some ⟨b, off, none⟩) bs) (lo k : Nat) (hl : lo + k ≤ bs.length) : Bys W (some ⟨b, off + lo, none⟩) ((bs.drop lo).take k) := fun hp => by
  have hk : ((bs.drop lo).take k).length = k := by rw [List.length_take, List.length_drop]; omega
  rw [hk] at hp
  obtain ⟨b', o', e, hb, hc⟩ := h (by omega)
  cases e
  refine ⟨b, off + lo, rfl, hb, fun i hi => ?_⟩
  rw [hk] at hi
  rw [Nat.add_assoc, hc (lo + i) (by omega), List.getD_eq_getElem?_getD, List.getD_eq_getElem?_getD, List.getElem?_take_of_lt hi, List.getElem?_drop]
/-- What a sector tells as a head. -/
structure Tells (bs : List Nat) (k : Hd) : Prop where
  gen : numB ((bs.drop 2).take 8) = k.gen
  area : bs.getD 10 0 = k.area
  snap : numB ((bs.drop 11).take 4) = k.snap
  log : numB ((bs.drop 15).take 4) = k.log
  all : numB ((bs.drop 19).take 4) = k.all
theorem tells_head {room : Nat} {h : Hd} (ho : h.Ok room) : Tells (formH h) h := by
  obtain ⟨b1, b2, b3⟩ := ho.bounds
  have hg := ho.gen
  exact ⟨by rw [formH_gen, numB_lit 8 _ (by omega)], formH_area h ho.area, by rw [formH_snap, numB_lit 4 _ (by omega)], by rw [formH_log, numB_lit 4 _ (by omega)], by rw [formH_all, numB_lit 4 _ (by omega)]⟩
theorem tells_zero : Tells (List.replicate 64 0) Hd.none := ⟨by decide, by decide, by decide, by decide, by decide⟩
set_option maxHeartbeats 4000000 in
set_option maxRecDepth 100000 in
/-- A sector that tells of generation 0 is no head. (Of a right head: the same walk up to region 4; there form's bytes are held against the sector's as strings.) -/
theorem parse_zero (bs : List Nat) (k : Hd) (ht : Tells bs k) (hlen : bs.length = 64) (hok : bytesOk bs) (b off c room : Nat) (hc : 64 ≤ c) (hc2 : c ≤ 9223372036854775807) (w : World) (hB : Bys w (some ⟨b, off, none⟩) bs) (hk : k.snap < 4294967296 ∧ k.log < 4294967296 ∧ k.all < 4294967296) (hr : room ≤ 100000)
    (hg : k.gen = 0) :
    Calls Try.prog 36 #[.slice (some ⟨b, off, none⟩) 64 c, .int .i64 (room : Int)] w fun e w' => e = .returned (.tuple #[.agg (headC Hd.none), .bool false]) ∧ Below w.heap.size w w' := by
  have HB := Lib.hid hB
  have HNs : Hid (∀ lo q c W, lo + q ≤ 64 → q ≤ 8 → Below w.heap.size w W → Calls Try.prog 44 #[.slice (some ⟨b, off + lo, none⟩) q c] W fun e w' => e = .returned (.int .u64 ((numB ((bs.drop lo).take q) : Nat) : Int)) ∧ W = w') := Lib.hid fun lo q c W h1 h2 h3 =>
    number_any _ q c _ (by rw [List.length_take, List.length_drop]; omega) h2 ((hok.drop lo).take q) W ((bys_part hB lo q (by omega)).below h3 (Nat.le_refl _))
  have HM : Hid (∀ W, Below w.heap.size w W → W.cell? ⟨b, off + 10, none⟩ = some (.int .u8 ((k.area : Nat) : Int))) := Lib.hid fun W h => by
    obtain ⟨b', o', e, hb, hcc⟩ := (hB.below h (Nat.le_refl _)) (by omega)
    cases e
    rw [hcc 10 (by omega), ht.area]
  have har : k.area < 256 := by rw [← ht.area]; exact hok 10
  obtain ⟨k1, k2, k3⟩ := hk
  have E1 : IntKind.i64.wrap (k.area : Int) = (k.area : Int) := IntWalk.i64_in _ (by omega)
  have E2 : IntKind.i64.wrap ((numB (List.take 4 (List.drop 11 bs)) : Nat) : Int) = ((numB (List.take 4 (List.drop 11 bs)) : Nat) : Int) := IntWalk.i64_in _ (by rw [ht.snap]; omega)
  have E3 : IntKind.i64.wrap ((numB (List.take 4 (List.drop 15 bs)) : Nat) : Int) = ((numB (List.take 4 (List.drop 15 bs)) : Nat) : Int) := IntWalk.i64_in _ (by rw [ht.log]; omega)
  have E4 : IntKind.i64.wrap ((numB (List.take 4 (List.drop 19 bs)) : Nat) : Int) = ((numB (List.take 4 (List.drop 19 bs)) : Nat) : Int) := IntWalk.i64_in _ (by rw [ht.all]; omega)
  have n2 : ¬ c = 2 := by omega
  have n11 : ¬ c = 11 := by omega
  have n15 : ¬ c = 15 := by omega
  have n19 : ¬ c = 19 := by omega
  have y10 : (10 : Int) ≤ (c : Int) := by omega
  have y15 : (15 : Int) ≤ (c : Int) := by omega
  have y19 : (19 : Int) ≤ (c : Int) := by omega
  have y23 : (23 : Int) ≤ (c : Int) := by omega
  have x10 : 10 ≤ c := by omega
  have x15 : 15 ≤ c := by omega
  have x19 : 19 ≤ c := by omega
  have x23 : 23 ≤ c := by omega
  have hB0 : Below w.heap.size w (w.alloc (.cells (headC Hd.none) 40)) := (by (repeat (first | exact Below.refl _ _ | assumption | (refine Below.allocT ?_ _) | refine Below.drew ?_ | refine below_drewN ?_ _ | (refine Below.then ?_ (by assumption)) | (refine Below.setRow ?_ ?_ _; rotate_left; (focus (first | exact Nat.lt_succ_self _ | ((repeat rw [World.size_alloc]); omega) | (simp; done) | (simp; omega) | omega))) | (refine Below.setCell ?_ ?_ _; rotate_left; (focus (first | exact Nat.lt_succ_self _ | ((repeat rw [World.size_alloc]); omega) | (simp; done) | (simp; omega) | omega))) | (refine Below.then' ?_ (by assumption) ?_; rotate_left; (focus (first | exact Nat.lt_succ_self _ | ((repeat rw [World.size_alloc]); omega) | (simp; done) | (simp; omega) | omega))) | fail)); (first | done | fail))
  have r0 : row (w.alloc (.cells (headC Hd.none) 40)) w.heap.size = some (headC Hd.none) := (by (repeat (first | assumption | (refine row_at _ _ _ _ ?_; first | rfl | (simp only [World.size_alloc]; done) | (simp only [World.size_alloc]; omega)) | (refine (row_past _ _ _ ?_).trans ?_; (focus (first | exact Nat.lt_succ_self _ | ((repeat rw [World.size_alloc]); omega) | (simp; done) | (simp; omega) | omega))) | rw [row_drewN] | rw [row_drew])); (first | done | fail))
  have HT := Lib.hid ht
  clear ht hB
  go_enter Try.func36, Try.ntmps36
  go_upto_region 1 with fail
  change Code.wp _ _ _ _ (w.alloc (.cells (headC Hd.none) 40))
  generalize hw0 : w.alloc (.cells (headC Hd.none) 40) = w0 at *
  have HB0 := Lib.hid hB0
  have HR0 := Lib.hid r0
  clear hw0 r0 hB0
  go_upto_region 3 with fail
  go_cut [6] (fun s6 wx => ∃ (V : World) (g : Nat), s6 = .pointer (some ⟨g, 0, none⟩) ∧ V = wx ∧ Below w0.heap.size w0 V ∧ row V g = some #[.int .u64 ((numB (List.take 8 (List.drop 2 bs)) : Nat) : Int), .int .i64 (k.area : Int), .int .i64 ((numB (List.take 4 (List.drop 11 bs)) : Nat) : Int), .int .i64 ((numB (List.take 4 (List.drop 15 bs)) : Nat) : Int), .int .i64 ((numB (List.take 4 (List.drop 19 bs)) : Nat) : Int)])
  case first =>
    have HM2 : Hid (∀ W, Below w0.heap.size w0 W → W.cell? ⟨b, off + 10, none⟩ = some (.int .u8 ((k.area : Nat) : Int))) := Lib.hid fun W h => HM.out W (Below.then HB0.out h)
    go_region_held3 (fun W => W.cell? ⟨b, off + 10, none⟩ = some (.int .u8 ((k.area : Nat) : Int))) (exact HM2.out _ (by (repeat (first | exact Below.refl _ _ | assumption | (refine Below.allocT ?_ _) | refine Below.drew ?_ | refine below_drewN ?_ _ | (refine Below.then ?_ (by assumption)) | (refine Below.setRow ?_ ?_ _; rotate_left; (focus (first | exact Nat.lt_succ_self _ | ((repeat rw [World.size_alloc]); omega) | (simp; done) | (simp; omega) | omega))) | (refine Below.setCell ?_ ?_ _; rotate_left; (focus (first | exact Nat.lt_succ_self _ | ((repeat rw [World.size_alloc]); omega) | (simp; done) | (simp; omega) | omega))) | (refine Below.then' ?_ (by assumption) ?_; rotate_left; (focus (first | exact Nat.lt_succ_self _ | ((repeat rw [World.size_alloc]); omega) | (simp; done) | (simp; omega) | omega))) | fail)); (first | done | fail))) ((go_at_call 44; refine (HNs.out _ _ _ _ (by omega) (by omega) (Below.then HB0.out (by (repeat (first | exact Below.refl _ _ | assumption | (refine Below.allocT ?_ _) | refine Below.drew ?_ | refine below_drewN ?_ _ | (refine Below.then ?_ (by assumption)) | (refine Below.setRow ?_ ?_ _; rotate_left; (focus (first | exact Nat.lt_succ_self _ | ((repeat rw [World.size_alloc]); omega) | (simp; done) | (simp; omega) | omega))) | (refine Below.setCell ?_ ?_ _; rotate_left; (focus (first | exact Nat.lt_succ_self _ | ((repeat rw [World.size_alloc]); omega) | (simp; done) | (simp; omega) | omega))) | (refine Below.then' ?_ (by assumption) ?_; rotate_left; (focus (first | exact Nat.lt_succ_self _ | ((repeat rw [World.size_alloc]); omega) | (simp; done) | (simp; omega) | omega))) | fail)); (first | done | fail)))).mono ?_; rintro e w1 ⟨rfl, rfl⟩))
    all_goals
      go_wp2_with fail
      go_meet
      first
        | exact ⟨_, _, rfl, rfl, (by (repeat (first | exact Below.refl _ _ | assumption | (refine Below.allocT ?_ _) | refine Below.drew ?_ | refine below_drewN ?_ _ | (refine Below.then ?_ (by assumption)) | (refine Below.setRow ?_ ?_ _; rotate_left; (focus (first | exact Nat.lt_succ_self _ | ((repeat rw [World.size_alloc]); omega) | (simp; done) | (simp; omega) | omega))) | (refine Below.setCell ?_ ?_ _; rotate_left; (focus (first | exact Nat.lt_succ_self _ | ((repeat rw [World.size_alloc]); omega) | (simp; done) | (simp; omega) | omega))) | (refine Below.then' ?_ (by assumption) ?_; rotate_left; (focus (first | exact Nat.lt_succ_self _ | ((repeat rw [World.size_alloc]); omega) | (simp; done) | (simp; omega) | omega))) | fail)); (first | done | fail)), row_at _ _ _ _ rfl⟩
        | exact ⟨_, _, rfl, rfl, (by (repeat (first | exact Below.refl _ _ | assumption | (refine Below.allocT ?_ _) | refine Below.drew ?_ | refine below_drewN ?_ _ | (refine Below.then ?_ (by assumption)) | (refine Below.setRow ?_ ?_ _; rotate_left; (focus (first | exact Nat.lt_succ_self _ | ((repeat rw [World.size_alloc]); omega) | (simp; done) | (simp; omega) | omega))) | (refine Below.setCell ?_ ?_ _; rotate_left; (focus (first | exact Nat.lt_succ_self _ | ((repeat rw [World.size_alloc]); omega) | (simp; done) | (simp; omega) | omega))) | (refine Below.then' ?_ (by assumption) ?_; rotate_left; (focus (first | exact Nat.lt_succ_self _ | ((repeat rw [World.size_alloc]); omega) | (simp; done) | (simp; omega) | omega))) | fail)); (first | done | fail)), (by (repeat (first | assumption | (refine row_at _ _ _ _ ?_; first | rfl | (simp only [World.size_alloc]; done) | (simp only [World.size_alloc]; omega)) | (refine (row_past _ _ _ ?_).trans ?_; (focus (first | exact Nat.lt_succ_self _ | ((repeat rw [World.size_alloc]); omega) | (simp; done) | (simp; omega) | omega))) | rw [row_drewN] | rw [row_drew])); (first | done | fail))⟩
  case rest =>
    obtain ⟨V, g, rfl, rfl, hBV, rV⟩ := hcut
    rw [HT.out.gen, HT.out.snap, HT.out.log, HT.out.all] at rV
    have rV' : row V g = some (headC k) := rV
    have HV := Lib.hid (And.intro hBV rV')
    have HR := Lib.hid ((row_below hBV (row_lt HR0.out)).trans HR0.out)
    clear rV rV' hBV HNs HM
    have v0 : V.cell? ⟨g, 0, none⟩ = some (.int .u64 (k.gen : Int)) := row_cell HV.out.2 0
    have e0 : ((k.gen : Int) == 0) = true := beq_iff_eq.2 (by omega)
    have HB2 := Lib.hid (Below.then HB0.out HV.out.1)
    have HMv : Hid (∀ W, Below V.heap.size V W → W.cell? ⟨g, 0, none⟩ = some (.int .u64 (k.gen : Int)) ∧ row W w.heap.size = some (headC Hd.none)) := Lib.hid fun W h => ⟨row_cell ((row_below h (row_lt HV.out.2)).trans HV.out.2) 0, (row_below h (row_lt HR.out)).trans HR.out⟩
    clear v0 hg
    go_upto_region 4 with fail
    (refine wp_region_calm (by kernel_rfl) (by kernel_rfl) ?_; (repeat (first | go_big_quiet_skip | (go_big_quiet_want; apply calm_val; (focus (intro w' hb'; obtain ⟨q1, q2⟩ := HMv.out w' hb'; first | (unfold Oper.quietAt; go_simp; first | rfl))); (try simp only [Act.put, List.setIfInBounds_toArray, List.set_cons_zero, List.set_cons_succ]); go_big_quiet_on))); refine wpQuiet_nil ?_; intro w' hb')
    have r0 := (HMv.out w' hb').2
    have hx0 : (row w' w.heap.size).map (·.size) = some 5 := by rw [r0]; rfl
    have HB3 := Lib.hid (Below.then HB2.out hb')
    clear hb'
    go_wp2_with fail
    obtain ⟨t, htt⟩ := row_heap (row_setRow (new := headC Hd.none) r0)
    exact bodyPost_ret (v := .tuple #[.agg (headC Hd.none), .bool false]) (results_cell_tmp Try.results36 _ _ (w.heap.size) t (headC Hd.none) (0, 0) _ rfl htt hd_under rfl hd_info) rfl ⟨rfl, Below.setRow HB3.out (Nat.le_refl _) _⟩
end Go.Proofs.Ytkkncijbedfdfaa
