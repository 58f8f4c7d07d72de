/-
  Reports: what they hold, how they lie in memory; when one is right.
-/
import Derived.Test.YtnakkjgnjffkpaaOwnA
import Derived.Test.YtnakkjgnjffkpaaSt
import Derived.Test.YtnakkjgnjffkpaaBits
namespace Go.Proofs.Ytnakkjgnjffkpaa
open Go.RowKit
set_option linter.unusedVariables false

structure Rep where
  epoch : Int
  mode : Int
  quorum : Bool
  present : Nat
  active : Nat
  minted : Nat
  paid : Nat
  kept : Nat
  burned : Nat
  fees : Nat
  out : List Int
  left : List Int
  started : List Int
  done : List Int
/-- Where a report's lists lie. -/
structure RepA where
  a1 : Option Addr
  c1 : Nat
  a2 : Option Addr
  c2 : Nat
  a3 : Option Addr
  c3 : Nat
  a4 : Option Addr
  c4 : Nat
def intK (z : Int) : Array Value := #[.int .i64 z]
theorem intK_size (z : Int) : (intK z).size = 1 := rfl
theorem intK_one (z : Int) : allOne (intK z) = true := by unfold allOne intK; simp [Value.oneCell']
def repC (x : Rep × RepA) : Array Value := #[.int .i64 x.1.epoch, .int .i64 x.1.mode, .bool x.1.quorum, .int .u64 x.1.present, .int .u64 x.1.active, .int .u64 x.1.minted, .int .u64 x.1.paid, .int .u64 x.1.kept, .int .u64 x.1.burned, .int .u64 x.1.fees, .slice x.2.a1 x.1.out.length x.2.c1, .slice x.2.a2 x.1.left.length x.2.c2, .slice x.2.a3 x.1.started.length x.2.c3, .slice x.2.a4 x.1.done.length x.2.c4]
theorem repC_size (x : Rep × RepA) : (repC x).size = 14 := rfl
theorem repC_one (x : Rep × RepA) : allOne (repC x) = true := by unfold allOne repC; simp [Value.oneCell']
theorem repC_at0 (r : Rep) (a : RepA) : (repC (r, a))[0]? = some (.int .i64 r.epoch) := rfl
theorem repC_at1 (r : Rep) (a : RepA) : (repC (r, a))[1]? = some (.int .i64 r.mode) := rfl
theorem repC_at2 (r : Rep) (a : RepA) : (repC (r, a))[2]? = some (.bool r.quorum) := rfl
theorem repC_at3 (r : Rep) (a : RepA) : (repC (r, a))[3]? = some (.int .u64 r.present) := rfl
theorem repC_at4 (r : Rep) (a : RepA) : (repC (r, a))[4]? = some (.int .u64 r.active) := rfl
theorem repC_at5 (r : Rep) (a : RepA) : (repC (r, a))[5]? = some (.int .u64 r.minted) := rfl
theorem repC_at6 (r : Rep) (a : RepA) : (repC (r, a))[6]? = some (.int .u64 r.paid) := rfl
theorem repC_at7 (r : Rep) (a : RepA) : (repC (r, a))[7]? = some (.int .u64 r.kept) := rfl
theorem repC_at8 (r : Rep) (a : RepA) : (repC (r, a))[8]? = some (.int .u64 r.burned) := rfl
theorem repC_at9 (r : Rep) (a : RepA) : (repC (r, a))[9]? = some (.int .u64 r.fees) := rfl
theorem repC_at10 (r : Rep) (a : RepA) : (repC (r, a))[10]? = some (.slice a.a1 r.out.length a.c1) := rfl
theorem repC_at11 (r : Rep) (a : RepA) : (repC (r, a))[11]? = some (.slice a.a2 r.left.length a.c2) := rfl
theorem repC_at12 (r : Rep) (a : RepA) : (repC (r, a))[12]? = some (.slice a.a3 r.started.length a.c3) := rfl
theorem repC_at13 (r : Rep) (a : RepA) : (repC (r, a))[13]? = some (.slice a.a4 r.done.length a.c4) := rfl
attribute [go_sem] repC_at0 repC_at1 repC_at2 repC_at3 repC_at4 repC_at5 repC_at6 repC_at7 repC_at8 repC_at9 repC_at10 repC_at11 repC_at12 repC_at13 repC_size
/-- A report's lists lie where its slices say. -/
structure RepAt (W : World) (x : Rep × RepA) : Prop where
  out : SliceOf 1 intK W x.2.a1 x.1.out
  left : SliceOf 1 intK W x.2.a2 x.1.left
  started : SliceOf 1 intK W x.2.a3 x.1.started
  done : SliceOf 1 intK W x.2.a4 x.1.done
  n1 : x.2.a1 = none → x.2.c1 = 0
  n2 : x.2.a2 = none → x.2.c2 = 0
  n3 : x.2.a3 = none → x.2.c3 = 0
  n4 : x.2.a4 = none → x.2.c4 = 0
structure Rep.Ok (r : Rep) : Prop where
  epoch : i64ok r.epoch
  mode : i64ok r.mode
  present : r.present < 18446744073709551616
  active : r.active < 18446744073709551616
  minted : r.minted < 18446744073709551616
  paid : r.paid < 18446744073709551616
  kept : r.kept < 18446744073709551616
  burned : r.burned < 18446744073709551616
  fees : r.fees < 18446744073709551616
  out : r.out.length ≤ 9223372036854775807
  left : r.left.length ≤ 9223372036854775807
  started : r.started.length ≤ 9223372036854775807
  done : r.done.length ≤ 9223372036854775807
theorem RepAt.stay {W W' : World} {x : Rep × RepA} (h : RepAt W x) (hb : Below W.heap.size W W') : RepAt W' x := ⟨h.out.below hb (Nat.le_refl _), h.left.below hb (Nat.le_refl _), h.started.below hb (Nat.le_refl _), h.done.below hb (Nat.le_refl _), h.n1, h.n2, h.n3, h.n4⟩
theorem RepAt.below {W W' : World} {B : Nat} {x : Rep × RepA} (h : RepAt W x) (hb : Below B W W') (hB : W.heap.size ≤ B) : RepAt W' x := ⟨h.out.below hb hB, h.left.below hb hB, h.started.below hb hB, h.done.below hb hB, h.n1, h.n2, h.n3, h.n4⟩
theorem int_at {W : World} {A : Option Addr} {l : List Int} {j : Nat} {z : Int} (h : SliceOf 1 intK W A l) (hj : l[j]? = some z) : ∃ b off, A = some ⟨b, off, none⟩ ∧ b < W.heap.size ∧ W.cell? ⟨b, off + j, none⟩ = some (.int .i64 z) := by
  obtain ⟨b, off, ha, hb, hx⟩ := h (by have := (List.getElem?_eq_some_iff.1 hj).1; omega)
  refine ⟨b, off, ha, hb, ?_⟩
  have := hx j z hj 0 (.int .i64 z) rfl
  rwa [Nat.mul_one, Nat.add_zero] at this
def betB (n lo hi : Int) : Bool := decide (lo ≤ n ∧ n ≤ hi)
def placesB (l : List Int) (e : Int) : Bool := decide ((∀ z ∈ l, 0 ≤ z ∧ z ≤ e - 1) ∧ (l.length : Int) ≤ e)
def money7 (r : Rep) : List Nat := [r.present, r.active, r.minted, r.paid, r.kept, r.burned, r.fees]
def all7 (r : Rep) : Bool := decide (∀ n ∈ money7 r, n ≤ 4611686018427387904)
def rightA (r : Rep) : Bool := all7 r && (betB r.epoch 0 1073741824 && (betB r.mode 1 4 && (decide (r.paid + r.kept = r.minted) && (placesB r.out 128 && (placesB r.left 128 && (placesB r.started 128 && placesB r.done 32))))))
theorem rep_under : Try.prog.underlying 36 = some (.struct (Try.prog.fieldsOf 36)) := by kernel_rfl
theorem rep_info : (Try.prog.info? 36).map (·.size) = some 14 := by kernel_rfl
theorem rep_load {dst : Option Tmp} {x : Operand} {ty : TypeId} {pos : String} {after : Array Edge} {gd : Option (Nat × Bool)} {a : Act} {w : World} {K : Act → World → Prop} {Q : Exit → Act → World → Prop} (h1 : a.eval x = .pointer (some ⟨blk (a.eval x), ofs (a.eval x), none⟩)) (h2 : (row w (blk (a.eval x))).map (roomy (ofs (a.eval x)) 14) = some true) : Oper.wp Try.prog ⟨dst, .load 36 x, ty, pos, after, gd⟩ a w K Q = K (a.put dst (.agg (((row w (blk (a.eval x))).getD #[]).extract (ofs (a.eval x)) (ofs (a.eval x) + 14)))) w := wp_load_part _ 14 _ rep_under rfl rep_info h1 h2
theorem rep_store {dst : Option Tmp} {x : Operand} {ty : TypeId} {pos : String} {after : Array Edge} {gd : Option (Nat × Bool)} {y : Operand} {a : Act} {w : World} {K : Act → World → Prop} {Q : Exit → Act → World → Prop} (h1 : a.eval x = .pointer (some ⟨blk (a.eval x), 0, none⟩)) (h2 : (row w (blk (a.eval x))).map (·.size) = some 14) (h3 : a.eval y = .agg (aggOf (a.eval y))) (h4 : (aggOf (a.eval y)).size = 14) (h5 : allOne (aggOf (a.eval y)) = true) : Oper.wp Try.prog ⟨dst, .store 36 x y, ty, pos, after, gd⟩ a w K Q = K (a.put dst undef) (w.setRow (blk (a.eval x)) (aggOf (a.eval y))) := wp_store_agg _ 14 rep_info h1 h2 h3 h4 h5
theorem rep_run_load {ρ : Operand → Value} {dst : Option Tmp} {x : Operand} {ty : TypeId} {pos : String} {after : Array Edge} {gd : Option (Nat × Bool)} {w : World} (h1 : ρ x = .pointer (some ⟨blk (ρ x), ofs (ρ x), none⟩)) (h2 : (row w (blk (ρ x))).map (roomy (ofs (ρ x)) 14) = some true) : (execOp ρ ⟨dst, .load 36 x, ty, pos, after, gd⟩).run Try.prog w = .ok (.value (.agg (((row w (blk (ρ x))).getD #[]).extract (ofs (ρ x)) (ofs (ρ x) + 14)))) w := run_load_part _ 14 _ rep_under rfl rep_info h1 h2
theorem rep_quiet {C : World → Prop} {dst : Option Tmp} {x : Operand} {ty : TypeId} {pos : String} {after : Array Edge} {gd : Option (Nat × Bool)} {a : Act} {w : World} {g o : Nat} {cs : Array Value} (h1 : a.eval x = .pointer (some ⟨g, o, none⟩)) (h2 : row w g = some cs) (hs : roomy o 14 cs = true) : Oper.quietAt Try.prog ⟨dst, .load 36 x, ty, pos, after, gd⟩ a C w (.agg (cs.extract o (o + 14))) := quiet_load_part _ 14 _ rep_under rfl rep_info h1 h2 hs
attribute [go_sem ↓] rep_load rep_store rep_run_load
theorem rrep_under : Try.prog.underlying 40 = some (.struct (Try.prog.fieldsOf 40)) := by kernel_rfl
theorem rrep_info : (Try.prog.info? 40).map (·.size) = some 14 := by kernel_rfl
theorem rrep_load {dst : Option Tmp} {x : Operand} {ty : TypeId} {pos : String} {after : Array Edge} {gd : Option (Nat × Bool)} {a : Act} {w : World} {K : Act → World → Prop} {Q : Exit → Act → World → Prop} (h1 : a.eval x = .pointer (some ⟨blk (a.eval x), ofs (a.eval x), none⟩)) (h2 : (row w (blk (a.eval x))).map (roomy (ofs (a.eval x)) 14) = some true) : Oper.wp Try.prog ⟨dst, .load 40 x, ty, pos, after, gd⟩ a w K Q = K (a.put dst (.agg (((row w (blk (a.eval x))).getD #[]).extract (ofs (a.eval x)) (ofs (a.eval x) + 14)))) w := wp_load_part _ 14 _ rrep_under rfl rrep_info h1 h2
theorem rrep_store {dst : Option Tmp} {x : Operand} {ty : TypeId} {pos : String} {after : Array Edge} {gd : Option (Nat × Bool)} {y : Operand} {a : Act} {w : World} {K : Act → World → Prop} {Q : Exit → Act → World → Prop} (h1 : a.eval x = .pointer (some ⟨blk (a.eval x), 0, none⟩)) (h2 : (row w (blk (a.eval x))).map (·.size) = some 14) (h3 : a.eval y = .agg (aggOf (a.eval y))) (h4 : (aggOf (a.eval y)).size = 14) (h5 : allOne (aggOf (a.eval y)) = true) : Oper.wp Try.prog ⟨dst, .store 40 x y, ty, pos, after, gd⟩ a w K Q = K (a.put dst undef) (w.setRow (blk (a.eval x)) (aggOf (a.eval y))) := wp_store_agg _ 14 rrep_info h1 h2 h3 h4 h5
theorem rrep_run_load {ρ : Operand → Value} {dst : Option Tmp} {x : Operand} {ty : TypeId} {pos : String} {after : Array Edge} {gd : Option (Nat × Bool)} {w : World} (h1 : ρ x = .pointer (some ⟨blk (ρ x), ofs (ρ x), none⟩)) (h2 : (row w (blk (ρ x))).map (roomy (ofs (ρ x)) 14) = some true) : (execOp ρ ⟨dst, .load 40 x, ty, pos, after, gd⟩).run Try.prog w = .ok (.value (.agg (((row w (blk (ρ x))).getD #[]).extract (ofs (ρ x)) (ofs (ρ x) + 14)))) w := run_load_part _ 14 _ rrep_under rfl rrep_info h1 h2
theorem rrep_quiet {C : World → Prop} {dst : Option Tmp} {x : Operand} {ty : TypeId} {pos : String} {after : Array Edge} {gd : Option (Nat × Bool)} {a : Act} {w : World} {g o : Nat} {cs : Array Value} (h1 : a.eval x = .pointer (some ⟨g, o, none⟩)) (h2 : row w g = some cs) (hs : roomy o 14 cs = true) : Oper.quietAt Try.prog ⟨dst, .load 40 x, ty, pos, after, gd⟩ a C w (.agg (cs.extract o (o + 14))) := quiet_load_part _ 14 _ rrep_under rfl rrep_info h1 h2 hs
attribute [go_sem ↓] rrep_load rrep_store rrep_run_load
theorem within38_any (n lo hi : Int) (w : World) : Calls Try.prog 52 #[.int .i64 n, .int .i64 lo, .int .i64 hi] w fun e w' => e = .returned (.bool (betB n lo hi)) ∧ w = w' := by
  by_cases h1 : lo ≤ n
  · by_cases h2 : n ≤ hi
    · have HV : Hid (betB n lo hi = true) := Lib.hid (decide_eq_true ⟨h1, h2⟩)
      go_enter Try.func52, Try.ntmps52
      go_wp2_with fail
      go_ret
      exact ⟨by rw [HV.out]; rfl, rfl⟩
    · have HV : Hid (betB n lo hi = false) := Lib.hid (decide_eq_false fun h => h2 h.2)
      go_enter Try.func52, Try.ntmps52
      go_wp2_with fail
      go_ret
      exact ⟨by rw [HV.out]; rfl, rfl⟩
  · have HV : Hid (betB n lo hi = false) := Lib.hid (decide_eq_false fun h => h1 h.1)
    go_enter Try.func52, Try.ntmps52
    go_wp2_with fail
    go_ret
    exact ⟨by rw [HV.out]; rfl, rfl⟩
theorem in38_any (n lo hi : Int) (w : World) : Calls Try.prog 66 #[.int .i64 n, .int .i64 lo, .int .i64 hi] w fun e w' => e = .returned (.bool (betB n lo hi)) ∧ w = w' := by
  by_cases h1 : lo ≤ n
  · by_cases h2 : n ≤ hi
    · have HV : Hid (betB n lo hi = true) := Lib.hid (decide_eq_true ⟨h1, h2⟩)
      go_enter Try.func66, Try.ntmps66
      go_wp2_with fail
      go_ret
      exact ⟨by rw [HV.out]; rfl, rfl⟩
    · have HV : Hid (betB n lo hi = false) := Lib.hid (decide_eq_false fun h => h2 h.2)
      go_enter Try.func66, Try.ntmps66
      go_wp2_with fail
      go_ret
      exact ⟨by rw [HV.out]; rfl, rfl⟩
  · have HV : Hid (betB n lo hi = false) := Lib.hid (decide_eq_false fun h => h1 h.1)
    go_enter Try.func66, Try.ntmps66
    go_wp2_with fail
    go_ret
    exact ⟨by rw [HV.out]; rfl, rfl⟩
set_option maxHeartbeats 2000000 in
theorem places38_any (A : Option Addr) (n c : Nat) (xs : List Int) (e : Int) (he : e = 128 ∨ e = 32) (hn : xs.length = n) (hm : n ≤ 9223372036854775807) (w : World) (hU : SliceOf 1 intK w A xs) : Calls Try.prog 112 #[.slice A n c, .int .i64 e] w fun e' w' => e' = .returned (.bool (placesB xs e)) ∧ w = w' := by
  have HN := Lib.hid hn
  have HU := Lib.hid hU
  have E1 : IntKind.i64.wrap (e - 1) = e - 1 := by rw [IntKind.wrap_i64]; omega
  clear hn hU he
  go_enter Try.func112, Try.ntmps112
  go_wp2_with fail
  go_loopw [9] (fun i wr => ∃ j : Nat, i = .int .i64 j ∧ j ≤ n ∧ Hid (∀ z ∈ xs.take j, 0 ≤ z ∧ z ≤ e - 1) ∧ wr = w) (fun i _ => n - (intOf i).toNat)
  case atStart => exact ⟨0, rfl, by omega, Lib.hid (by simp), rfl⟩
  case round =>
    obtain ⟨j, rfl, hj, hI, rfl⟩ := hrel
    by_cases hlt : j < n
    · obtain ⟨z, hz⟩ : ∃ z, xs[j]? = some z := ⟨_, List.getElem?_eq_getElem (by rw [HN.out]; exact hlt)⟩
      obtain ⟨b, off, rfl, _, kz⟩ := int_at HU.out hz
      have HZ := Lib.hid hz
      have HB := Lib.hid (fun W => within38_any z 0 (e - 1) W)
      have z1 : (0 : Int) ≤ (j : Int) := by omega
      have z2 : (j : Int) < (n : Int) := by omega
      clear hz
      generalize hbb : betB z 0 (e - 1) = bb at *
      have HBB := Lib.hid hbb
      clear hbb
      go_wp2_with fail
      refine (HB.out _).mono ?_
      rintro e' w1 ⟨rfl, rfl⟩
      cases bb
      · have HV : Hid (placesB xs e = false) := Lib.hid (decide_eq_false fun h => of_decide_eq_false HBB.out (h.1 z (List.mem_of_getElem? HZ.out)))
        go_wp2_with fail
        go_ret
        exact ⟨by rw [HV.out]; rfl, rfl⟩
      · have HI2 : Hid (∀ z ∈ xs.take (j + 1), 0 ≤ z ∧ z ≤ e - 1) := Lib.hid fun y hy => by
          obtain ⟨hjl, hjz⟩ := List.getElem?_eq_some_iff.1 HZ.out
          rw [List.take_succ_eq_append_getElem hjl, hjz] at hy
          rcases List.mem_append.1 hy with hy | hy
          · exact hI.out y hy
          · rw [List.mem_singleton] at hy; subst hy; exact of_decide_eq_true HBB.out
        go_wp2_with fail
        exact ⟨⟨j + 1, by go_num, by omega, HI2, trivial⟩, by simp [intOf]; omega⟩
    · obtain rfl : j = n := by omega
      have HA : Hid (∀ z ∈ xs, 0 ≤ z ∧ z ≤ e - 1) := Lib.hid (by
        have := hI.out
        rwa [List.take_of_length_le (by rw [HN.out]; exact Nat.le_refl _)] at this)
      clear HU
      by_cases hle : (j : Int) ≤ e
      · have HV : Hid (placesB xs e = true) := Lib.hid (decide_eq_true ⟨HA.out, by rw [HN.out]; exact hle⟩)
        go_wp2_with fail
        go_ret
        exact ⟨by rw [HV.out]; rfl, rfl⟩
      · have HV : Hid (placesB xs e = false) := Lib.hid (decide_eq_false fun h => hle (by rw [← HN.out]; exact h.2))
        go_wp2_with fail
        go_ret
        exact ⟨by rw [HV.out]; rfl, rfl⟩
set_option maxHeartbeats 2000000 in
theorem rplaces38_any (A : Option Addr) (n c : Nat) (xs : List Int) (e : Int) (he : e = 128 ∨ e = 32) (hn : xs.length = n) (hm : n ≤ 9223372036854775807) (w : World) (hU : SliceOf 1 intK w A xs) : Calls Try.prog 67 #[.slice A n c, .int .i64 e] w fun e' w' => e' = .returned (.bool (placesB xs e)) ∧ w = w' := by
  have HN := Lib.hid hn
  have HU := Lib.hid hU
  have E1 : IntKind.i64.wrap (e - 1) = e - 1 := by rw [IntKind.wrap_i64]; omega
  clear hn hU he
  go_enter Try.func67, Try.ntmps67
  go_wp2_with fail
  go_loopw [5] (fun i wr => ∃ j : Nat, i = .int .i64 j ∧ j ≤ n ∧ Hid (∀ z ∈ xs.take j, 0 ≤ z ∧ z ≤ e - 1) ∧ wr = w) (fun i _ => n - (intOf i).toNat)
  case atStart => exact ⟨0, rfl, by omega, Lib.hid (by simp), rfl⟩
  case round =>
    obtain ⟨j, rfl, hj, hI, rfl⟩ := hrel
    by_cases hlt : j < n
    · obtain ⟨z, hz⟩ : ∃ z, xs[j]? = some z := ⟨_, List.getElem?_eq_getElem (by rw [HN.out]; exact hlt)⟩
      obtain ⟨b, off, rfl, _, kz⟩ := int_at HU.out hz
      have HZ := Lib.hid hz
      have HB := Lib.hid (fun W => in38_any z 0 (e - 1) W)
      have z1 : (0 : Int) ≤ (j : Int) := by omega
      have z2 : (j : Int) < (n : Int) := by omega
      clear hz
      generalize hbb : betB z 0 (e - 1) = bb at *
      have HBB := Lib.hid hbb
      clear hbb
      go_wp2_with fail
      refine (HB.out _).mono ?_
      rintro e' w1 ⟨rfl, rfl⟩
      cases bb
      · have HV : Hid (placesB xs e = false) := Lib.hid (decide_eq_false fun h => of_decide_eq_false HBB.out (h.1 z (List.mem_of_getElem? HZ.out)))
        go_wp2_with fail
        go_ret
        exact ⟨by rw [HV.out]; rfl, rfl⟩
      · have HI2 : Hid (∀ z ∈ xs.take (j + 1), 0 ≤ z ∧ z ≤ e - 1) := Lib.hid fun y hy => by
          obtain ⟨hjl, hjz⟩ := List.getElem?_eq_some_iff.1 HZ.out
          rw [List.take_succ_eq_append_getElem hjl, hjz] at hy
          rcases List.mem_append.1 hy with hy | hy
          · exact hI.out y hy
          · rw [List.mem_singleton] at hy; subst hy; exact of_decide_eq_true HBB.out
        go_wp2_with fail
        exact ⟨⟨j + 1, by go_num, by omega, HI2, trivial⟩, by simp [intOf]; omega⟩
    · obtain rfl : j = n := by omega
      have HA : Hid (∀ z ∈ xs, 0 ≤ z ∧ z ≤ e - 1) := Lib.hid (by
        have := hI.out
        rwa [List.take_of_length_le (by rw [HN.out]; exact Nat.le_refl _)] at this)
      clear HU
      by_cases hle : (j : Int) ≤ e
      · have HV : Hid (placesB xs e = true) := Lib.hid (decide_eq_true ⟨HA.out, by rw [HN.out]; exact hle⟩)
        go_wp2_with fail
        go_ret
        exact ⟨by rw [HV.out]; rfl, rfl⟩
      · have HV : Hid (placesB xs e = false) := Lib.hid (decide_eq_false fun h => hle (by rw [← HN.out]; exact h.2))
        go_wp2_with fail
        go_ret
        exact ⟨by rw [HV.out]; rfl, rfl⟩
end Go.Proofs.Ytnakkjgnjffkpaa
