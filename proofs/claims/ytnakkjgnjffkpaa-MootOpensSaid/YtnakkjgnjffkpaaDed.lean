/-
  Deeds that move a motion: what they hold, and when they are right, in the program and in the reference.
-/
import Derived.Test.YtnakkjgnjffkpaaMot
import Derived.Test.YtnakkjgnjffkpaaPl07
import Derived.Test.YtnakkjgnjffkpaaCalmV
import Derived.IntWalk
import Derived.Deep.Cut
import Derived.Deep.DeepCutAuto
import Derived.Deep.MidRow
import Derived.RegionTactic
namespace Go.Proofs.Ytnakkjgnjffkpaa
open Go.RowKit
set_option linter.unusedVariables false

theorem parp_under : Try.prog.underlying 76 = some (.struct (Try.prog.fieldsOf 76)) := by kernel_rfl
theorem parp_info : (Try.prog.info? 76).map (·.size) = some 24 := by kernel_rfl
theorem parp_load {dst : Option Tmp} {x : Operand} {ty : TypeId} {pos : String} {after : Array Edge} {gd : Option (Nat × Bool)} {a : Act} {w : World} {K : Act → World → Prop} {Q : Exit → Act → World → Prop} (h1 : a.eval x = .pointer (some ⟨blk (a.eval x), ofs (a.eval x), none⟩)) (h2 : (row w (blk (a.eval x))).map (roomy (ofs (a.eval x)) 24) = some true) : Oper.wp Try.prog ⟨dst, .load 76 x, ty, pos, after, gd⟩ a w K Q = K (a.put dst (.agg (((row w (blk (a.eval x))).getD #[]).extract (ofs (a.eval x)) (ofs (a.eval x) + 24)))) w := wp_load_part _ 24 _ parp_under rfl parp_info h1 h2
theorem parp_store {dst : Option Tmp} {x : Operand} {ty : TypeId} {pos : String} {after : Array Edge} {gd : Option (Nat × Bool)} {y : Operand} {a : Act} {w : World} {K : Act → World → Prop} {Q : Exit → Act → World → Prop} (h1 : a.eval x = .pointer (some ⟨blk (a.eval x), 0, none⟩)) (h2 : (row w (blk (a.eval x))).map (·.size) = some 24) (h3 : a.eval y = .agg (aggOf (a.eval y))) (h4 : (aggOf (a.eval y)).size = 24) (h5 : allOne (aggOf (a.eval y)) = true) : Oper.wp Try.prog ⟨dst, .store 76 x y, ty, pos, after, gd⟩ a w K Q = K (a.put dst undef) (w.setRow (blk (a.eval x)) (aggOf (a.eval y))) := wp_store_agg _ 24 parp_info h1 h2 h3 h4 h5
theorem parp_run_load {ρ : Operand → Value} {dst : Option Tmp} {x : Operand} {ty : TypeId} {pos : String} {after : Array Edge} {gd : Option (Nat × Bool)} {w : World} (h1 : ρ x = .pointer (some ⟨blk (ρ x), ofs (ρ x), none⟩)) (h2 : (row w (blk (ρ x))).map (roomy (ofs (ρ x)) 24) = some true) : (execOp ρ ⟨dst, .load 76 x, ty, pos, after, gd⟩).run Try.prog w = .ok (.value (.agg (((row w (blk (ρ x))).getD #[]).extract (ofs (ρ x)) (ofs (ρ x) + 24)))) w := run_load_part _ 24 _ parp_under rfl parp_info h1 h2
theorem parp_quiet {C : World → Prop} {dst : Option Tmp} {x : Operand} {ty : TypeId} {pos : String} {after : Array Edge} {gd : Option (Nat × Bool)} {a : Act} {w : World} {g o : Nat} {cs : Array Value} (h1 : a.eval x = .pointer (some ⟨g, o, none⟩)) (h2 : row w g = some cs) (hs : roomy o 24 cs = true) : Oper.quietAt Try.prog ⟨dst, .load 76 x, ty, pos, after, gd⟩ a C w (.agg (cs.extract o (o + 24))) := quiet_load_part _ 24 _ parp_under rfl parp_info h1 h2 hs
attribute [go_sem ↓] parp_load parp_store parp_run_load
theorem rparp_under : Try.prog.underlying 88 = some (.struct (Try.prog.fieldsOf 88)) := by kernel_rfl
theorem rparp_info : (Try.prog.info? 88).map (·.size) = some 24 := by kernel_rfl
theorem rparp_load {dst : Option Tmp} {x : Operand} {ty : TypeId} {pos : String} {after : Array Edge} {gd : Option (Nat × Bool)} {a : Act} {w : World} {K : Act → World → Prop} {Q : Exit → Act → World → Prop} (h1 : a.eval x = .pointer (some ⟨blk (a.eval x), ofs (a.eval x), none⟩)) (h2 : (row w (blk (a.eval x))).map (roomy (ofs (a.eval x)) 24) = some true) : Oper.wp Try.prog ⟨dst, .load 88 x, ty, pos, after, gd⟩ a w K Q = K (a.put dst (.agg (((row w (blk (a.eval x))).getD #[]).extract (ofs (a.eval x)) (ofs (a.eval x) + 24)))) w := wp_load_part _ 24 _ rparp_under rfl rparp_info h1 h2
theorem rparp_store {dst : Option Tmp} {x : Operand} {ty : TypeId} {pos : String} {after : Array Edge} {gd : Option (Nat × Bool)} {y : Operand} {a : Act} {w : World} {K : Act → World → Prop} {Q : Exit → Act → World → Prop} (h1 : a.eval x = .pointer (some ⟨blk (a.eval x), 0, none⟩)) (h2 : (row w (blk (a.eval x))).map (·.size) = some 24) (h3 : a.eval y = .agg (aggOf (a.eval y))) (h4 : (aggOf (a.eval y)).size = 24) (h5 : allOne (aggOf (a.eval y)) = true) : Oper.wp Try.prog ⟨dst, .store 88 x y, ty, pos, after, gd⟩ a w K Q = K (a.put dst undef) (w.setRow (blk (a.eval x)) (aggOf (a.eval y))) := wp_store_agg _ 24 rparp_info h1 h2 h3 h4 h5
theorem rparp_run_load {ρ : Operand → Value} {dst : Option Tmp} {x : Operand} {ty : TypeId} {pos : String} {after : Array Edge} {gd : Option (Nat × Bool)} {w : World} (h1 : ρ x = .pointer (some ⟨blk (ρ x), ofs (ρ x), none⟩)) (h2 : (row w (blk (ρ x))).map (roomy (ofs (ρ x)) 24) = some true) : (execOp ρ ⟨dst, .load 88 x, ty, pos, after, gd⟩).run Try.prog w = .ok (.value (.agg (((row w (blk (ρ x))).getD #[]).extract (ofs (ρ x)) (ofs (ρ x) + 24)))) w := run_load_part _ 24 _ rparp_under rfl rparp_info h1 h2
theorem rparp_quiet {C : World → Prop} {dst : Option Tmp} {x : Operand} {ty : TypeId} {pos : String} {after : Array Edge} {gd : Option (Nat × Bool)} {a : Act} {w : World} {g o : Nat} {cs : Array Value} (h1 : a.eval x = .pointer (some ⟨g, o, none⟩)) (h2 : row w g = some cs) (hs : roomy o 24 cs = true) : Oper.quietAt Try.prog ⟨dst, .load 88 x, ty, pos, after, gd⟩ a C w (.agg (cs.extract o (o + 24))) := quiet_load_part _ 24 _ rparp_under rfl rparp_info h1 h2 hs
attribute [go_sem ↓] rparp_load rparp_store rparp_run_load
theorem rpar_build0 {dst : Option Tmp} {ty : TypeId} {pos : String} {after : Array Edge} {gd : Option (Nat × Bool)} {a : Act} {w : World} {K : Act → World → Prop} {Q : Exit → Act → World → Prop} :
    Oper.wp Try.prog ⟨dst, .build 88 #[], ty, pos, after, gd⟩ a w K Q = K (a.put dst (.agg zeroP.cells)) w := by
  have h : Try.prog.built 88 [] = some zeroP.cells := by kernel_rfl
  unfold Oper.wp execOp
  simp [run_build, h]
  rfl
attribute [go_sem ↓] rpar_build0
theorem of_world {P : Program} {c : Code} {a : Act} {Q : Exit → Act → World → Prop} {W : World} (S : World → Prop) (h : S W) (k : ∀ W, S W → Code.wp P c Q a W) : Code.wp P c Q a W := k W h
theorem of_world' {K : World → Prop} {W : World} (S : World → Prop) (h : S W) (k : ∀ W, S W → K W) : K W := k W h
theorem row_of_drew {w : World} {g : Nat} {cs : Array Value} (h : row w g = some cs) : row w.drew g = some cs := h
def setL : Array Value → Nat → List Value → Array Value
  | cs, _, [] => cs
  | cs, o, v :: r => setL (cs.setIfInBounds o v) (o + 1) r
theorem row_setL (b : Nat) : ∀ (vs : List Value) (o : Nat) (w : World) (cs : Array Value), row w b = some cs → row (w.setCells b o vs) b = some (setL cs o vs)
  | [], o, w, cs, h => h
  | v :: r, o, w, cs, h => row_setL b r (o + 1) (w.setCell ⟨b, o, none⟩ v) _ (row_set h o v)
theorem chg_setCells' {S : Nat → Prop} {w : World} {g : Nat} (hg : S g) : ∀ (vs : List Value) (o : Nat) (W : World), Chg S w W → Chg S w (W.setCells g o vs)
  | [], o, W, h => h
  | v :: r, o, W, h => chg_setCells' hg r (o + 1) _ (h.setCell (p := ⟨g, o, none⟩) (.inl hg) v)
theorem below_row {w W : World} {B g : Nat} {cs : Array Value} (h : Below B w W) (hr : row w g = some cs) (hg : g < B) : row W g = some cs := (row_below h hg).trans hr
structure Ded where
  kind : Int
  account : Int
  member : Int
  dest : Int
  amount : Nat
  epoch : Int
  bits : List Nat
  what : Int
  par : Par
  motion : Int
  yes : Bool
/-- Where a deed's bits lie. -/
structure DedA where
  a : Option Addr
  c : Nat
def DedA.nil : DedA := ⟨none, 0⟩
def dedC (x : Ded × DedA) : Array Value := #[.int .i64 x.1.kind, .int .i64 x.1.account, .int .i64 x.1.member, .int .i64 x.1.dest, .int .u64 ((x.1.amount : Nat) : Int), .int .i64 x.1.epoch, .slice x.2.a x.1.bits.length x.2.c, .int .i64 x.1.what, .int .u64 x.1.par.inc, .int .u64 x.1.par.maxEff, .int .u64 x.1.par.floor, .int .u64 x.1.par.cap, .int .u64 x.1.par.up, .int .u64 x.1.par.down, .int .u64 x.1.par.bias, .int .u64 x.1.par.quot, .int .u64 x.1.par.biasEm, .int .u64 x.1.par.quotEm, .int .u64 x.1.par.recover, .int .u64 x.1.par.scoreCap, .int .u64 x.1.par.rate, .int .u64 x.1.par.bond, .int .i64 x.1.par.delay, .int .i64 x.1.par.streak, .int .i64 x.1.par.boost, .int .i64 x.1.par.absent, .int .i64 x.1.par.burn, .int .i64 x.1.par.churn, .int .i64 x.1.par.wait, .int .i64 x.1.par.poll, .int .i64 x.1.par.enact, .int .i64 x.1.par.quorum, .int .i64 x.1.motion, .bool x.1.yes]
theorem dedC_size (x : Ded × DedA) : (dedC x).size = 34 := rfl
theorem dedC_one (x : Ded × DedA) : allOne (dedC x) = true := by unfold allOne dedC; simp [Value.oneCell']
theorem dedC_room (x : Ded × DedA) : roomy 0 34 (dedC x) = true := rfl
theorem dedC_roomp (x : Ded × DedA) : roomy 8 24 (dedC x) = true := rfl
theorem dedC_ext (x : Ded × DedA) : (dedC x).extract 0 34 = dedC x := by kernel_rfl
theorem dedC_par (x : Ded × DedA) : (dedC x).extract 8 32 = x.1.par.cells := by kernel_rfl
theorem dedC_at0 (x : Ded × DedA) : (dedC x)[0]? = some (.int .i64 x.1.kind) := rfl
theorem dedC_at1 (x : Ded × DedA) : (dedC x)[1]? = some (.int .i64 x.1.account) := rfl
theorem dedC_at2 (x : Ded × DedA) : (dedC x)[2]? = some (.int .i64 x.1.member) := rfl
theorem dedC_at3 (x : Ded × DedA) : (dedC x)[3]? = some (.int .i64 x.1.dest) := rfl
theorem dedC_at4 (x : Ded × DedA) : (dedC x)[4]? = some (.int .u64 (x.1.amount : Int)) := rfl
theorem dedC_at5 (x : Ded × DedA) : (dedC x)[5]? = some (.int .i64 x.1.epoch) := rfl
theorem dedC_at7 (x : Ded × DedA) : (dedC x)[7]? = some (.int .i64 x.1.what) := rfl
theorem dedC_at32 (x : Ded × DedA) : (dedC x)[32]? = some (.int .i64 x.1.motion) := rfl
theorem dedC_at6 (x : Ded × DedA) : (dedC x)[6]? = some (.slice x.2.a x.1.bits.length x.2.c) := rfl
theorem dedC_at33 (x : Ded × DedA) : (dedC x)[33]? = some (.bool x.1.yes) := rfl
attribute [go_sem] dedC_size dedC_one dedC_room dedC_roomp dedC_ext dedC_par dedC_at6 dedC_at33 dedC_at0 dedC_at1 dedC_at2 dedC_at3 dedC_at4 dedC_at5 dedC_at7 dedC_at32
def btw (n lo hi : Int) : Bool := decide (lo ≤ n ∧ n ≤ hi)
theorem setL_par (account : Int) (par : Par) : setL (dedC (⟨6, account, 0, 0, 0, 0, [], 1, zeroP, 0, false⟩, DedA.nil)) 8 par.cells.toList = dedC (⟨6, account, 0, 0, 0, 0, [], 1, par, 0, false⟩, DedA.nil) := by kernel_rfl
structure Ded.Ok (d : Ded) : Prop where
  kind : i64ok d.kind
  account : i64ok d.account
  member : i64ok d.member
  dest : i64ok d.dest
  amount : d.amount < 18446744073709551616
  epoch : i64ok d.epoch
  bits : d.bits.length ≤ 9223372036854775807
  what : i64ok d.what
  motion : i64ok d.motion
  par : d.par.Ok
def Ded.zero : Ded := ⟨0, 0, 0, 0, 0, 0, [], 0, zeroP, 0, false⟩
/-- Is a deed that moves a motion right? -/
def rightD (d : Ded) : Bool := decide (0 ≤ d.account ∧ d.account ≤ 63 ∧ d.member = 0 ∧ d.epoch = 0 ∧ d.bits.length = 0 ∧ d.motion = 0 ∧ d.yes = false ∧ 1 ≤ d.what ∧ d.what ≤ 4 ∧ (d.what = 2 → 0 ≤ d.dest ∧ d.dest ≤ 63 ∧ 0 < d.amount ∧ d.amount ≤ 4611686018427387904) ∧ (d.what ≠ 2 → d.dest = 0 ∧ d.amount = 0) ∧ (d.what = 1 → rightB d.par = true) ∧ (d.what ≠ 1 → d.par = zeroP))
/-- A deed that moves a motion with the fields alone that it uses. -/
def bareD (d : Ded) : Ded := ⟨6, d.account, 0, if d.what = 2 then d.dest else 0, if d.what = 2 then d.amount else 0, 0, [], d.what, if d.what = 1 then d.par else zeroP, 0, false⟩
theorem ded_under : Try.prog.underlying 79 = some (.struct (Try.prog.fieldsOf 79)) := by kernel_rfl
theorem ded_info : (Try.prog.info? 79).map (·.size) = some 34 := by kernel_rfl
theorem ded_load {dst : Option Tmp} {x : Operand} {ty : TypeId} {pos : String} {after : Array Edge} {gd : Option (Nat × Bool)} {a : Act} {w : World} {K : Act → World → Prop} {Q : Exit → Act → World → Prop} (h1 : a.eval x = .pointer (some ⟨blk (a.eval x), ofs (a.eval x), none⟩)) (h2 : (row w (blk (a.eval x))).map (roomy (ofs (a.eval x)) 34) = some true) : Oper.wp Try.prog ⟨dst, .load 79 x, ty, pos, after, gd⟩ a w K Q = K (a.put dst (.agg (((row w (blk (a.eval x))).getD #[]).extract (ofs (a.eval x)) (ofs (a.eval x) + 34)))) w := wp_load_part _ 34 _ ded_under rfl ded_info h1 h2
theorem ded_store {dst : Option Tmp} {x : Operand} {ty : TypeId} {pos : String} {after : Array Edge} {gd : Option (Nat × Bool)} {y : Operand} {a : Act} {w : World} {K : Act → World → Prop} {Q : Exit → Act → World → Prop} (h1 : a.eval x = .pointer (some ⟨blk (a.eval x), 0, none⟩)) (h2 : (row w (blk (a.eval x))).map (·.size) = some 34) (h3 : a.eval y = .agg (aggOf (a.eval y))) (h4 : (aggOf (a.eval y)).size = 34) (h5 : allOne (aggOf (a.eval y)) = true) : Oper.wp Try.prog ⟨dst, .store 79 x y, ty, pos, after, gd⟩ a w K Q = K (a.put dst undef) (w.setRow (blk (a.eval x)) (aggOf (a.eval y))) := wp_store_agg _ 34 ded_info h1 h2 h3 h4 h5
theorem ded_run_load {ρ : Operand → Value} {dst : Option Tmp} {x : Operand} {ty : TypeId} {pos : String} {after : Array Edge} {gd : Option (Nat × Bool)} {w : World} (h1 : ρ x = .pointer (some ⟨blk (ρ x), ofs (ρ x), none⟩)) (h2 : (row w (blk (ρ x))).map (roomy (ofs (ρ x)) 34) = some true) : (execOp ρ ⟨dst, .load 79 x, ty, pos, after, gd⟩).run Try.prog w = .ok (.value (.agg (((row w (blk (ρ x))).getD #[]).extract (ofs (ρ x)) (ofs (ρ x) + 34)))) w := run_load_part _ 34 _ ded_under rfl ded_info h1 h2
theorem ded_quiet {C : World → Prop} {dst : Option Tmp} {x : Operand} {ty : TypeId} {pos : String} {after : Array Edge} {gd : Option (Nat × Bool)} {a : Act} {w : World} {g o : Nat} {cs : Array Value} (h1 : a.eval x = .pointer (some ⟨g, o, none⟩)) (h2 : row w g = some cs) (hs : roomy o 34 cs = true) : Oper.quietAt Try.prog ⟨dst, .load 79 x, ty, pos, after, gd⟩ a C w (.agg (cs.extract o (o + 34))) := quiet_load_part _ 34 _ ded_under rfl ded_info h1 h2 hs
attribute [go_sem ↓] ded_load ded_store ded_run_load
theorem rded_under : Try.prog.underlying 92 = some (.struct (Try.prog.fieldsOf 92)) := by kernel_rfl
theorem rded_info : (Try.prog.info? 92).map (·.size) = some 34 := by kernel_rfl
theorem rded_load {dst : Option Tmp} {x : Operand} {ty : TypeId} {pos : String} {after : Array Edge} {gd : Option (Nat × Bool)} {a : Act} {w : World} {K : Act → World → Prop} {Q : Exit → Act → World → Prop} (h1 : a.eval x = .pointer (some ⟨blk (a.eval x), ofs (a.eval x), none⟩)) (h2 : (row w (blk (a.eval x))).map (roomy (ofs (a.eval x)) 34) = some true) : Oper.wp Try.prog ⟨dst, .load 92 x, ty, pos, after, gd⟩ a w K Q = K (a.put dst (.agg (((row w (blk (a.eval x))).getD #[]).extract (ofs (a.eval x)) (ofs (a.eval x) + 34)))) w := wp_load_part _ 34 _ rded_under rfl rded_info h1 h2
theorem rded_store {dst : Option Tmp} {x : Operand} {ty : TypeId} {pos : String} {after : Array Edge} {gd : Option (Nat × Bool)} {y : Operand} {a : Act} {w : World} {K : Act → World → Prop} {Q : Exit → Act → World → Prop} (h1 : a.eval x = .pointer (some ⟨blk (a.eval x), 0, none⟩)) (h2 : (row w (blk (a.eval x))).map (·.size) = some 34) (h3 : a.eval y = .agg (aggOf (a.eval y))) (h4 : (aggOf (a.eval y)).size = 34) (h5 : allOne (aggOf (a.eval y)) = true) : Oper.wp Try.prog ⟨dst, .store 92 x y, ty, pos, after, gd⟩ a w K Q = K (a.put dst undef) (w.setRow (blk (a.eval x)) (aggOf (a.eval y))) := wp_store_agg _ 34 rded_info h1 h2 h3 h4 h5
theorem rded_run_load {ρ : Operand → Value} {dst : Option Tmp} {x : Operand} {ty : TypeId} {pos : String} {after : Array Edge} {gd : Option (Nat × Bool)} {w : World} (h1 : ρ x = .pointer (some ⟨blk (ρ x), ofs (ρ x), none⟩)) (h2 : (row w (blk (ρ x))).map (roomy (ofs (ρ x)) 34) = some true) : (execOp ρ ⟨dst, .load 92 x, ty, pos, after, gd⟩).run Try.prog w = .ok (.value (.agg (((row w (blk (ρ x))).getD #[]).extract (ofs (ρ x)) (ofs (ρ x) + 34)))) w := run_load_part _ 34 _ rded_under rfl rded_info h1 h2
theorem rded_quiet {C : World → Prop} {dst : Option Tmp} {x : Operand} {ty : TypeId} {pos : String} {after : Array Edge} {gd : Option (Nat × Bool)} {a : Act} {w : World} {g o : Nat} {cs : Array Value} (h1 : a.eval x = .pointer (some ⟨g, o, none⟩)) (h2 : row w g = some cs) (hs : roomy o 34 cs = true) : Oper.quietAt Try.prog ⟨dst, .load 92 x, ty, pos, after, gd⟩ a C w (.agg (cs.extract o (o + 34))) := quiet_load_part _ 34 _ rded_under rfl rded_info h1 h2 hs
attribute [go_sem ↓] rded_load rded_store rded_run_load
theorem dwithin_any (n lo hi : Int) (w : World) : Calls Try.prog 132 #[.int .i64 n, .int .i64 lo, .int .i64 hi] w fun e w' => e = .returned (.bool (btw n lo hi)) ∧ w = w' := by
  by_cases h1 : lo ≤ n
  · by_cases h2 : n ≤ hi
    · have HV : Hid (btw n lo hi = true) := Lib.hid (decide_eq_true ⟨h1, h2⟩)
      go_enter Try.func132, Try.ntmps132
      go_wp2_with fail
      go_ret
      exact ⟨by rw [HV.out]; rfl, rfl⟩
    · have HV : Hid (btw n lo hi = false) := Lib.hid (decide_eq_false fun h => h2 h.2)
      go_enter Try.func132, Try.ntmps132
      go_wp2_with fail
      go_ret
      exact ⟨by rw [HV.out]; rfl, rfl⟩
  · have HV : Hid (btw n lo hi = false) := Lib.hid (decide_eq_false fun h => h1 h.1)
    go_enter Try.func132, Try.ntmps132
    go_wp2_with fail
    go_ret
    exact ⟨by rw [HV.out]; rfl, rfl⟩
theorem in08_any (n lo hi : Int) (w : World) : Calls Try.prog 137 #[.int .i64 n, .int .i64 lo, .int .i64 hi] w fun e w' => e = .returned (.bool (btw n lo hi)) ∧ w = w' := by
  by_cases h1 : lo ≤ n
  · by_cases h2 : n ≤ hi
    · have HV : Hid (btw n lo hi = true) := Lib.hid (decide_eq_true ⟨h1, h2⟩)
      go_enter Try.func137, Try.ntmps137
      go_wp2_with fail
      go_ret
      exact ⟨by rw [HV.out]; rfl, rfl⟩
    · have HV : Hid (btw n lo hi = false) := Lib.hid (decide_eq_false fun h => h2 h.2)
      go_enter Try.func137, Try.ntmps137
      go_wp2_with fail
      go_ret
      exact ⟨by rw [HV.out]; rfl, rfl⟩
  · have HV : Hid (btw n lo hi = false) := Lib.hid (decide_eq_false fun h => h1 h.1)
    go_enter Try.func137, Try.ntmps137
    go_wp2_with fail
    go_ret
    exact ⟨by rw [HV.out]; rfl, rfl⟩
set_option maxRecDepth 100000 in
set_option maxHeartbeats 8000000 in
theorem bare6_any (d : Ded) (a : DedA) (hk : d.kind = 6) (w : World) : Calls Try.prog 134 #[.agg (dedC (d, a))] w fun e w' => e = .returned (.agg (dedC (bareD d, DedA.nil))) ∧ Below w.heap.size w w' := by
  obtain ⟨kind, account, member, dest, amount, epoch, bits, what, par, motion, yes⟩ := d
  have hk : kind = 6 := hk
  subst hk
  have r0 : row ((w.alloc (.cells (dedC (⟨6, account, member, dest, amount, epoch, bits, what, par, motion, yes⟩, a)) 79)).alloc (.cells (dedC (Ded.zero, DedA.nil)) 79)) w.heap.size = some (dedC (⟨6, account, member, dest, amount, epoch, bits, what, par, motion, yes⟩, a)) := (by (repeat (first | assumption | (refine row_at _ _ _ _ ?_; first | rfl | (simp only [World.size_alloc]; done) | (simp only [World.size_alloc]; omega)) | (refine (row_past _ _ _ ?_).trans ?_; (focus (first | exact Nat.lt_succ_self _ | ((repeat rw [World.size_alloc]); omega) | (simp; done) | (simp; omega) | omega))) | rw [row_drewN] | rw [row_drew])); (first | done | fail))
  have q0 : row ((w.alloc (.cells (dedC (⟨6, account, member, dest, amount, epoch, bits, what, par, motion, yes⟩, a)) 79)).alloc (.cells (dedC (Ded.zero, DedA.nil)) 79)) (w.heap.size + 1) = some (dedC (Ded.zero, DedA.nil)) := (by (repeat (first | assumption | (refine row_at _ _ _ _ ?_; first | rfl | (simp only [World.size_alloc]; done) | (simp only [World.size_alloc]; omega)) | (refine (row_past _ _ _ ?_).trans ?_; (focus (first | exact Nat.lt_succ_self _ | ((repeat rw [World.size_alloc]); omega) | (simp; done) | (simp; omega) | omega))) | rw [row_drewN] | rw [row_drew])); (first | done | fail))
  have hB0 : Below w.heap.size w ((w.alloc (.cells (dedC (⟨6, account, member, dest, amount, epoch, bits, what, par, motion, yes⟩, a)) 79)).alloc (.cells (dedC (Ded.zero, DedA.nil)) 79)) := (by (repeat (first | exact Below.refl _ _ | assumption | (refine Below.allocT ?_ _) | refine Below.drew ?_ | refine below_drewN ?_ _ | (refine Below.then ?_ (by assumption)) | (refine Below.setRow ?_ ?_ _; rotate_left; (focus (first | exact Nat.lt_succ_self _ | ((repeat rw [World.size_alloc]); omega) | (simp; done) | (simp; omega) | omega))) | (refine Below.setCell ?_ ?_ _; rotate_left; (focus (first | exact Nat.lt_succ_self _ | ((repeat rw [World.size_alloc]); omega) | (simp; done) | (simp; omega) | omega))) | (refine Below.then' ?_ (by assumption) ?_; rotate_left; (focus (first | exact Nat.lt_succ_self _ | ((repeat rw [World.size_alloc]); omega) | (simp; done) | (simp; omega) | omega))) | fail)); (first | done | fail))
  go_enter Try.func134, Try.ntmps134
  go_upto_region 1 with fail
  change Code.wp _ _ _ _ ((w.alloc (.cells (dedC (⟨6, account, member, dest, amount, epoch, bits, what, par, motion, yes⟩, a)) 79)).alloc (.cells (dedC (Ded.zero, DedA.nil)) 79))
  generalize (w.alloc (.cells (dedC (⟨6, account, member, dest, amount, epoch, bits, what, par, motion, yes⟩, a)) 79)).alloc (.cells (dedC (Ded.zero, DedA.nil)) 79) = w0 at *
  have c0 : w0.cell? ⟨w.heap.size, 0, none⟩ = some (.int .i64 6) := row_cell r0 0
  have c1 : w0.cell? ⟨w.heap.size, 1, none⟩ = some (.int .i64 account) := row_cell r0 1
  have hz := dedC_one (⟨6, account, 0, 0, 0, 0, [], 0, zeroP, 0, false⟩, DedA.nil)
  have hzs := dedC_size (⟨6, account, 0, 0, 0, 0, [], 0, zeroP, 0, false⟩, DedA.nil)
  go_upto_region 2 with (refine wpList_build_to (dedC (⟨6, account, 0, 0, 0, 0, [], 0, zeroP, 0, false⟩, DedA.nil)) rfl 79 _ rfl (by kernel_rfl) ?_)
  refine of_world (fun W => Below w0.heap.size w0 W ∧ row W w0.heap.size = some (dedC (⟨6, account, 0, 0, 0, 0, [], 0, zeroP, 0, false⟩, DedA.nil))) ⟨(by (repeat (first | exact Below.refl _ _ | assumption | (refine Below.allocT ?_ _) | refine Below.drew ?_ | refine below_drewN ?_ _ | (refine Below.then ?_ (by assumption)) | (refine Below.setRow ?_ ?_ _; rotate_left; (focus (first | exact Nat.lt_succ_self _ | ((repeat rw [World.size_alloc]); omega) | (simp; done) | (simp; omega) | omega))) | (refine Below.setCell ?_ ?_ _; rotate_left; (focus (first | exact Nat.lt_succ_self _ | ((repeat rw [World.size_alloc]); omega) | (simp; done) | (simp; omega) | omega))) | (refine Below.then' ?_ (by assumption) ?_; rotate_left; (focus (first | exact Nat.lt_succ_self _ | ((repeat rw [World.size_alloc]); omega) | (simp; done) | (simp; omega) | omega))) | fail)); (first | done | fail)), by first | exact row_at _ _ _ _ rfl | (rw [row_setRow_if, if_pos rfl, row_at _ _ _ _ rfl]; rfl)⟩ ?_
  rintro w1 ⟨hb1, x1⟩
  have r1 := below_row hb1 r0 (row_lt r0)
  have q1 := below_row hb1 q0 (row_lt q0)
  have B1 := Below.then hB0 hb1
  have G1 : Hid (w.heap.size + 1 < w0.heap.size) := Lib.hid (row_lt q0)
  clear r0 q0 hB0 hb1 c0 c1 hz hzs
  generalize w0.heap.size = g3 at *
  have c0 : w1.cell? ⟨w.heap.size, 0, none⟩ = some (.int .i64 6) := row_cell r1 0
  have c7 : w1.cell? ⟨w.heap.size, 7, none⟩ = some (.int .i64 what) := row_cell r1 7
  have k7 : w1.cell? ⟨g3, 7, none⟩ = some (.int .i64 0) := row_cell x1 7
  have f7 := row_frozen x1 7
  go_upto_region 17 with fail
  refine of_world (fun W => Below w.heap.size w W ∧ row W g3 = some (dedC (⟨6, account, 0, 0, 0, 0, [], what, zeroP, 0, false⟩, DedA.nil)) ∧ row W w.heap.size = some (dedC (⟨6, account, member, dest, amount, epoch, bits, what, par, motion, yes⟩, a)) ∧ row W (w.heap.size + 1) = some (dedC (Ded.zero, DedA.nil))) ⟨Below.setCell B1 (p := ⟨g3, 7, none⟩) (by have := G1.out; show w.heap.size ≤ g3; omega) _, row_set x1 7 _, (row_far w1 ⟨g3, 7, none⟩ _ _ (by have := G1.out; show w.heap.size ≠ g3; omega)).trans r1, (row_far w1 ⟨g3, 7, none⟩ _ _ (by have := G1.out; show w.heap.size + 1 ≠ g3; omega)).trans q1⟩ ?_
  rintro w2 ⟨B2, x2, r2, q2⟩
  clear c0 c7 k7 f7 r1 q1 x1 B1
  have HEnd : Hid (∀ W, row W (w.heap.size + 1) = some (dedC (Ded.zero, DedA.nil)) → ∃ t, (W.setRow (w.heap.size + 1) (dedC (bareD ⟨6, account, member, dest, amount, epoch, bits, what, par, motion, yes⟩, DedA.nil))).heap[w.heap.size + 1]? = some (.cells (dedC (bareD ⟨6, account, member, dest, amount, epoch, bits, what, par, motion, yes⟩, DedA.nil)) t (0, 0))) := Lib.hid fun W h => row_heap (row_setRow h)
  have c7 : w2.cell? ⟨w.heap.size, 7, none⟩ = some (.int .i64 what) := row_cell r2 7
  by_cases h1 : what = 1
  · subst h1
    have hth : w2.there g3 8 24 := fun j hj => by
      refine ⟨?_, row_frozen x2 _⟩
      rw [row_cell x2, Array.getElem?_eq_getElem (by rw [dedC_size]; omega)]
      rfl
    have c7' := c7
    go_upto_region 19 with (refine wpList_store_mid rfl 76 _ _ (by rfl) g3 8 par.cells (by rfl) (by rfl) hth parp_info par.cells_one ?_)
    refine of_world (fun W => Below w.heap.size w W ∧ row W g3 = some (dedC (⟨6, account, 0, 0, 0, 0, [], 1, par, 0, false⟩, DedA.nil)) ∧ row W w.heap.size = some (dedC (⟨6, account, member, dest, amount, epoch, bits, 1, par, motion, yes⟩, a)) ∧ row W (w.heap.size + 1) = some (dedC (Ded.zero, DedA.nil))) ⟨?_, ?_, ?_, ?_⟩ ?_
    · exact (chg_setCells' (S := fun k => k = g3) rfl _ _ _ (Chg.refl _ w2)) |>.toBelow (B := w.heap.size) (fun k hk => by have := G1.out; have hk' : k = g3 := hk; omega) B2.size |> B2.trans
    · rw [row_setL g3 _ 8 w2 _ x2, setL_par]
    · exact ((chg_setCells' (S := fun k => k = g3) rfl _ _ _ (Chg.refl _ w2)).row (row_lt r2) (by have := G1.out; show ¬ w.heap.size = g3; omega)).trans r2
    · exact ((chg_setCells' (S := fun k => k = g3) rfl _ _ _ (Chg.refl _ w2)).row (row_lt q2) (by have := G1.out; show ¬ w.heap.size + 1 = g3; omega)).trans q2
    clear c7 c7' hth x2 r2 q2 B2
    rintro w3 ⟨B2, x2, r2, q2⟩
    have c7 : w3.cell? ⟨w.heap.size, 7, none⟩ = some (.int .i64 1) := row_cell r2 7
    have hd : bareD ⟨6, account, member, dest, amount, epoch, bits, 1, par, motion, yes⟩ = ⟨6, account, 0, 0, 0, 0, [], 1, par, 0, false⟩ := by unfold bareD; simp
    have HD := Lib.hid hd
    rw [hd] at HEnd
    obtain ⟨t9, ht9⟩ := HEnd.out w3 q2
    have HT9 := Lib.hid ht9
    have HB2 := Lib.hid B2
    clear ht9 hd B2 HEnd
    go_wp2_with fail
    exact bodyPost_ret (v := .agg (dedC (⟨6, account, 0, 0, 0, 0, [], 1, par, 0, false⟩, DedA.nil))) (results_cell_row Try.results134 _ _ (w.heap.size + 1) t9 (dedC (⟨6, account, 0, 0, 0, 0, [], 1, par, 0, false⟩, DedA.nil)) (0, 0) _ rfl HT9.out ded_under rfl ded_info) rfl ⟨by rw [HD.out], Below.setRow HB2.out (Nat.le_succ _) _⟩
  by_cases h2 : what = 2
  · subst h2
    have k3 : w2.cell? ⟨w.heap.size, 3, none⟩ = some (.int .i64 dest) := row_cell r2 3
    have k4 : w2.cell? ⟨w.heap.size, 4, none⟩ = some (.int .u64 (amount : Int)) := row_cell r2 4
    have m3 : w2.cell? ⟨g3, 3, none⟩ = some (.int .i64 0) := row_cell x2 3
    have m4 : w2.cell? ⟨g3, 4, none⟩ = some (.int .u64 0) := row_cell x2 4
    have f3 := row_frozen x2 3
    have f4 := row_frozen x2 4
    go_upto_region 20 with fail
    go_region_with fail
    all_goals
      refine of_world' (fun W => Below w.heap.size w W ∧ row W g3 = some (dedC (⟨6, account, 0, dest, amount, 0, [], 2, zeroP, 0, false⟩, DedA.nil)) ∧ row W w.heap.size = some (dedC (⟨6, account, member, dest, amount, epoch, bits, 2, par, motion, yes⟩, a)) ∧ row W (w.heap.size + 1) = some (dedC (Ded.zero, DedA.nil))) ?_ ?_
      · first
          | exact ⟨Below.setCell (Below.setCell B2.drew (p := ⟨g3, 3, none⟩) (by have := G1.out; show w.heap.size ≤ g3; omega) _) (p := ⟨g3, 4, none⟩) (by have := G1.out; show w.heap.size ≤ g3; omega) _, row_set (row_set (row_of_drew x2) 3 _) 4 _, ((row_far _ ⟨g3, 4, none⟩ _ _ (by have := G1.out; show w.heap.size ≠ g3; omega)).trans (row_far _ ⟨g3, 3, none⟩ _ _ (by have := G1.out; show w.heap.size ≠ g3; omega))).trans r2, ((row_far _ ⟨g3, 4, none⟩ _ _ (by have := G1.out; show w.heap.size + 1 ≠ g3; omega)).trans (row_far _ ⟨g3, 3, none⟩ _ _ (by have := G1.out; show w.heap.size + 1 ≠ g3; omega))).trans q2⟩
          | exact ⟨Below.setCell (Below.setCell B2.drew (p := ⟨g3, 4, none⟩) (by have := G1.out; show w.heap.size ≤ g3; omega) _) (p := ⟨g3, 3, none⟩) (by have := G1.out; show w.heap.size ≤ g3; omega) _, row_set (row_set (row_of_drew x2) 4 _) 3 _, ((row_far _ ⟨g3, 3, none⟩ _ _ (by have := G1.out; show w.heap.size ≠ g3; omega)).trans (row_far _ ⟨g3, 4, none⟩ _ _ (by have := G1.out; show w.heap.size ≠ g3; omega))).trans r2, ((row_far _ ⟨g3, 3, none⟩ _ _ (by have := G1.out; show w.heap.size + 1 ≠ g3; omega)).trans (row_far _ ⟨g3, 4, none⟩ _ _ (by have := G1.out; show w.heap.size + 1 ≠ g3; omega))).trans q2⟩
      clear c7 k3 k4 m3 m4 f3 f4 x2 r2 q2 B2
      rintro w3 ⟨B2, x2, r2, q2⟩
      have hd : bareD ⟨6, account, member, dest, amount, epoch, bits, 2, par, motion, yes⟩ = ⟨6, account, 0, dest, amount, 0, [], 2, zeroP, 0, false⟩ := by unfold bareD; simp
      have HD := Lib.hid hd
      rw [hd] at HEnd
      obtain ⟨t9, ht9⟩ := HEnd.out w3 q2
      have HT9 := Lib.hid ht9
      have HB2 := Lib.hid B2
      clear ht9 hd B2 HEnd
      go_wp2_with fail
      exact bodyPost_ret (v := .agg (dedC (⟨6, account, 0, dest, amount, 0, [], 2, zeroP, 0, false⟩, DedA.nil))) (results_cell_row Try.results134 _ _ (w.heap.size + 1) t9 (dedC (⟨6, account, 0, dest, amount, 0, [], 2, zeroP, 0, false⟩, DedA.nil)) (0, 0) _ rfl HT9.out ded_under rfl ded_info) rfl ⟨by rw [HD.out], Below.setRow HB2.out (Nat.le_succ _) _⟩
  have e1 : (what == 1) = false := beq_eq_false_iff_ne.2 h1
  have e2 : (what == 2) = false := beq_eq_false_iff_ne.2 h2
  have hd : bareD ⟨6, account, member, dest, amount, epoch, bits, what, par, motion, yes⟩ = ⟨6, account, 0, 0, 0, 0, [], what, zeroP, 0, false⟩ := by unfold bareD; simp only [if_neg h1, if_neg h2]
  have HD := Lib.hid hd
  rw [hd] at HEnd
  obtain ⟨t9, ht9⟩ := HEnd.out w2 q2
  have HT9 := Lib.hid ht9
  have HB2 := Lib.hid B2
  clear ht9 hd h1 h2 B2 HEnd
  go_wp2_with fail
  exact bodyPost_ret (v := .agg (dedC (⟨6, account, 0, 0, 0, 0, [], what, zeroP, 0, false⟩, DedA.nil))) (results_cell_row Try.results134 _ _ (w.heap.size + 1) t9 (dedC (⟨6, account, 0, 0, 0, 0, [], what, zeroP, 0, false⟩, DedA.nil)) (0, 0) _ rfl HT9.out ded_under rfl ded_info) rfl ⟨by rw [HD.out], Below.setRow HB2.out (Nat.le_succ _) _⟩
end Go.Proofs.Ytnakkjgnjffkpaa
