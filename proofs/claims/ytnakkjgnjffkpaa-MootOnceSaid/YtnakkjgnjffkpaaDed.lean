/-
  Deeds that move a motion: what they hold, and when they are right, in the program and in the reference.
  Deeds that move a motion: deed.same, deed.paid, deed.Right.
-/
import Derived.Test.YtnakkjgnjffkpaaMot
import Derived.Test.YtnakkjgnjffkpaaPl07
import Derived.Test.YtnakkjgnjffkpaaCalmV
import Derived.IntWalk
import Derived.Deep.Cut
import Derived.Deep.DeepCutAuto
import Derived.Deep.MidRow
import Derived.RegionTactic
import Derived.BigQuiet
import Derived.BigRegion
namespace Go.Proofs.Ytnakkjgnjffkpaa
open Go.RowKit
set_option linter.unusedVariables false

theorem parp_under : Try.prog.underlying 76 = some (.struct (Try.prog.fieldsOf 76)) := by kernel_rfl
theorem parp_info : (Try.prog.info? 76).map (·.size) = some 24 := by kernel_rfl
theorem parp_load {dst : Option Tmp} {x : Operand} {ty : TypeId} {pos : String} {after : Array Edge} {gd : Option (Nat × Bool)} {a : Act} {w : World} {K : Act → World → Prop} {Q : Exit → Act → World → Prop} (h1 : a.eval x = .pointer (some ⟨blk (a.eval x), ofs (a.eval x), none⟩)) (h2 : (row w (blk (a.eval x))).map (roomy (ofs (a.eval x)) 24) = some true) : Oper.wp Try.prog ⟨dst, .load 76 x, ty, pos, after, gd⟩ a w K Q = K (a.put dst (.agg (((row w (blk (a.eval x))).getD #[]).extract (ofs (a.eval x)) (ofs (a.eval x) + 24)))) w := wp_load_part _ 24 _ parp_under rfl parp_info h1 h2
theorem parp_store {dst : Option Tmp} {x : Operand} {ty : TypeId} {pos : String} {after : Array Edge} {gd : Option (Nat × Bool)} {y : Operand} {a : Act} {w : World} {K : Act → World → Prop} {Q : Exit → Act → World → Prop} (h1 : a.eval x = .pointer (some ⟨blk (a.eval x), 0, none⟩)) (h2 : (row w (blk (a.eval x))).map (·.size) = some 24) (h3 : a.eval y = .agg (aggOf (a.eval y))) (h4 : (aggOf (a.eval y)).size = 24) (h5 : allOne (aggOf (a.eval y)) = true) : Oper.wp Try.prog ⟨dst, .store 76 x y, ty, pos, after, gd⟩ a w K Q = K (a.put dst undef) (w.setRow (blk (a.eval x)) (aggOf (a.eval y))) := wp_store_agg _ 24 parp_info h1 h2 h3 h4 h5
theorem parp_run_load {ρ : Operand → Value} {dst : Option Tmp} {x : Operand} {ty : TypeId} {pos : String} {after : Array Edge} {gd : Option (Nat × Bool)} {w : World} (h1 : ρ x = .pointer (some ⟨blk (ρ x), ofs (ρ x), none⟩)) (h2 : (row w (blk (ρ x))).map (roomy (ofs (ρ x)) 24) = some true) : (execOp ρ ⟨dst, .load 76 x, ty, pos, after, gd⟩).run Try.prog w = .ok (.value (.agg (((row w (blk (ρ x))).getD #[]).extract (ofs (ρ x)) (ofs (ρ x) + 24)))) w := run_load_part _ 24 _ parp_under rfl parp_info h1 h2
theorem parp_quiet {C : World → Prop} {dst : Option Tmp} {x : Operand} {ty : TypeId} {pos : String} {after : Array Edge} {gd : Option (Nat × Bool)} {a : Act} {w : World} {g o : Nat} {cs : Array Value} (h1 : a.eval x = .pointer (some ⟨g, o, none⟩)) (h2 : row w g = some cs) (hs : roomy o 24 cs = true) : Oper.quietAt Try.prog ⟨dst, .load 76 x, ty, pos, after, gd⟩ a C w (.agg (cs.extract o (o + 24))) := quiet_load_part _ 24 _ parp_under rfl parp_info h1 h2 hs
attribute [go_sem ↓] parp_load parp_store parp_run_load
theorem rparp_under : Try.prog.underlying 88 = some (.struct (Try.prog.fieldsOf 88)) := by kernel_rfl
theorem rparp_info : (Try.prog.info? 88).map (·.size) = some 24 := by kernel_rfl
theorem rparp_load {dst : Option Tmp} {x : Operand} {ty : TypeId} {pos : String} {after : Array Edge} {gd : Option (Nat × Bool)} {a : Act} {w : World} {K : Act → World → Prop} {Q : Exit → Act → World → Prop} (h1 : a.eval x = .pointer (some ⟨blk (a.eval x), ofs (a.eval x), none⟩)) (h2 : (row w (blk (a.eval x))).map (roomy (ofs (a.eval x)) 24) = some true) : Oper.wp Try.prog ⟨dst, .load 88 x, ty, pos, after, gd⟩ a w K Q = K (a.put dst (.agg (((row w (blk (a.eval x))).getD #[]).extract (ofs (a.eval x)) (ofs (a.eval x) + 24)))) w := wp_load_part _ 24 _ rparp_under rfl rparp_info h1 h2
theorem rparp_store {dst : Option Tmp} {x : Operand} {ty : TypeId} {pos : String} {after : Array Edge} {gd : Option (Nat × Bool)} {y : Operand} {a : Act} {w : World} {K : Act → World → Prop} {Q : Exit → Act → World → Prop} (h1 : a.eval x = .pointer (some ⟨blk (a.eval x), 0, none⟩)) (h2 : (row w (blk (a.eval x))).map (·.size) = some 24) (h3 : a.eval y = .agg (aggOf (a.eval y))) (h4 : (aggOf (a.eval y)).size = 24) (h5 : allOne (aggOf (a.eval y)) = true) : Oper.wp Try.prog ⟨dst, .store 88 x y, ty, pos, after, gd⟩ a w K Q = K (a.put dst undef) (w.setRow (blk (a.eval x)) (aggOf (a.eval y))) := wp_store_agg _ 24 rparp_info h1 h2 h3 h4 h5
theorem rparp_run_load {ρ : Operand → Value} {dst : Option Tmp} {x : Operand} {ty : TypeId} {pos : String} {after : Array Edge} {gd : Option (Nat × Bool)} {w : World} (h1 : ρ x = .pointer (some ⟨blk (ρ x), ofs (ρ x), none⟩)) (h2 : (row w (blk (ρ x))).map (roomy (ofs (ρ x)) 24) = some true) : (execOp ρ ⟨dst, .load 88 x, ty, pos, after, gd⟩).run Try.prog w = .ok (.value (.agg (((row w (blk (ρ x))).getD #[]).extract (ofs (ρ x)) (ofs (ρ x) + 24)))) w := run_load_part _ 24 _ rparp_under rfl rparp_info h1 h2
theorem rparp_quiet {C : World → Prop} {dst : Option Tmp} {x : Operand} {ty : TypeId} {pos : String} {after : Array Edge} {gd : Option (Nat × Bool)} {a : Act} {w : World} {g o : Nat} {cs : Array Value} (h1 : a.eval x = .pointer (some ⟨g, o, none⟩)) (h2 : row w g = some cs) (hs : roomy o 24 cs = true) : Oper.quietAt Try.prog ⟨dst, .load 88 x, ty, pos, after, gd⟩ a C w (.agg (cs.extract o (o + 24))) := quiet_load_part _ 24 _ rparp_under rfl rparp_info h1 h2 hs
attribute [go_sem ↓] rparp_load rparp_store rparp_run_load
theorem rpar_build0 {dst : Option Tmp} {ty : TypeId} {pos : String} {after : Array Edge} {gd : Option (Nat × Bool)} {a : Act} {w : World} {K : Act → World → Prop} {Q : Exit → Act → World → Prop} :
    Oper.wp Try.prog ⟨dst, .build 88 #[], ty, pos, after, gd⟩ a w K Q = K (a.put dst (.agg zeroP.cells)) w := by
  have h : Try.prog.built 88 [] = some zeroP.cells := by kernel_rfl
  unfold Oper.wp execOp
  simp [run_build, h]
  rfl
attribute [go_sem ↓] rpar_build0
theorem of_world {P : Program} {c : Code} {a : Act} {Q : Exit → Act → World → Prop} {W : World} (S : World → Prop) (h : S W) (k : ∀ W, S W → Code.wp P c Q a W) : Code.wp P c Q a W := k W h
theorem of_world' {K : World → Prop} {W : World} (S : World → Prop) (h : S W) (k : ∀ W, S W → K W) : K W := k W h
theorem row_of_drew {w : World} {g : Nat} {cs : Array Value} (h : row w g = some cs) : row w.drew g = some cs := h
def setL : Array Value → Nat → List Value → Array Value
  | cs, _, [] => cs
  | cs, o, v :: r => setL (cs.setIfInBounds o v) (o + 1) r
theorem row_setL (b : Nat) : ∀ (vs : List Value) (o : Nat) (w : World) (cs : Array Value), row w b = some cs → row (w.setCells b o vs) b = some (setL cs o vs)
  | [], o, w, cs, h => h
  | v :: r, o, w, cs, h => row_setL b r (o + 1) (w.setCell ⟨b, o, none⟩ v) _ (row_set h o v)
theorem chg_setCells' {S : Nat → Prop} {w : World} {g : Nat} (hg : S g) : ∀ (vs : List Value) (o : Nat) (W : World), Chg S w W → Chg S w (W.setCells g o vs)
  | [], o, W, h => h
  | v :: r, o, W, h => chg_setCells' hg r (o + 1) _ (h.setCell (p := ⟨g, o, none⟩) (.inl hg) v)
theorem below_row {w W : World} {B g : Nat} {cs : Array Value} (h : Below B w W) (hr : row w g = some cs) (hg : g < B) : row W g = some cs := (row_below h hg).trans hr
structure Ded where
  kind : Int
  account : Int
  member : Int
  dest : Int
  amount : Nat
  epoch : Int
  bits : List Nat
  what : Int
  par : Par
  motion : Int
  yes : Bool
/-- Where a deed's bits lie. -/
structure DedA where
  a : Option Addr
  c : Nat
def DedA.nil : DedA := ⟨none, 0⟩
def dedC (x : Ded × DedA) : Array Value := #[.int .i64 x.1.kind, .int .i64 x.1.account, .int .i64 x.1.member, .int .i64 x.1.dest, .int .u64 ((x.1.amount : Nat) : Int), .int .i64 x.1.epoch, .slice x.2.a x.1.bits.length x.2.c, .int .i64 x.1.what, .int .u64 x.1.par.inc, .int .u64 x.1.par.maxEff, .int .u64 x.1.par.floor, .int .u64 x.1.par.cap, .int .u64 x.1.par.up, .int .u64 x.1.par.down, .int .u64 x.1.par.bias, .int .u64 x.1.par.quot, .int .u64 x.1.par.biasEm, .int .u64 x.1.par.quotEm, .int .u64 x.1.par.recover, .int .u64 x.1.par.scoreCap, .int .u64 x.1.par.rate, .int .u64 x.1.par.bond, .int .i64 x.1.par.delay, .int .i64 x.1.par.streak, .int .i64 x.1.par.boost, .int .i64 x.1.par.absent, .int .i64 x.1.par.burn, .int .i64 x.1.par.churn, .int .i64 x.1.par.wait, .int .i64 x.1.par.poll, .int .i64 x.1.par.enact, .int .i64 x.1.par.quorum, .int .i64 x.1.motion, .bool x.1.yes]
theorem dedC_size (x : Ded × DedA) : (dedC x).size = 34 := rfl
theorem dedC_one (x : Ded × DedA) : allOne (dedC x) = true := by unfold allOne dedC; simp [Value.oneCell']
theorem dedC_room (x : Ded × DedA) : roomy 0 34 (dedC x) = true := rfl
theorem dedC_roomp (x : Ded × DedA) : roomy 8 24 (dedC x) = true := rfl
theorem dedC_ext (x : Ded × DedA) : (dedC x).extract 0 34 = dedC x := by kernel_rfl
theorem dedC_par (x : Ded × DedA) : (dedC x).extract 8 32 = x.1.par.cells := by kernel_rfl
theorem dedC_at0 (x : Ded × DedA) : (dedC x)[0]? = some (.int .i64 x.1.kind) := rfl
theorem dedC_at1 (x : Ded × DedA) : (dedC x)[1]? = some (.int .i64 x.1.account) := rfl
theorem dedC_at2 (x : Ded × DedA) : (dedC x)[2]? = some (.int .i64 x.1.member) := rfl
theorem dedC_at3 (x : Ded × DedA) : (dedC x)[3]? = some (.int .i64 x.1.dest) := rfl
theorem dedC_at4 (x : Ded × DedA) : (dedC x)[4]? = some (.int .u64 (x.1.amount : Int)) := rfl
theorem dedC_at5 (x : Ded × DedA) : (dedC x)[5]? = some (.int .i64 x.1.epoch) := rfl
theorem dedC_at7 (x : Ded × DedA) : (dedC x)[7]? = some (.int .i64 x.1.what) := rfl
theorem dedC_at32 (x : Ded × DedA) : (dedC x)[32]? = some (.int .i64 x.1.motion) := rfl
theorem dedC_at6 (x : Ded × DedA) : (dedC x)[6]? = some (.slice x.2.a x.1.bits.length x.2.c) := rfl
theorem dedC_at33 (x : Ded × DedA) : (dedC x)[33]? = some (.bool x.1.yes) := rfl
attribute [go_sem] dedC_size dedC_one dedC_room dedC_roomp dedC_ext dedC_par dedC_at6 dedC_at33 dedC_at0 dedC_at1 dedC_at2 dedC_at3 dedC_at4 dedC_at5 dedC_at7 dedC_at32
def btw (n lo hi : Int) : Bool := decide (lo ≤ n ∧ n ≤ hi)
theorem setL_par (account : Int) (par : Par) : setL (dedC (⟨6, account, 0, 0, 0, 0, [], 1, zeroP, 0, false⟩, DedA.nil)) 8 par.cells.toList = dedC (⟨6, account, 0, 0, 0, 0, [], 1, par, 0, false⟩, DedA.nil) := by kernel_rfl
structure Ded.Ok (d : Ded) : Prop where
  kind : i64ok d.kind
  account : i64ok d.account
  member : i64ok d.member
  dest : i64ok d.dest
  amount : d.amount < 18446744073709551616
  epoch : i64ok d.epoch
  bits : d.bits.length ≤ 9223372036854775807
  what : i64ok d.what
  motion : i64ok d.motion
  par : d.par.Ok
def Ded.zero : Ded := ⟨0, 0, 0, 0, 0, 0, [], 0, zeroP, 0, false⟩
/-- Is a deed that moves a motion right? -/
def rightD (d : Ded) : Bool := decide (0 ≤ d.account ∧ d.account ≤ 63 ∧ d.member = 0 ∧ d.epoch = 0 ∧ d.bits.length = 0 ∧ d.motion = 0 ∧ d.yes = false ∧ 1 ≤ d.what ∧ d.what ≤ 4 ∧ (d.what = 2 → 0 ≤ d.dest ∧ d.dest ≤ 63 ∧ 0 < d.amount ∧ d.amount ≤ 4611686018427387904) ∧ (d.what ≠ 2 → d.dest = 0 ∧ d.amount = 0) ∧ (d.what = 1 → rightB d.par = true) ∧ (d.what ≠ 1 → d.par = zeroP))
/-- A deed that moves a motion with the fields alone that it uses. -/
def bareD (d : Ded) : Ded := ⟨6, d.account, 0, if d.what = 2 then d.dest else 0, if d.what = 2 then d.amount else 0, 0, [], d.what, if d.what = 1 then d.par else zeroP, 0, false⟩
theorem ded_under : Try.prog.underlying 79 = some (.struct (Try.prog.fieldsOf 79)) := by kernel_rfl
theorem ded_info : (Try.prog.info? 79).map (·.size) = some 34 := by kernel_rfl
theorem ded_load {dst : Option Tmp} {x : Operand} {ty : TypeId} {pos : String} {after : Array Edge} {gd : Option (Nat × Bool)} {a : Act} {w : World} {K : Act → World → Prop} {Q : Exit → Act → World → Prop} (h1 : a.eval x = .pointer (some ⟨blk (a.eval x), ofs (a.eval x), none⟩)) (h2 : (row w (blk (a.eval x))).map (roomy (ofs (a.eval x)) 34) = some true) : Oper.wp Try.prog ⟨dst, .load 79 x, ty, pos, after, gd⟩ a w K Q = K (a.put dst (.agg (((row w (blk (a.eval x))).getD #[]).extract (ofs (a.eval x)) (ofs (a.eval x) + 34)))) w := wp_load_part _ 34 _ ded_under rfl ded_info h1 h2
theorem ded_store {dst : Option Tmp} {x : Operand} {ty : TypeId} {pos : String} {after : Array Edge} {gd : Option (Nat × Bool)} {y : Operand} {a : Act} {w : World} {K : Act → World → Prop} {Q : Exit → Act → World → Prop} (h1 : a.eval x = .pointer (some ⟨blk (a.eval x), 0, none⟩)) (h2 : (row w (blk (a.eval x))).map (·.size) = some 34) (h3 : a.eval y = .agg (aggOf (a.eval y))) (h4 : (aggOf (a.eval y)).size = 34) (h5 : allOne (aggOf (a.eval y)) = true) : Oper.wp Try.prog ⟨dst, .store 79 x y, ty, pos, after, gd⟩ a w K Q = K (a.put dst undef) (w.setRow (blk (a.eval x)) (aggOf (a.eval y))) := wp_store_agg _ 34 ded_info h1 h2 h3 h4 h5
theorem ded_run_load {ρ : Operand → Value} {dst : Option Tmp} {x : Operand} {ty : TypeId} {pos : String} {after : Array Edge} {gd : Option (Nat × Bool)} {w : World} (h1 : ρ x = .pointer (some ⟨blk (ρ x), ofs (ρ x), none⟩)) (h2 : (row w (blk (ρ x))).map (roomy (ofs (ρ x)) 34) = some true) : (execOp ρ ⟨dst, .load 79 x, ty, pos, after, gd⟩).run Try.prog w = .ok (.value (.agg (((row w (blk (ρ x))).getD #[]).extract (ofs (ρ x)) (ofs (ρ x) + 34)))) w := run_load_part _ 34 _ ded_under rfl ded_info h1 h2
theorem ded_quiet {C : World → Prop} {dst : Option Tmp} {x : Operand} {ty : TypeId} {pos : String} {after : Array Edge} {gd : Option (Nat × Bool)} {a : Act} {w : World} {g o : Nat} {cs : Array Value} (h1 : a.eval x = .pointer (some ⟨g, o, none⟩)) (h2 : row w g = some cs) (hs : roomy o 34 cs = true) : Oper.quietAt Try.prog ⟨dst, .load 79 x, ty, pos, after, gd⟩ a C w (.agg (cs.extract o (o + 34))) := quiet_load_part _ 34 _ ded_under rfl ded_info h1 h2 hs
attribute [go_sem ↓] ded_load ded_store ded_run_load
theorem rded_under : Try.prog.underlying 92 = some (.struct (Try.prog.fieldsOf 92)) := by kernel_rfl
theorem rded_info : (Try.prog.info? 92).map (·.size) = some 34 := by kernel_rfl
theorem rded_load {dst : Option Tmp} {x : Operand} {ty : TypeId} {pos : String} {after : Array Edge} {gd : Option (Nat × Bool)} {a : Act} {w : World} {K : Act → World → Prop} {Q : Exit → Act → World → Prop} (h1 : a.eval x = .pointer (some ⟨blk (a.eval x), ofs (a.eval x), none⟩)) (h2 : (row w (blk (a.eval x))).map (roomy (ofs (a.eval x)) 34) = some true) : Oper.wp Try.prog ⟨dst, .load 92 x, ty, pos, after, gd⟩ a w K Q = K (a.put dst (.agg (((row w (blk (a.eval x))).getD #[]).extract (ofs (a.eval x)) (ofs (a.eval x) + 34)))) w := wp_load_part _ 34 _ rded_under rfl rded_info h1 h2
theorem rded_store {dst : Option Tmp} {x : Operand} {ty : TypeId} {pos : String} {after : Array Edge} {gd : Option (Nat × Bool)} {y : Operand} {a : Act} {w : World} {K : Act → World → Prop} {Q : Exit → Act → World → Prop} (h1 : a.eval x = .pointer (some ⟨blk (a.eval x), 0, none⟩)) (h2 : (row w (blk (a.eval x))).map (·.size) = some 34) (h3 : a.eval y = .agg (aggOf (a.eval y))) (h4 : (aggOf (a.eval y)).size = 34) (h5 : allOne (aggOf (a.eval y)) = true) : Oper.wp Try.prog ⟨dst, .store 92 x y, ty, pos, after, gd⟩ a w K Q = K (a.put dst undef) (w.setRow (blk (a.eval x)) (aggOf (a.eval y))) := wp_store_agg _ 34 rded_info h1 h2 h3 h4 h5
theorem rded_run_load {ρ : Operand → Value} {dst : Option Tmp} {x : Operand} {ty : TypeId} {pos : String} {after : Array Edge} {gd : Option (Nat × Bool)} {w : World} (h1 : ρ x = .pointer (some ⟨blk (ρ x), ofs (ρ x), none⟩)) (h2 : (row w (blk (ρ x))).map (roomy (ofs (ρ x)) 34) = some true) : (execOp ρ ⟨dst, .load 92 x, ty, pos, after, gd⟩).run Try.prog w = .ok (.value (.agg (((row w (blk (ρ x))).getD #[]).extract (ofs (ρ x)) (ofs (ρ x) + 34)))) w := run_load_part _ 34 _ rded_under rfl rded_info h1 h2
theorem rded_quiet {C : World → Prop} {dst : Option Tmp} {x : Operand} {ty : TypeId} {pos : String} {after : Array Edge} {gd : Option (Nat × Bool)} {a : Act} {w : World} {g o : Nat} {cs : Array Value} (h1 : a.eval x = .pointer (some ⟨g, o, none⟩)) (h2 : row w g = some cs) (hs : roomy o 34 cs = true) : Oper.quietAt Try.prog ⟨dst, .load 92 x, ty, pos, after, gd⟩ a C w (.agg (cs.extract o (o + 34))) := quiet_load_part _ 34 _ rded_under rfl rded_info h1 h2 hs
attribute [go_sem ↓] rded_load rded_store rded_run_load
theorem dwithin_any (n lo hi : Int) (w : World) : Calls Try.prog 132 #[.int .i64 n, .int .i64 lo, .int .i64 hi] w fun e w' => e = .returned (.bool (btw n lo hi)) ∧ w = w' := by
  by_cases h1 : lo ≤ n
  · by_cases h2 : n ≤ hi
    · have HV : Hid (btw n lo hi = true) := Lib.hid (decide_eq_true ⟨h1, h2⟩)
      go_enter Try.func132, Try.ntmps132
      go_wp2_with fail
      go_ret
      exact ⟨by rw [HV.out]; rfl, rfl⟩
    · have HV : Hid (btw n lo hi = false) := Lib.hid (decide_eq_false fun h => h2 h.2)
      go_enter Try.func132, Try.ntmps132
      go_wp2_with fail
      go_ret
      exact ⟨by rw [HV.out]; rfl, rfl⟩
  · have HV : Hid (btw n lo hi = false) := Lib.hid (decide_eq_false fun h => h1 h.1)
    go_enter Try.func132, Try.ntmps132
    go_wp2_with fail
    go_ret
    exact ⟨by rw [HV.out]; rfl, rfl⟩
theorem in08_any (n lo hi : Int) (w : World) : Calls Try.prog 137 #[.int .i64 n, .int .i64 lo, .int .i64 hi] w fun e w' => e = .returned (.bool (btw n lo hi)) ∧ w = w' := by
  by_cases h1 : lo ≤ n
  · by_cases h2 : n ≤ hi
    · have HV : Hid (btw n lo hi = true) := Lib.hid (decide_eq_true ⟨h1, h2⟩)
      go_enter Try.func137, Try.ntmps137
      go_wp2_with fail
      go_ret
      exact ⟨by rw [HV.out]; rfl, rfl⟩
    · have HV : Hid (btw n lo hi = false) := Lib.hid (decide_eq_false fun h => h2 h.2)
      go_enter Try.func137, Try.ntmps137
      go_wp2_with fail
      go_ret
      exact ⟨by rw [HV.out]; rfl, rfl⟩
  · have HV : Hid (btw n lo hi = false) := Lib.hid (decide_eq_false fun h => h1 h.1)
    go_enter Try.func137, Try.ntmps137
    go_wp2_with fail
    go_ret
    exact ⟨by rw [HV.out]; rfl, rfl⟩
set_option maxRecDepth 100000 in
set_option maxHeartbeats 8000000 in
theorem bare6_any (d : Ded) (a : DedA) (hk : d.kind = 6) (w : World) : Calls Try.prog 134 #[.agg (dedC (d, a))] w fun e w' => e = .returned (.agg (dedC (bareD d, DedA.nil))) ∧ Below w.heap.size w w' := by
  obtain ⟨kind, account, member, dest, amount, epoch, bits, what, par, motion, yes⟩ := d
  have hk : kind = 6 := hk
  subst hk
  have r0 : row ((w.alloc (.cells (dedC (⟨6, account, member, dest, amount, epoch, bits, what, par, motion, yes⟩, a)) 79)).alloc (.cells (dedC (Ded.zero, DedA.nil)) 79)) w.heap.size = some (dedC (⟨6, account, member, dest, amount, epoch, bits, what, par, motion, yes⟩, a)) := (by (repeat (first | assumption | (refine row_at _ _ _ _ ?_; first | rfl | (simp only [World.size_alloc]; done) | (simp only [World.size_alloc]; omega)) | (refine (row_past _ _ _ ?_).trans ?_; (focus (first | exact Nat.lt_succ_self _ | ((repeat rw [World.size_alloc]); omega) | (simp; done) | (simp; omega) | omega))) | rw [row_drewN] | rw [row_drew])); (first | done | fail))
  have q0 : row ((w.alloc (.cells (dedC (⟨6, account, member, dest, amount, epoch, bits, what, par, motion, yes⟩, a)) 79)).alloc (.cells (dedC (Ded.zero, DedA.nil)) 79)) (w.heap.size + 1) = some (dedC (Ded.zero, DedA.nil)) := (by (repeat (first | assumption | (refine row_at _ _ _ _ ?_; first | rfl | (simp only [World.size_alloc]; done) | (simp only [World.size_alloc]; omega)) | (refine (row_past _ _ _ ?_).trans ?_; (focus (first | exact Nat.lt_succ_self _ | ((repeat rw [World.size_alloc]); omega) | (simp; done) | (simp; omega) | omega))) | rw [row_drewN] | rw [row_drew])); (first | done | fail))
  have hB0 : Below w.heap.size w ((w.alloc (.cells (dedC (⟨6, account, member, dest, amount, epoch, bits, what, par, motion, yes⟩, a)) 79)).alloc (.cells (dedC (Ded.zero, DedA.nil)) 79)) := (by (repeat (first | exact Below.refl _ _ | assumption | (refine Below.allocT ?_ _) | refine Below.drew ?_ | refine below_drewN ?_ _ | (refine Below.then ?_ (by assumption)) | (refine Below.setRow ?_ ?_ _; rotate_left; (focus (first | exact Nat.lt_succ_self _ | ((repeat rw [World.size_alloc]); omega) | (simp; done) | (simp; omega) | omega))) | (refine Below.setCell ?_ ?_ _; rotate_left; (focus (first | exact Nat.lt_succ_self _ | ((repeat rw [World.size_alloc]); omega) | (simp; done) | (simp; omega) | omega))) | (refine Below.then' ?_ (by assumption) ?_; rotate_left; (focus (first | exact Nat.lt_succ_self _ | ((repeat rw [World.size_alloc]); omega) | (simp; done) | (simp; omega) | omega))) | fail)); (first | done | fail))
  go_enter Try.func134, Try.ntmps134
  go_upto_region 1 with fail
  change Code.wp _ _ _ _ ((w.alloc (.cells (dedC (⟨6, account, member, dest, amount, epoch, bits, what, par, motion, yes⟩, a)) 79)).alloc (.cells (dedC (Ded.zero, DedA.nil)) 79))
  generalize (w.alloc (.cells (dedC (⟨6, account, member, dest, amount, epoch, bits, what, par, motion, yes⟩, a)) 79)).alloc (.cells (dedC (Ded.zero, DedA.nil)) 79) = w0 at *
  have c0 : w0.cell? ⟨w.heap.size, 0, none⟩ = some (.int .i64 6) := row_cell r0 0
  have c1 : w0.cell? ⟨w.heap.size, 1, none⟩ = some (.int .i64 account) := row_cell r0 1
  have hz := dedC_one (⟨6, account, 0, 0, 0, 0, [], 0, zeroP, 0, false⟩, DedA.nil)
  have hzs := dedC_size (⟨6, account, 0, 0, 0, 0, [], 0, zeroP, 0, false⟩, DedA.nil)
  go_upto_region 2 with (refine wpList_build_to (dedC (⟨6, account, 0, 0, 0, 0, [], 0, zeroP, 0, false⟩, DedA.nil)) rfl 79 _ rfl (by kernel_rfl) ?_)
  refine of_world (fun W => Below w0.heap.size w0 W ∧ row W w0.heap.size = some (dedC (⟨6, account, 0, 0, 0, 0, [], 0, zeroP, 0, false⟩, DedA.nil))) ⟨(by (repeat (first | exact Below.refl _ _ | assumption | (refine Below.allocT ?_ _) | refine Below.drew ?_ | refine below_drewN ?_ _ | (refine Below.then ?_ (by assumption)) | (refine Below.setRow ?_ ?_ _; rotate_left; (focus (first | exact Nat.lt_succ_self _ | ((repeat rw [World.size_alloc]); omega) | (simp; done) | (simp; omega) | omega))) | (refine Below.setCell ?_ ?_ _; rotate_left; (focus (first | exact Nat.lt_succ_self _ | ((repeat rw [World.size_alloc]); omega) | (simp; done) | (simp; omega) | omega))) | (refine Below.then' ?_ (by assumption) ?_; rotate_left; (focus (first | exact Nat.lt_succ_self _ | ((repeat rw [World.size_alloc]); omega) | (simp; done) | (simp; omega) | omega))) | fail)); (first | done | fail)), by first | exact row_at _ _ _ _ rfl | (rw [row_setRow_if, if_pos rfl, row_at _ _ _ _ rfl]; rfl)⟩ ?_
  rintro w1 ⟨hb1, x1⟩
  have r1 := below_row hb1 r0 (row_lt r0)
  have q1 := below_row hb1 q0 (row_lt q0)
  have B1 := Below.then hB0 hb1
  have G1 : Hid (w.heap.size + 1 < w0.heap.size) := Lib.hid (row_lt q0)
  clear r0 q0 hB0 hb1 c0 c1 hz hzs
  generalize w0.heap.size = g3 at *
  have c0 : w1.cell? ⟨w.heap.size, 0, none⟩ = some (.int .i64 6) := row_cell r1 0
  have c7 : w1.cell? ⟨w.heap.size, 7, none⟩ = some (.int .i64 what) := row_cell r1 7
  have k7 : w1.cell? ⟨g3, 7, none⟩ = some (.int .i64 0) := row_cell x1 7
  have f7 := row_frozen x1 7
  go_upto_region 17 with fail
  refine of_world (fun W => Below w.heap.size w W ∧ row W g3 = some (dedC (⟨6, account, 0, 0, 0, 0, [], what, zeroP, 0, false⟩, DedA.nil)) ∧ row W w.heap.size = some (dedC (⟨6, account, member, dest, amount, epoch, bits, what, par, motion, yes⟩, a)) ∧ row W (w.heap.size + 1) = some (dedC (Ded.zero, DedA.nil))) ⟨Below.setCell B1 (p := ⟨g3, 7, none⟩) (by have := G1.out; show w.heap.size ≤ g3; omega) _, row_set x1 7 _, (row_far w1 ⟨g3, 7, none⟩ _ _ (by have := G1.out; show w.heap.size ≠ g3; omega)).trans r1, (row_far w1 ⟨g3, 7, none⟩ _ _ (by have := G1.out; show w.heap.size + 1 ≠ g3; omega)).trans q1⟩ ?_
  rintro w2 ⟨B2, x2, r2, q2⟩
  clear c0 c7 k7 f7 r1 q1 x1 B1
  have HEnd : Hid (∀ W, row W (w.heap.size + 1) = some (dedC (Ded.zero, DedA.nil)) → ∃ t, (W.setRow (w.heap.size + 1) (dedC (bareD ⟨6, account, member, dest, amount, epoch, bits, what, par, motion, yes⟩, DedA.nil))).heap[w.heap.size + 1]? = some (.cells (dedC (bareD ⟨6, account, member, dest, amount, epoch, bits, what, par, motion, yes⟩, DedA.nil)) t (0, 0))) := Lib.hid fun W h => row_heap (row_setRow h)
  have c7 : w2.cell? ⟨w.heap.size, 7, none⟩ = some (.int .i64 what) := row_cell r2 7
  by_cases h1 : what = 1
  · subst h1
    have hth : w2.there g3 8 24 := fun j hj => by
      refine ⟨?_, row_frozen x2 _⟩
      rw [row_cell x2, Array.getElem?_eq_getElem (by rw [dedC_size]; omega)]
      rfl
    have c7' := c7
    go_upto_region 19 with (refine wpList_store_mid rfl 76 _ _ (by rfl) g3 8 par.cells (by rfl) (by rfl) hth parp_info par.cells_one ?_)
    refine of_world (fun W => Below w.heap.size w W ∧ row W g3 = some (dedC (⟨6, account, 0, 0, 0, 0, [], 1, par, 0, false⟩, DedA.nil)) ∧ row W w.heap.size = some (dedC (⟨6, account, member, dest, amount, epoch, bits, 1, par, motion, yes⟩, a)) ∧ row W (w.heap.size + 1) = some (dedC (Ded.zero, DedA.nil))) ⟨?_, ?_, ?_, ?_⟩ ?_
    · exact (chg_setCells' (S := fun k => k = g3) rfl _ _ _ (Chg.refl _ w2)) |>.toBelow (B := w.heap.size) (fun k hk => by have := G1.out; have hk' : k = g3 := hk; omega) B2.size |> B2.trans
    · rw [row_setL g3 _ 8 w2 _ x2, setL_par]
    · exact ((chg_setCells' (S := fun k => k = g3) rfl _ _ _ (Chg.refl _ w2)).row (row_lt r2) (by have := G1.out; show ¬ w.heap.size = g3; omega)).trans r2
    · exact ((chg_setCells' (S := fun k => k = g3) rfl _ _ _ (Chg.refl _ w2)).row (row_lt q2) (by have := G1.out; show ¬ w.heap.size + 1 = g3; omega)).trans q2
    clear c7 c7' hth x2 r2 q2 B2
    rintro w3 ⟨B2, x2, r2, q2⟩
    have c7 : w3.cell? ⟨w.heap.size, 7, none⟩ = some (.int .i64 1) := row_cell r2 7
    have hd : bareD ⟨6, account, member, dest, amount, epoch, bits, 1, par, motion, yes⟩ = ⟨6, account, 0, 0, 0, 0, [], 1, par, 0, false⟩ := by unfold bareD; simp
    have HD := Lib.hid hd
    rw [hd] at HEnd
    obtain ⟨t9, ht9⟩ := HEnd.out w3 q2
    have HT9 := Lib.hid ht9
    have HB2 := Lib.hid B2
    clear ht9 hd B2 HEnd
    go_wp2_with fail
    exact bodyPost_ret (v := .agg (dedC (⟨6, account, 0, 0, 0, 0, [], 1, par, 0, false⟩, DedA.nil))) (results_cell_row Try.results134 _ _ (w.heap.size + 1) t9 (dedC (⟨6, account, 0, 0, 0, 0, [], 1, par, 0, false⟩, DedA.nil)) (0, 0) _ rfl HT9.out ded_under rfl ded_info) rfl ⟨by rw [HD.out], Below.setRow HB2.out (Nat.le_succ _) _⟩
  by_cases h2 : what = 2
  · subst h2
    have k3 : w2.cell? ⟨w.heap.size, 3, none⟩ = some (.int .i64 dest) := row_cell r2 3
    have k4 : w2.cell? ⟨w.heap.size, 4, none⟩ = some (.int .u64 (amount : Int)) := row_cell r2 4
    have m3 : w2.cell? ⟨g3, 3, none⟩ = some (.int .i64 0) := row_cell x2 3
    have m4 : w2.cell? ⟨g3, 4, none⟩ = some (.int .u64 0) := row_cell x2 4
    have f3 := row_frozen x2 3
    have f4 := row_frozen x2 4
    go_upto_region 20 with fail
    go_region_with fail
    all_goals
      refine of_world' (fun W => Below w.heap.size w W ∧ row W g3 = some (dedC (⟨6, account, 0, dest, amount, 0, [], 2, zeroP, 0, false⟩, DedA.nil)) ∧ row W w.heap.size = some (dedC (⟨6, account, member, dest, amount, epoch, bits, 2, par, motion, yes⟩, a)) ∧ row W (w.heap.size + 1) = some (dedC (Ded.zero, DedA.nil))) ?_ ?_
      · first
          | exact ⟨Below.setCell (Below.setCell B2.drew (p := ⟨g3, 3, none⟩) (by have := G1.out; show w.heap.size ≤ g3; omega) _) (p := ⟨g3, 4, none⟩) (by have := G1.out; show w.heap.size ≤ g3; omega) _, row_set (row_set (row_of_drew x2) 3 _) 4 _, ((row_far _ ⟨g3, 4, none⟩ _ _ (by have := G1.out; show w.heap.size ≠ g3; omega)).trans (row_far _ ⟨g3, 3, none⟩ _ _ (by have := G1.out; show w.heap.size ≠ g3; omega))).trans r2, ((row_far _ ⟨g3, 4, none⟩ _ _ (by have := G1.out; show w.heap.size + 1 ≠ g3; omega)).trans (row_far _ ⟨g3, 3, none⟩ _ _ (by have := G1.out; show w.heap.size + 1 ≠ g3; omega))).trans q2⟩
          | exact ⟨Below.setCell (Below.setCell B2.drew (p := ⟨g3, 4, none⟩) (by have := G1.out; show w.heap.size ≤ g3; omega) _) (p := ⟨g3, 3, none⟩) (by have := G1.out; show w.heap.size ≤ g3; omega) _, row_set (row_set (row_of_drew x2) 4 _) 3 _, ((row_far _ ⟨g3, 3, none⟩ _ _ (by have := G1.out; show w.heap.size ≠ g3; omega)).trans (row_far _ ⟨g3, 4, none⟩ _ _ (by have := G1.out; show w.heap.size ≠ g3; omega))).trans r2, ((row_far _ ⟨g3, 3, none⟩ _ _ (by have := G1.out; show w.heap.size + 1 ≠ g3; omega)).trans (row_far _ ⟨g3, 4, none⟩ _ _ (by have := G1.out; show w.heap.size + 1 ≠ g3; omega))).trans q2⟩
      clear c7 k3 k4 m3 m4 f3 f4 x2 r2 q2 B2
      rintro w3 ⟨B2, x2, r2, q2⟩
      have hd : bareD ⟨6, account, member, dest, amount, epoch, bits, 2, par, motion, yes⟩ = ⟨6, account, 0, dest, amount, 0, [], 2, zeroP, 0, false⟩ := by unfold bareD; simp
      have HD := Lib.hid hd
      rw [hd] at HEnd
      obtain ⟨t9, ht9⟩ := HEnd.out w3 q2
      have HT9 := Lib.hid ht9
      have HB2 := Lib.hid B2
      clear ht9 hd B2 HEnd
      go_wp2_with fail
      exact bodyPost_ret (v := .agg (dedC (⟨6, account, 0, dest, amount, 0, [], 2, zeroP, 0, false⟩, DedA.nil))) (results_cell_row Try.results134 _ _ (w.heap.size + 1) t9 (dedC (⟨6, account, 0, dest, amount, 0, [], 2, zeroP, 0, false⟩, DedA.nil)) (0, 0) _ rfl HT9.out ded_under rfl ded_info) rfl ⟨by rw [HD.out], Below.setRow HB2.out (Nat.le_succ _) _⟩
  have e1 : (what == 1) = false := beq_eq_false_iff_ne.2 h1
  have e2 : (what == 2) = false := beq_eq_false_iff_ne.2 h2
  have hd : bareD ⟨6, account, member, dest, amount, epoch, bits, what, par, motion, yes⟩ = ⟨6, account, 0, 0, 0, 0, [], what, zeroP, 0, false⟩ := by unfold bareD; simp only [if_neg h1, if_neg h2]
  have HD := Lib.hid hd
  rw [hd] at HEnd
  obtain ⟨t9, ht9⟩ := HEnd.out w2 q2
  have HT9 := Lib.hid ht9
  have HB2 := Lib.hid B2
  clear ht9 hd h1 h2 B2 HEnd
  go_wp2_with fail
  exact bodyPost_ret (v := .agg (dedC (⟨6, account, 0, 0, 0, 0, [], what, zeroP, 0, false⟩, DedA.nil))) (results_cell_row Try.results134 _ _ (w.heap.size + 1) t9 (dedC (⟨6, account, 0, 0, 0, 0, [], what, zeroP, 0, false⟩, DedA.nil)) (0, 0) _ rfl HT9.out ded_under rfl ded_info) rfl ⟨by rw [HD.out], Below.setRow HB2.out (Nat.le_succ _) _⟩
end Go.Proofs.Ytnakkjgnjffkpaa

namespace Go.Proofs.Ytnakkjgnjffkpaa
open Go.RowKit
set_option linter.unusedVariables false

theorem lapp_cons {α : Type} (a : α) (l m : List α) : List.append (a :: l) m = a :: List.append l m := rfl
theorem lapp_nil {α : Type} (l : List α) : List.append [] l = l := rfl
def same6 (member dest D2 : Int) (amount A2 : Nat) (epoch : Int) (par P2 : Par) (motion : Int) (yes : Bool) (nb : Nat) : Bool := decide (member = 0) && (decide (dest = D2) && (decide (amount = A2) && (decide (epoch = 0) && (parEq par P2 && (decide (motion = 0) && (!yes && decide (nb = 0)))))))
set_option maxRecDepth 100000 in
set_option maxHeartbeats 16000000 in
theorem same6_any (account member dest D2 : Int) (amount A2 : Nat) (epoch : Int) (bits : List Nat) (what : Int) (par P2 : Par) (motion : Int) (yes : Bool) (a : DedA) (w : World) :
    Calls Try.prog 133 #[.agg (dedC (⟨6, account, member, dest, amount, epoch, bits, what, par, motion, yes⟩, a)), .agg (dedC (⟨6, account, 0, D2, A2, 0, [], what, P2, 0, false⟩, DedA.nil))] w fun e w' => e = .returned (.bool (same6 member dest D2 amount A2 epoch par P2 motion yes bits.length)) ∧ Below w.heap.size w w' := by
  have r0 : row ((w.alloc (.cells (dedC (⟨6, account, member, dest, amount, epoch, bits, what, par, motion, yes⟩, a)) 79)).alloc (.cells (dedC (⟨6, account, 0, D2, A2, 0, [], what, P2, 0, false⟩, DedA.nil)) 79)) w.heap.size = some (dedC (⟨6, account, member, dest, amount, epoch, bits, what, par, motion, yes⟩, a)) := (by (repeat (first | assumption | (refine row_at _ _ _ _ ?_; first | rfl | (simp only [World.size_alloc]; done) | (simp only [World.size_alloc]; omega)) | (refine (row_past _ _ _ ?_).trans ?_; (focus (first | exact Nat.lt_succ_self _ | ((repeat rw [World.size_alloc]); omega) | (simp; done) | (simp; omega) | omega))) | rw [row_drewN] | rw [row_drew])); (first | done | fail))
  have q0 : row ((w.alloc (.cells (dedC (⟨6, account, member, dest, amount, epoch, bits, what, par, motion, yes⟩, a)) 79)).alloc (.cells (dedC (⟨6, account, 0, D2, A2, 0, [], what, P2, 0, false⟩, DedA.nil)) 79)) (w.heap.size + 1) = some (dedC (⟨6, account, 0, D2, A2, 0, [], what, P2, 0, false⟩, DedA.nil)) := (by (repeat (first | assumption | (refine row_at _ _ _ _ ?_; first | rfl | (simp only [World.size_alloc]; done) | (simp only [World.size_alloc]; omega)) | (refine (row_past _ _ _ ?_).trans ?_; (focus (first | exact Nat.lt_succ_self _ | ((repeat rw [World.size_alloc]); omega) | (simp; done) | (simp; omega) | omega))) | rw [row_drewN] | rw [row_drew])); (first | done | fail))
  have hB0 : Below w.heap.size w ((w.alloc (.cells (dedC (⟨6, account, member, dest, amount, epoch, bits, what, par, motion, yes⟩, a)) 79)).alloc (.cells (dedC (⟨6, account, 0, D2, A2, 0, [], what, P2, 0, false⟩, DedA.nil)) 79)) := (by (repeat (first | exact Below.refl _ _ | assumption | (refine Below.allocT ?_ _) | refine Below.drew ?_ | refine below_drewN ?_ _ | (refine Below.then ?_ (by assumption)) | (refine Below.setRow ?_ ?_ _; rotate_left; (focus (first | exact Nat.lt_succ_self _ | ((repeat rw [World.size_alloc]); omega) | (simp; done) | (simp; omega) | omega))) | (refine Below.setCell ?_ ?_ _; rotate_left; (focus (first | exact Nat.lt_succ_self _ | ((repeat rw [World.size_alloc]); omega) | (simp; done) | (simp; omega) | omega))) | (refine Below.then' ?_ (by assumption) ?_; rotate_left; (focus (first | exact Nat.lt_succ_self _ | ((repeat rw [World.size_alloc]); omega) | (simp; done) | (simp; omega) | omega))) | fail)); (first | done | fail))
  obtain ⟨w0, hw0⟩ : ∃ x, x = ((w.alloc (.cells (dedC (⟨6, account, member, dest, amount, epoch, bits, what, par, motion, yes⟩, a)) 79)).alloc (.cells (dedC (⟨6, account, 0, D2, A2, 0, [], what, P2, 0, false⟩, DedA.nil)) 79)) := ⟨_, rfl⟩
  rw [← hw0] at r0 q0 hB0
  have c0 := fun i => row_cell r0 i
  have d0 := fun i => row_cell q0 i
  have HB0 := Lib.hid hB0
  clear hB0
  go_enter Try.func133, Try.ntmps133
  simp only [lapp_cons, lapp_nil]
  go_wp2_with (first | (rw [← hw0]; clear hw0) | go_big_skip | go_big_want | go_big_guard)
  rotate_left
  iterate 7
    focus
      clear r0 q0 c0 d0
      have HV : Hid (same6 member dest D2 amount A2 epoch par P2 motion yes bits.length = false) := Lib.hid (by
        have : ¬ ((amount : Int) = (A2 : Int)) → ¬ amount = A2 := fun h e => h (by rw [e])
        unfold same6; simp_all)
      go_ret
      exact ⟨by rw [HV.out]; rfl, HB0.out⟩
  clear r0 q0 c0 d0
  have HV : Hid (same6 member dest D2 amount A2 epoch par P2 motion yes bits.length = ((bits.length : Int) == 0)) := Lib.hid (by
    have e : amount = A2 := by omega
    unfold same6
    rw [Bool.eq_iff_iff]
    simp_all)
  go_ret
  exact ⟨by rw [HV.out]; rfl, HB0.out⟩
def sameV (d : Ded) : Bool := same6 d.member d.dest (bareD d).dest d.amount (bareD d).amount d.epoch d.par (bareD d).par d.motion d.yes d.bits.length
theorem paid6_any (d : Ded) (a : DedA) (hk : d.kind = 6) (w : World) : Calls Try.prog 135 #[.agg (dedC (d, a))] w fun e w' => e = .returned (.bool (decide (d.what = 2))) ∧ Below w.heap.size w w' := by
  obtain ⟨kind, account, member, dest, amount, epoch, bits, what, par, motion, yes⟩ := d
  have hk : kind = 6 := hk
  subst hk
  have r0 : row (w.alloc (.cells (dedC (⟨6, account, member, dest, amount, epoch, bits, what, par, motion, yes⟩, a)) 79)) w.heap.size = some (dedC (⟨6, account, member, dest, amount, epoch, bits, what, par, motion, yes⟩, a)) := (by (repeat (first | assumption | (refine row_at _ _ _ _ ?_; first | rfl | (simp only [World.size_alloc]; done) | (simp only [World.size_alloc]; omega)) | (refine (row_past _ _ _ ?_).trans ?_; (focus (first | exact Nat.lt_succ_self _ | ((repeat rw [World.size_alloc]); omega) | (simp; done) | (simp; omega) | omega))) | rw [row_drewN] | rw [row_drew])); (first | done | fail))
  have hB0 : Below w.heap.size w (w.alloc (.cells (dedC (⟨6, account, member, dest, amount, epoch, bits, what, par, motion, yes⟩, a)) 79)) := (by (repeat (first | exact Below.refl _ _ | assumption | (refine Below.allocT ?_ _) | refine Below.drew ?_ | refine below_drewN ?_ _ | (refine Below.then ?_ (by assumption)) | (refine Below.setRow ?_ ?_ _; rotate_left; (focus (first | exact Nat.lt_succ_self _ | ((repeat rw [World.size_alloc]); omega) | (simp; done) | (simp; omega) | omega))) | (refine Below.setCell ?_ ?_ _; rotate_left; (focus (first | exact Nat.lt_succ_self _ | ((repeat rw [World.size_alloc]); omega) | (simp; done) | (simp; omega) | omega))) | (refine Below.then' ?_ (by assumption) ?_; rotate_left; (focus (first | exact Nat.lt_succ_self _ | ((repeat rw [World.size_alloc]); omega) | (simp; done) | (simp; omega) | omega))) | fail)); (first | done | fail))
  have c0 := fun i => row_cell r0 i
  have HW := Lib.hid (fun W => dwithin_any 6 1 3 W)
  rw [show btw 6 1 3 = false by decide] at HW
  by_cases h : what = 2
  · subst h
    go_enter Try.func135, Try.ntmps135
    go_wp2_with fail
    refine (HW.out _).mono ?_
    rintro e w1 ⟨rfl, rfl⟩
    go_wp2_with fail
    go_ret
    exact ⟨rfl, hB0⟩
  · have e1 : (what == 2) = false := beq_eq_false_iff_ne.2 h
    have HV : Hid (decide (what = 2) = false) := Lib.hid (decide_eq_false h)
    clear h
    go_enter Try.func135, Try.ntmps135
    go_wp2_with fail
    refine (HW.out _).mono ?_
    rintro e w1 ⟨rfl, rfl⟩
    go_wp2_with fail
    go_ret
    exact ⟨by show _ = Ending.returned (.bool (decide (what = 2))); rw [HV.out]; rfl, hB0⟩
/-- The plain law: what sameV says. -/
theorem sameV_yes {d : Ded} (h : sameV d = true) : d.member = 0 ∧ d.epoch = 0 ∧ d.motion = 0 ∧ d.yes = false ∧ d.bits.length = 0 ∧ (d.what ≠ 2 → d.dest = 0 ∧ d.amount = 0) ∧ (d.what ≠ 1 → d.par = zeroP) := by
  unfold sameV same6 at h
  simp only [Bool.and_eq_true, decide_eq_true_eq, Bool.not_eq_true'] at h
  obtain ⟨h1, h2, h3, h4, h5, h6, h7, h8⟩ := h
  refine ⟨h1, h4, h6, h7, h8, fun hw => ?_, fun hw => ?_⟩
  · unfold bareD at h2 h3
    simp only [if_neg hw] at h2 h3
    exact ⟨h2, h3⟩
  · unfold bareD parEq at h5
    simp only [if_neg hw, decide_eq_true_eq] at h5
    exact h5
theorem sameV_no {d : Ded} (h : sameV d = false) : rightD d = false := by
  refine decide_eq_false fun ⟨_, _, h1, h2, h3, h4, h5, _, _, _, h6, _, h7⟩ => ?_
  have : sameV d = true := by
    unfold sameV same6
    simp only [Bool.and_eq_true, decide_eq_true_eq, Bool.not_eq_true']
    refine ⟨h1, ?_, ?_, h2, ?_, h4, h5, h3⟩
    · unfold bareD
      by_cases hw : d.what = 2
      · simp only [if_pos hw]
      · simp only [if_neg hw]; exact (h6 hw).1
    · unfold bareD
      by_cases hw : d.what = 2
      · simp only [if_pos hw]
      · simp only [if_neg hw]; exact (h6 hw).2
    · unfold bareD parEq
      by_cases hw : d.what = 1
      · simp only [if_pos hw]; simp
      · simp only [if_neg hw]; exact decide_eq_true (h7 hw)
  rw [h] at this; cases this
theorem ded_quietO {C : World → Prop} {o : Oper} {x : Operand} (ho : o.op = .load 79 x) {a : Act} {w : World} {g : Nat} {d : Ded × DedA}
    (h1 : a.eval x = .pointer (some ⟨g, 0, none⟩)) (h2 : row w g = some (dedC d)) : Oper.quietAt Try.prog o a C w (.agg (dedC d)) := by
  obtain ⟨ds, op, ty, pos, af, gd⟩ := o
  have ho' : op = .load 79 x := ho
  subst ho'
  have := ded_quiet (C := C) (dst := ds) (ty := ty) (pos := pos) (after := af) (gd := gd) h1 h2 (dedC_room d)
  rwa [dedC_ext] at this
set_option maxRecDepth 100000 in
set_option maxHeartbeats 16000000 in
theorem dright6_any (d : Ded) (a : DedA) (hk : d.kind = 6) (w : World) : Calls Try.prog 82 #[.agg (dedC (d, a))] w fun e w' => e = .returned (.bool (rightD d)) ∧ Below w.heap.size w w' := by
  have HBare := Lib.hid (fun W => bare6_any d a hk W)
  have HPaid := Lib.hid (fun W => paid6_any d a hk W)
  have HNo := Lib.hid (fun h => sameV_no (d := d) h)
  have HYes := Lib.hid (fun h => sameV_yes (d := d) h)
  have HSame : Hid (∀ W, Calls Try.prog 133 #[.agg (dedC (d, a)), .agg (dedC (bareD d, DedA.nil))] W fun e w' => e = .returned (.bool (sameV d)) ∧ Below W.heap.size W w') := Lib.hid fun W => by
    have := same6_any d.account d.member d.dest (bareD d).dest d.amount (bareD d).amount d.epoch d.bits d.what d.par (bareD d).par d.motion d.yes a W
    rw [show (⟨6, d.account, d.member, d.dest, d.amount, d.epoch, d.bits, d.what, d.par, d.motion, d.yes⟩ : Ded) = d by rw [← hk]] at this
    exact this
  have HCk := Lib.hid (fun W => check_any d.par W)
  generalize hsv : sameV d = sv at *
  generalize bareD d = bd at *
  have HSV := Lib.hid hsv
  obtain ⟨kind, account, member, dest, amount, epoch, bits, what, par, motion, yes⟩ := d
  have hk : kind = 6 := hk
  subst hk
  have r0 : row (w.alloc (.cells (dedC (⟨6, account, member, dest, amount, epoch, bits, what, par, motion, yes⟩, a)) 79)) w.heap.size = some (dedC (⟨6, account, member, dest, amount, epoch, bits, what, par, motion, yes⟩, a)) := (by (repeat (first | assumption | (refine row_at _ _ _ _ ?_; first | rfl | (simp only [World.size_alloc]; done) | (simp only [World.size_alloc]; omega)) | (refine (row_past _ _ _ ?_).trans ?_; (focus (first | exact Nat.lt_succ_self _ | ((repeat rw [World.size_alloc]); omega) | (simp; done) | (simp; omega) | omega))) | rw [row_drewN] | rw [row_drew])); (first | done | fail))
  have hB0 : Below w.heap.size w (w.alloc (.cells (dedC (⟨6, account, member, dest, amount, epoch, bits, what, par, motion, yes⟩, a)) 79)) := (by (repeat (first | exact Below.refl _ _ | assumption | (refine Below.allocT ?_ _) | refine Below.drew ?_ | refine below_drewN ?_ _ | (refine Below.then ?_ (by assumption)) | (refine Below.setRow ?_ ?_ _; rotate_left; (focus (first | exact Nat.lt_succ_self _ | ((repeat rw [World.size_alloc]); omega) | (simp; done) | (simp; omega) | omega))) | (refine Below.setCell ?_ ?_ _; rotate_left; (focus (first | exact Nat.lt_succ_self _ | ((repeat rw [World.size_alloc]); omega) | (simp; done) | (simp; omega) | omega))) | (refine Below.then' ?_ (by assumption) ?_; rotate_left; (focus (first | exact Nat.lt_succ_self _ | ((repeat rw [World.size_alloc]); omega) | (simp; done) | (simp; omega) | omega))) | fail)); (first | done | fail))
  have HW := Lib.hid (fun n lo hi W => dwithin_any n lo hi W)
  have HW6 := Lib.hid (fun W => dwithin_any 6 1 7 W)
  rw [show btw 6 1 7 = true by decide] at HW6
  clear hsv
  go_enter Try.func82, Try.ntmps82
  go_upto_region 1 with fail
  generalize w.alloc (.cells (dedC (⟨6, account, member, dest, amount, epoch, bits, what, par, motion, yes⟩, a)) 79) = w0 at *
  have HM : Hid (∀ w', Below w0.heap.size w0 w' → row w' w.heap.size = some (dedC (⟨6, account, member, dest, amount, epoch, bits, what, par, motion, yes⟩, a)) ∧ w'.cell? ⟨w.heap.size, 0, none⟩ = some (.int .i64 6)) := Lib.hid fun w' h => ⟨(row_below h (row_lt r0)).trans r0, row_cell ((row_below h (row_lt r0)).trans r0) 0⟩
  have HB0 := Lib.hid hB0
  clear r0 hB0
  (refine wp_region_calm (by kernel_rfl) (by kernel_rfl) ?_; (repeat (first | go_big_quiet_skip | (go_big_quiet_want; apply calm_val; (focus (intro w' hb'; obtain ⟨q1, q2⟩ := HM.out w' hb'; first | exact ded_quietO rfl rfl q1 | (unfold Oper.quietAt; go_simp; first | rfl | (go_at_call 132; exact calm_call hb' (same_below (HW6.out _))) | (go_at_call 134; exact calm_call hb' (HBare.out _)) | (go_at_call 133; exact calm_call hb' (HSame.out _))))); (try simp only [Act.put, List.setIfInBounds_toArray, List.set_cons_zero, List.set_cons_succ]); go_big_quiet_on))); refine wpQuiet_nil ?_; intro w' hb')
  cases sv
  · have HV := Lib.hid (HNo.out rfl)
    go_wp2_with fail
    go_ret
    exact ⟨by rw [HV.out]; rfl, Below.then HB0.out hb'⟩
  obtain ⟨y1, y2, y3, y4, y5, y6, y7⟩ := HYes.out rfl
  replace y1 : member = 0 := y1
  replace y2 : epoch = 0 := y2
  replace y3 : motion = 0 := y3
  replace y4 : yes = false := y4
  have y5 : bits.length = 0 := y5
  have y5' := List.eq_nil_of_length_eq_zero y5
  replace y6 : what ≠ 2 → dest = 0 ∧ amount = 0 := y6
  replace y7 : what ≠ 1 → par = zeroP := y7
  subst y1 y2 y3 y4
  clear y5
  subst y5'
  have HY6 := Lib.hid y6
  have HY7 := Lib.hid y7
  have HRt : Hid (∀ b : Bool, (0 ≤ account ∧ account ≤ 63 ∧ 1 ≤ what ∧ what ≤ 4 ∧ (what = 2 → 0 ≤ dest ∧ dest ≤ 63 ∧ 0 < amount ∧ amount ≤ 4611686018427387904) ∧ (what = 1 → rightB par = true) ↔ b = true) → rightD (⟨6, account, 0, dest, amount, 0, [], what, par, 0, false⟩ : Ded) = b) := Lib.hid fun b h => by
    unfold rightD
    rw [Bool.eq_iff_iff, decide_eq_true_eq, ← h]
    constructor
    · rintro ⟨a1, a2, _, _, _, _, _, a3, a4, a5, _, a6, _⟩; exact ⟨a1, a2, a3, a4, a5, a6⟩
    · rintro ⟨a1, a2, a3, a4, a5, a6⟩; exact ⟨a1, a2, rfl, rfl, rfl, rfl, rfl, a3, a4, a5, HY6.out, a6, HY7.out⟩
  have rr := (HM.out w' hb').1
  have cc := fun i => row_cell rr i
  have HRr := Lib.hid rr
  have HBw := Lib.hid (Below.then HB0.out hb')
  have t127 : btw 0 0 127 = true := by decide
  have t31 : btw 0 0 31 = true := by decide
  have HW0 := Lib.hid (fun W => dwithin_any 0 0 127 W)
  rw [t127] at HW0
  have HW1 := Lib.hid (fun W => dwithin_any 0 0 31 W)
  rw [t31] at HW1
  have HWe := Lib.hid (fun W => dwithin_any 0 0 1073741824 W)
  rw [show btw 0 0 1073741824 = true by decide] at HWe
  clear HM y6 y7 HNo HYes HBare HSame hb' rr
  obtain ⟨w1, hw1⟩ : ∃ x, x = w' := ⟨_, rfl⟩
  by_cases ha : 0 ≤ account ∧ account ≤ 63
  rotate_left
  · have HA := Lib.hid (fun W => dwithin_any account 0 63 W)
    rw [show btw account 0 63 = false from decide_eq_false ha] at HA
    have HV := Lib.hid (HRt.out false ⟨fun h => absurd ⟨h.1, h.2.1⟩ ha, fun h => by cases h⟩)
    clear ha
    go_wp2_with fail
    refine (HA.out _).mono ?_
    rintro e w2 ⟨rfl, rfl⟩
    go_wp2_with fail
    go_ret
    exact ⟨by rw [HV.out]; rfl, HBw.out⟩
  have HA := Lib.hid (fun W => dwithin_any account 0 63 W)
  rw [show btw account 0 63 = true from decide_eq_true ha] at HA
  have HAc := Lib.hid ha
  clear ha
  by_cases hd : 0 ≤ dest ∧ dest ≤ 63
  rotate_left
  · have HD := Lib.hid (fun W => dwithin_any dest 0 63 W)
    rw [show btw dest 0 63 = false from decide_eq_false hd] at HD
    have HV := Lib.hid (HRt.out false ⟨fun h => by
      by_cases h2 : what = 2
      · exact absurd ⟨(h.2.2.2.2.1 h2).1, (h.2.2.2.2.1 h2).2.1⟩ hd
      · exact absurd (by rw [(HY6.out h2).1]; decide) hd, fun h => by cases h⟩)
    clear hd
    go_wp2_with fail
    refine (HA.out _).mono ?_
    rintro e w2 ⟨rfl, rfl⟩
    go_wp2_with fail
    refine (HD.out _).mono ?_
    rintro e w2 ⟨rfl, rfl⟩
    go_wp2_with fail
    go_ret
    exact ⟨by rw [HV.out]; rfl, HBw.out⟩
  have HD := Lib.hid (fun W => dwithin_any dest 0 63 W)
  rw [show btw dest 0 63 = true from decide_eq_true hd] at HD
  have HDs := Lib.hid hd
  clear hd
  go_wp2_with fail
  refine (HA.out _).mono ?_
  rintro e w2 ⟨rfl, rfl⟩
  go_wp2_with fail
  refine (HD.out _).mono ?_
  rintro e w2 ⟨rfl, rfl⟩
  go_wp2_with fail
  refine (HW0.out _).mono ?_
  rintro e w2 ⟨rfl, rfl⟩
  go_wp2_with fail
  refine (HW1.out _).mono ?_
  rintro e w2 ⟨rfl, rfl⟩
  clear hw1 cc HA HD HW0 HW1 t127 t31
  go_upto_region 5 with fail
  have HM2 : Hid (∀ W, Below w'.heap.size w' W → row W w.heap.size = some (dedC ((⟨6, account, 0, dest, amount, 0, [], what, par, 0, false⟩ : Ded), a)) ∧ W.cell? ⟨w.heap.size, 4, none⟩ = some (.int .u64 (amount : Int)) ∧ W.cell? ⟨w.heap.size, 5, none⟩ = some (.int .i64 0) ∧ W.cell? ⟨w.heap.size, 6, none⟩ = some (.slice a.a 0 a.c)) := Lib.hid fun W h =>
    have hr := (row_below h (row_lt HRr.out)).trans HRr.out
    ⟨hr, row_cell hr 4, row_cell hr 5, row_cell hr 6⟩
  obtain ⟨wb, hwb⟩ : ∃ x, x = w' := ⟨_, rfl⟩
  rw [← hwb] at HM2 HBw HRr ⊢
  clear hwb w'
  by_cases h2 : what = 2
  · subst h2
    have HPd : Hid (∀ W, Calls Try.prog 135 #[.agg (dedC ((⟨6, account, 0, dest, amount, 0, [], 2, par, 0, false⟩ : Ded), a))] W fun e w' => e = .returned (.bool true) ∧ Below W.heap.size W w') := Lib.hid fun W => HPaid.out W
    clear HPaid
    by_cases h3 : amount = 0
    · subst h3
      have HV := Lib.hid (HRt.out false ⟨fun h => absurd (h.2.2.2.2.1 rfl).2.2.1 (Nat.lt_irrefl 0), fun h => by cases h⟩)
      (refine wp_region_calm (by kernel_rfl) (by kernel_rfl) ?_; (repeat (first | go_big_quiet_skip | (go_big_quiet_want; apply calm_val; (focus (intro w' hb'; obtain ⟨q1, q4, q5, q6⟩ := HM2.out w' hb'; first | exact ded_quietO rfl rfl q1 | (unfold Oper.quietAt; go_simp; first | rfl | (go_at_call 132; exact calm_call hb' (same_below (HWe.out _))) | (go_at_call 135; exact calm_call hb' (HPd.out _))))); (try simp only [Act.put, List.setIfInBounds_toArray, List.set_cons_zero, List.set_cons_succ]); go_big_quiet_on))); refine wpQuiet_nil ?_; intro w' hb')
      go_wp2_with fail
      go_ret
      exact ⟨by rw [HV.out]; rfl, Below.then HBw.out hb'⟩
    by_cases h4 : 4611686018427387904 < amount
    · have HV := Lib.hid (HRt.out false ⟨fun h => absurd (h.2.2.2.2.1 rfl).2.2.2 (by omega), fun h => by cases h⟩)
      have e1 : (0 : Int) < (amount : Int) := by omega
      have e1' : 0 < amount := by omega
      have e2 : (4611686018427387904 : Int) < (amount : Int) := by omega
      clear h3 h4
      (refine wp_region_calm (by kernel_rfl) (by kernel_rfl) ?_; (repeat (first | go_big_quiet_skip | (go_big_quiet_want; apply calm_val; (focus (intro w' hb'; obtain ⟨q1, q4, q5, q6⟩ := HM2.out w' hb'; first | exact ded_quietO rfl rfl q1 | (unfold Oper.quietAt; go_simp; first | rfl | (go_at_call 132; exact calm_call hb' (same_below (HWe.out _))) | (go_at_call 135; exact calm_call hb' (HPd.out _))))); (try simp only [Act.put, List.setIfInBounds_toArray, List.set_cons_zero, List.set_cons_succ]); go_big_quiet_on))); refine wpQuiet_nil ?_; intro w' hb')
      go_wp2_with fail
      go_ret
      exact ⟨by rw [HV.out]; rfl, Below.then HBw.out hb'⟩
    have HV := Lib.hid (HRt.out true ⟨fun _ => rfl, fun _ => ⟨HAc.out.1, HAc.out.2, by omega, by omega, fun _ => ⟨HDs.out.1, HDs.out.2, by omega, by omega⟩, fun h => by omega⟩⟩)
    have e1 : (0 : Int) < (amount : Int) := by omega
    have e1' : 0 < amount := by omega
    have e2 : ¬ (4611686018427387904 : Int) < (amount : Int) := by omega
    have HWw := Lib.hid (fun W => dwithin_any 2 1 4 W)
    rw [show btw 2 1 4 = true by decide] at HWw
    clear h3 h4
    (refine wp_region_calm (by kernel_rfl) (by kernel_rfl) ?_; (repeat (first | go_big_quiet_skip | (go_big_quiet_want; apply calm_val; (focus (intro w' hb'; obtain ⟨q1, q4, q5, q6⟩ := HM2.out w' hb'; first | exact ded_quietO rfl rfl q1 | (unfold Oper.quietAt; go_simp; first | rfl | (go_at_call 132; exact calm_call hb' (same_below (HWe.out _))) | (go_at_call 135; exact calm_call hb' (HPd.out _))))); (try simp only [Act.put, List.setIfInBounds_toArray, List.set_cons_zero, List.set_cons_succ]); go_big_quiet_on))); refine wpQuiet_nil ?_; intro w' hb')
    have cc := fun i => row_cell (HM2.out w' hb').1 i
    go_wp2_with fail
    refine (HWw.out _).mono ?_
    rintro e w3 ⟨rfl, rfl⟩
    go_wp2_with fail
    go_ret
    exact ⟨by rw [HV.out]; rfl, Below.then HBw.out hb'⟩
  obtain ⟨y8, y9⟩ := HY6.out h2
  subst y8 y9
  have ef : decide (what = 2) = false := decide_eq_false h2
  have HPd : Hid (∀ W, Calls Try.prog 135 #[.agg (dedC ((⟨6, account, 0, 0, 0, 0, [], what, par, 0, false⟩ : Ded), a))] W fun e w' => e = .returned (.bool false) ∧ Below W.heap.size W w') := Lib.hid fun W => by
    have := HPaid.out W
    rwa [ef] at this
  clear HPaid ef
  have HWw := Lib.hid (fun W => dwithin_any what 1 4 W)
  by_cases h5 : 1 ≤ what ∧ what ≤ 4
  · rw [show btw what 1 4 = true from decide_eq_true h5] at HWw
    by_cases h6 : what = 1
    · subst h6
      have HV := Lib.hid (HRt.out (rightB par) ⟨fun h => h.2.2.2.2.2 rfl, fun h => ⟨HAc.out.1, HAc.out.2, by omega, by omega, fun h => by omega, fun _ => h⟩⟩)
      have hck : checkE par = if rightB par then 0 else 70 := rfl
      clear h2 h5
      (refine wp_region_calm (by kernel_rfl) (by kernel_rfl) ?_; (repeat (first | go_big_quiet_skip | (go_big_quiet_want; apply calm_val; (focus (intro w' hb'; obtain ⟨q1, q4, q5, q6⟩ := HM2.out w' hb'; first | exact ded_quietO rfl rfl q1 | (unfold Oper.quietAt; go_simp; first | rfl | (go_at_call 132; exact calm_call hb' (same_below (HWe.out _))) | (go_at_call 135; exact calm_call hb' (HPd.out _))))); (try simp only [Act.put, List.setIfInBounds_toArray, List.set_cons_zero, List.set_cons_succ]); go_big_quiet_on))); refine wpQuiet_nil ?_; intro w' hb')
      have cc := fun i => row_cell (HM2.out w' hb').1 i
      have rr := (HM2.out w' hb').1
      go_wp2_with fail
      refine (HWw.out _).mono ?_
      rintro e w3 ⟨rfl, rfl⟩
      go_wp2_with fail
      refine (HCk.out _).mono ?_
      rintro e w3 ⟨rfl, hb3⟩
      have HB3 := Lib.hid (Below.then (Below.then HBw.out hb') hb3)
      rw [hck]
      cases hr : rightB par
      · rw [hr] at HV
        go_wp2_with fail
        go_ret
        exact ⟨by rw [HV.out]; rfl, HB3.out⟩
      · rw [hr] at HV
        go_wp2_with fail
        go_ret
        exact ⟨by rw [HV.out]; rfl, HB3.out⟩
    · have HV := Lib.hid (HRt.out true ⟨fun _ => rfl, fun _ => ⟨HAc.out.1, HAc.out.2, h5.1, h5.2, fun h => absurd h h2, fun h => absurd h h6⟩⟩)
      have e1 : (what != 1) = true := bne_iff_ne.2 h6
      clear h2 h5 h6
      (refine wp_region_calm (by kernel_rfl) (by kernel_rfl) ?_; (repeat (first | go_big_quiet_skip | (go_big_quiet_want; apply calm_val; (focus (intro w' hb'; obtain ⟨q1, q4, q5, q6⟩ := HM2.out w' hb'; first | exact ded_quietO rfl rfl q1 | (unfold Oper.quietAt; go_simp; first | rfl | (go_at_call 132; exact calm_call hb' (same_below (HWe.out _))) | (go_at_call 135; exact calm_call hb' (HPd.out _))))); (try simp only [Act.put, List.setIfInBounds_toArray, List.set_cons_zero, List.set_cons_succ]); go_big_quiet_on))); refine wpQuiet_nil ?_; intro w' hb')
      have cc := fun i => row_cell (HM2.out w' hb').1 i
      go_wp2_with fail
      refine (HWw.out _).mono ?_
      rintro e w3 ⟨rfl, rfl⟩
      go_wp2_with fail
      go_ret
      exact ⟨by rw [HV.out]; rfl, Below.then HBw.out hb'⟩
  · rw [show btw what 1 4 = false from decide_eq_false h5] at HWw
    have HV := Lib.hid (HRt.out false ⟨fun h => absurd ⟨h.2.2.1, h.2.2.2.1⟩ h5, fun h => by cases h⟩)
    clear h2 h5
    (refine wp_region_calm (by kernel_rfl) (by kernel_rfl) ?_; (repeat (first | go_big_quiet_skip | (go_big_quiet_want; apply calm_val; (focus (intro w' hb'; obtain ⟨q1, q4, q5, q6⟩ := HM2.out w' hb'; first | exact ded_quietO rfl rfl q1 | (unfold Oper.quietAt; go_simp; first | rfl | (go_at_call 132; exact calm_call hb' (same_below (HWe.out _))) | (go_at_call 135; exact calm_call hb' (HPd.out _))))); (try simp only [Act.put, List.setIfInBounds_toArray, List.set_cons_zero, List.set_cons_succ]); go_big_quiet_on))); refine wpQuiet_nil ?_; intro w' hb')
    have cc := fun i => row_cell (HM2.out w' hb').1 i
    go_wp2_with fail
    refine (HWw.out _).mono ?_
    rintro e w3 ⟨rfl, rfl⟩
    go_wp2_with fail
    go_ret
    exact ⟨by rw [HV.out]; rfl, Below.then HBw.out hb'⟩
end Go.Proofs.Ytnakkjgnjffkpaa
