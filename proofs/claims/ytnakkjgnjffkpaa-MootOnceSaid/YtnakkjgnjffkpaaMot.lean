/-
  Motions: what they hold, how they lie in memory; clones of them and of bytes.
-/
import Derived.Test.YtnakkjgnjffkpaaOwnA
import Derived.Test.YtnakkjgnjffkpaaSt
import Derived.Test.YtnakkjgnjffkpaaPar
import Derived.Test.YtnakkjgnjffkpaaOpenPar
namespace Go.Proofs.Ytnakkjgnjffkpaa
open Go.RowKit
set_option linter.unusedVariables false

structure Mot where
  account : Int
  what : Int
  par : Par
  dest : Int
  amount : Nat
  ends : Int
  due : Int
  state : Int
  yes : List Nat
  no : List Nat
/-- Where a motion's votes lie. -/
structure MotA where
  a1 : Option Addr
  c1 : Nat
  a2 : Option Addr
  c2 : Nat
def motC (x : Mot × MotA) : Array Value := #[.int .i64 x.1.account, .int .i64 x.1.what, .int .u64 x.1.par.inc, .int .u64 x.1.par.maxEff, .int .u64 x.1.par.floor, .int .u64 x.1.par.cap, .int .u64 x.1.par.up, .int .u64 x.1.par.down, .int .u64 x.1.par.bias, .int .u64 x.1.par.quot, .int .u64 x.1.par.biasEm, .int .u64 x.1.par.quotEm, .int .u64 x.1.par.recover, .int .u64 x.1.par.scoreCap, .int .u64 x.1.par.rate, .int .u64 x.1.par.bond, .int .i64 x.1.par.delay, .int .i64 x.1.par.streak, .int .i64 x.1.par.boost, .int .i64 x.1.par.absent, .int .i64 x.1.par.burn, .int .i64 x.1.par.churn, .int .i64 x.1.par.wait, .int .i64 x.1.par.poll, .int .i64 x.1.par.enact, .int .i64 x.1.par.quorum, .int .i64 x.1.dest, .int .u64 ((x.1.amount : Nat) : Int), .int .i64 x.1.ends, .int .i64 x.1.due, .int .i64 x.1.state, .slice x.2.a1 x.1.yes.length x.2.c1, .slice x.2.a2 x.1.no.length x.2.c2]
theorem motC_size (x : Mot × MotA) : (motC x).size = 33 := rfl
theorem motC_one (x : Mot × MotA) : allOne (motC x) = true := by unfold allOne motC; simp [Value.oneCell']
theorem motC_room (x : Mot × MotA) : roomy 0 33 (motC x) = true := rfl
theorem motC_roomp (x : Mot × MotA) : roomy 2 24 (motC x) = true := rfl
theorem motC_ext (x : Mot × MotA) : (motC x).extract 0 33 = motC x := by kernel_rfl
theorem motC_par (x : Mot × MotA) : (motC x).extract 2 26 = x.1.par.cells := by kernel_rfl
theorem par_ext (p : Par) : p.cells.extract 0 24 = p.cells := by kernel_rfl
theorem par_room (p : Par) : roomy 0 24 p.cells = true := rfl
theorem motC_at0 (x : Mot × MotA) : (motC x)[0]? = some (.int .i64 x.1.account) := rfl
theorem motC_at1 (x : Mot × MotA) : (motC x)[1]? = some (.int .i64 x.1.what) := rfl
theorem motC_at26 (x : Mot × MotA) : (motC x)[26]? = some (.int .i64 x.1.dest) := rfl
theorem motC_at27 (x : Mot × MotA) : (motC x)[27]? = some (.int .u64 (x.1.amount : Int)) := rfl
theorem motC_at28 (x : Mot × MotA) : (motC x)[28]? = some (.int .i64 x.1.ends) := rfl
theorem motC_at29 (x : Mot × MotA) : (motC x)[29]? = some (.int .i64 x.1.due) := rfl
theorem motC_at30 (x : Mot × MotA) : (motC x)[30]? = some (.int .i64 x.1.state) := rfl
theorem motC_at31 (x : Mot × MotA) : (motC x)[31]? = some (.slice x.2.a1 x.1.yes.length x.2.c1) := rfl
theorem motC_at32 (x : Mot × MotA) : (motC x)[32]? = some (.slice x.2.a2 x.1.no.length x.2.c2) := rfl
attribute [go_sem] motC_size motC_one motC_room motC_roomp motC_ext motC_par par_ext par_room motC_at31 motC_at32 motC_at0 motC_at1 motC_at26 motC_at27 motC_at28 motC_at29 motC_at30
structure Mot.Ok (m : Mot) : Prop where
  account : i64ok m.account
  what : i64ok m.what
  dest : i64ok m.dest
  amount : m.amount < 18446744073709551616
  ends : i64ok m.ends
  due : i64ok m.due
  state : i64ok m.state
  par : m.par.Ok
  yes : bytesOk m.yes ∧ m.yes.length ≤ 9223372036854775807
  no : bytesOk m.no ∧ m.no.length ≤ 9223372036854775807
/-- A motion's votes lie where its slices say. -/
structure MotAt (W : World) (x : Mot × MotA) : Prop where
  yes : Bys W x.2.a1 x.1.yes
  no : Bys W x.2.a2 x.1.no
  n1 : x.2.a1 = none → x.2.c1 = 0
  n2 : x.2.a2 = none → x.2.c2 = 0
theorem MotAt.below {W W' : World} {B : Nat} {x : Mot × MotA} (h : MotAt W x) (hb : Below B W W') (hB : W.heap.size ≤ B) : MotAt W' x := ⟨h.yes.below hb hB, h.no.below hb hB, h.n1, h.n2⟩
theorem MotAt.stay {W W' : World} {x : Mot × MotA} (h : MotAt W x) (hb : Below W.heap.size W W') : MotAt W' x := h.below hb (Nat.le_refl _)
/-- The blocks of a motion's votes. -/
def MotB (x : Mot × MotA) (k : Nat) : Prop := (x.1.yes ≠ [] ∧ ∃ a, x.2.a1 = some a ∧ a.block = k) ∨ (x.1.no ≠ [] ∧ ∃ a, x.2.a2 = some a ∧ a.block = k)
theorem ne_of_pos {l : List Nat} (h : 0 < l.length) : l ≠ [] := fun e => by rw [e] at h; simp at h
theorem MotAt.chg {W W' : World} {x : Mot × MotA} {S : Nat → Prop} (h : MotAt W x) (hc : Chg S W W') (hS : ∀ k, MotB x k → ¬ S k) : MotAt W' x :=
  ⟨h.yes.chg' hc (fun hp a ha => hS _ (.inl ⟨ne_of_pos hp, a, ha, rfl⟩)), h.no.chg' hc (fun hp a ha => hS _ (.inr ⟨ne_of_pos hp, a, ha, rfl⟩)), h.n1, h.n2⟩
theorem MotAt.lt {W : World} {x : Mot × MotA} (h : MotAt W x) {k : Nat} (hk : MotB x k) : k < W.heap.size := by
  rcases hk with ⟨hn, a, ha, rfl⟩ | ⟨hn, a, ha, rfl⟩
  · exact h.yes.lt (List.length_pos_iff.2 hn) a ha
  · exact h.no.lt (List.length_pos_iff.2 hn) a ha
/-- A list of motions that can be read. -/
structure ML (W : World) (A : Option Addr) (xs : List (Mot × MotA)) : Prop where
  sl : SliceOf 33 motC W A xs
  at_ : ∀ x ∈ xs, MotAt W x
  ok : ∀ x ∈ xs, x.1.Ok
theorem ML.below {W W' : World} {B : Nat} {A : Option Addr} {xs : List (Mot × MotA)} (h : ML W A xs) (hb : Below B W W') (hB : W.heap.size ≤ B) : ML W' A xs := ⟨h.sl.below hb hB, fun x hx => (h.at_ x hx).below hb hB, h.ok⟩
theorem ML.stay {W W' : World} {A : Option Addr} {xs : List (Mot × MotA)} (h : ML W A xs) (hb : Below W.heap.size W W') : ML W' A xs := h.below hb (Nat.le_refl _)
theorem ML.nil (W : World) (A : Option Addr) : ML W A [] := ⟨SliceOf.nil _ _, fun _ h => (List.not_mem_nil h).elim, fun _ h => (List.not_mem_nil h).elim⟩
def Mot.zero : Mot := ⟨0, 0, ⟨0, 0, 0, 0, 0, 0, 0, 0, 0, 0, 0, 0, 0, 0, 0, 0, 0, 0, 0, 0, 0, 0, 0, 0⟩, 0, 0, 0, 0, 0, [], []⟩
def MotA.nil : MotA := ⟨none, 0, none, 0⟩
theorem mot_under : Try.prog.underlying 103 = some (.struct (Try.prog.fieldsOf 103)) := by kernel_rfl
theorem mot_info : (Try.prog.info? 103).map (·.size) = some 33 := by kernel_rfl
theorem mot_load {dst : Option Tmp} {x : Operand} {ty : TypeId} {pos : String} {after : Array Edge} {gd : Option (Nat × Bool)} {a : Act} {w : World} {K : Act → World → Prop} {Q : Exit → Act → World → Prop} (h1 : a.eval x = .pointer (some ⟨blk (a.eval x), ofs (a.eval x), none⟩)) (h2 : (row w (blk (a.eval x))).map (roomy (ofs (a.eval x)) 33) = some true) : Oper.wp Try.prog ⟨dst, .load 103 x, ty, pos, after, gd⟩ a w K Q = K (a.put dst (.agg (((row w (blk (a.eval x))).getD #[]).extract (ofs (a.eval x)) (ofs (a.eval x) + 33)))) w := wp_load_part _ 33 _ mot_under rfl mot_info h1 h2
theorem mot_store {dst : Option Tmp} {x : Operand} {ty : TypeId} {pos : String} {after : Array Edge} {gd : Option (Nat × Bool)} {y : Operand} {a : Act} {w : World} {K : Act → World → Prop} {Q : Exit → Act → World → Prop} (h1 : a.eval x = .pointer (some ⟨blk (a.eval x), 0, none⟩)) (h2 : (row w (blk (a.eval x))).map (·.size) = some 33) (h3 : a.eval y = .agg (aggOf (a.eval y))) (h4 : (aggOf (a.eval y)).size = 33) (h5 : allOne (aggOf (a.eval y)) = true) : Oper.wp Try.prog ⟨dst, .store 103 x y, ty, pos, after, gd⟩ a w K Q = K (a.put dst undef) (w.setRow (blk (a.eval x)) (aggOf (a.eval y))) := wp_store_agg _ 33 mot_info h1 h2 h3 h4 h5
theorem mot_run_load {ρ : Operand → Value} {dst : Option Tmp} {x : Operand} {ty : TypeId} {pos : String} {after : Array Edge} {gd : Option (Nat × Bool)} {w : World} (h1 : ρ x = .pointer (some ⟨blk (ρ x), ofs (ρ x), none⟩)) (h2 : (row w (blk (ρ x))).map (roomy (ofs (ρ x)) 33) = some true) : (execOp ρ ⟨dst, .load 103 x, ty, pos, after, gd⟩).run Try.prog w = .ok (.value (.agg (((row w (blk (ρ x))).getD #[]).extract (ofs (ρ x)) (ofs (ρ x) + 33)))) w := run_load_part _ 33 _ mot_under rfl mot_info h1 h2
theorem mot_quiet {C : World → Prop} {dst : Option Tmp} {x : Operand} {ty : TypeId} {pos : String} {after : Array Edge} {gd : Option (Nat × Bool)} {a : Act} {w : World} {g o : Nat} {cs : Array Value} (h1 : a.eval x = .pointer (some ⟨g, o, none⟩)) (h2 : row w g = some cs) (hs : roomy o 33 cs = true) : Oper.quietAt Try.prog ⟨dst, .load 103 x, ty, pos, after, gd⟩ a C w (.agg (cs.extract o (o + 33))) := quiet_load_part _ 33 _ mot_under rfl mot_info h1 h2 hs
attribute [go_sem ↓] mot_load mot_store mot_run_load
theorem rmot_under : Try.prog.underlying 107 = some (.struct (Try.prog.fieldsOf 107)) := by kernel_rfl
theorem rmot_info : (Try.prog.info? 107).map (·.size) = some 33 := by kernel_rfl
theorem rmot_load {dst : Option Tmp} {x : Operand} {ty : TypeId} {pos : String} {after : Array Edge} {gd : Option (Nat × Bool)} {a : Act} {w : World} {K : Act → World → Prop} {Q : Exit → Act → World → Prop} (h1 : a.eval x = .pointer (some ⟨blk (a.eval x), ofs (a.eval x), none⟩)) (h2 : (row w (blk (a.eval x))).map (roomy (ofs (a.eval x)) 33) = some true) : Oper.wp Try.prog ⟨dst, .load 107 x, ty, pos, after, gd⟩ a w K Q = K (a.put dst (.agg (((row w (blk (a.eval x))).getD #[]).extract (ofs (a.eval x)) (ofs (a.eval x) + 33)))) w := wp_load_part _ 33 _ rmot_under rfl rmot_info h1 h2
theorem rmot_store {dst : Option Tmp} {x : Operand} {ty : TypeId} {pos : String} {after : Array Edge} {gd : Option (Nat × Bool)} {y : Operand} {a : Act} {w : World} {K : Act → World → Prop} {Q : Exit → Act → World → Prop} (h1 : a.eval x = .pointer (some ⟨blk (a.eval x), 0, none⟩)) (h2 : (row w (blk (a.eval x))).map (·.size) = some 33) (h3 : a.eval y = .agg (aggOf (a.eval y))) (h4 : (aggOf (a.eval y)).size = 33) (h5 : allOne (aggOf (a.eval y)) = true) : Oper.wp Try.prog ⟨dst, .store 107 x y, ty, pos, after, gd⟩ a w K Q = K (a.put dst undef) (w.setRow (blk (a.eval x)) (aggOf (a.eval y))) := wp_store_agg _ 33 rmot_info h1 h2 h3 h4 h5
theorem rmot_run_load {ρ : Operand → Value} {dst : Option Tmp} {x : Operand} {ty : TypeId} {pos : String} {after : Array Edge} {gd : Option (Nat × Bool)} {w : World} (h1 : ρ x = .pointer (some ⟨blk (ρ x), ofs (ρ x), none⟩)) (h2 : (row w (blk (ρ x))).map (roomy (ofs (ρ x)) 33) = some true) : (execOp ρ ⟨dst, .load 107 x, ty, pos, after, gd⟩).run Try.prog w = .ok (.value (.agg (((row w (blk (ρ x))).getD #[]).extract (ofs (ρ x)) (ofs (ρ x) + 33)))) w := run_load_part _ 33 _ rmot_under rfl rmot_info h1 h2
theorem rmot_quiet {C : World → Prop} {dst : Option Tmp} {x : Operand} {ty : TypeId} {pos : String} {after : Array Edge} {gd : Option (Nat × Bool)} {a : Act} {w : World} {g o : Nat} {cs : Array Value} (h1 : a.eval x = .pointer (some ⟨g, o, none⟩)) (h2 : row w g = some cs) (hs : roomy o 33 cs = true) : Oper.quietAt Try.prog ⟨dst, .load 107 x, ty, pos, after, gd⟩ a C w (.agg (cs.extract o (o + 33))) := quiet_load_part _ 33 _ rmot_under rfl rmot_info h1 h2 hs
attribute [go_sem ↓] rmot_load rmot_store rmot_run_load
theorem mots_under' : Try.prog.underlying 77 = some (.slice 103) := by kernel_rfl
theorem mots_eql (w : World) (A : Option Addr) (n c : Nat) : (binOp .eql 77 (.slice A n c) (.slice none 0 0)).run Try.prog w = .ok (.bool A.isNone) w := Lib.run_eql_slice_nil w 77 103 A n c 0 0 mots_under'
attribute [go_sem ↓] mots_eql
def motZ : Value := .agg (motC (Mot.zero, MotA.nil))
theorem mot_info' : (Try.prog.info? 103).map (fun i => (i.zero, i.size, i.bytes)) = some (some motZ, 33, 296) := by kernel_rfl
theorem rmots_under' : Try.prog.underlying 85 = some (.slice 107) := by kernel_rfl
theorem rmot_info' : (Try.prog.info? 107).map (fun i => (i.zero, i.size, i.bytes)) = some (some (.agg (motC (Mot.zero, MotA.nil))), 33, 296) := by kernel_rfl
section
variable {α : Type} {T : TypeId} {C : Nat} {f : α → Array Value}
theorem OwnC.lit0 (w : World) (B : Nat) (hB : B ≤ w.heap.size) : OwnC T C f (w.alloc (.cells #[] T)) B (.slice (some ⟨w.heap.size, 0, none⟩) 0 0) ([] : List α) := by
  refine ⟨by simp, .inr ⟨w.heap.size, 0, #[], rfl, hB, ?_, Nat.le_refl _, Nat.zero_le _, by simp, by simp⟩⟩
  exact heap_at w _ _ rfl
/-- What slices.Clone leaves: a list of its own, none of none. -/
def ClonePost (T : TypeId) (C : Nat) (f : α → Array Value) (w : World) (A : Option Addr) (l : List α) (e : Ending) (w' : World) : Prop := ∃ A' c', e = .returned (.slice A' l.length c') ∧ OwnC T C f w' w.heap.size (.slice A' l.length c') l ∧ Below w.heap.size w w' ∧ (A' = none → c' = 0)
end
theorem OwnC.cap {α : Type} {T : TypeId} {C : Nat} {f : α → Array Value} {W : World} {B : Nat} {A : Option Addr} {n c : Nat} {l : List α} (h : OwnC T C f W B (.slice A n c) l) : A = none → c = 0 := fun hA => by
  subst hA
  rcases h.2 with ⟨hn, _⟩ | ⟨g, cap, cur, hv, _⟩
  · cases hn; rfl
  · cases hv
set_option maxHeartbeats 2000000 in
set_option maxRecDepth 100000 in
theorem clone_mots (A : Option Addr) (n c : Nat) (l : List (Mot × MotA)) (hn : l.length = n) (h0 : A = none → c = 0) (hm : n ≤ 1000000) (w : World) (hA : SliceOf 33 motC w A l) : Calls Try.prog 136 #[.slice A n c] w (ClonePost 103 33 motC w A l) := by
  cases A with
  | none =>
    have hn0 : n = 0 := by
      rcases Nat.eq_zero_or_pos l.length with h | h
      · omega
      · obtain ⟨_, _, e, _⟩ := hA h; cases e
    have hc0 := h0 rfl
    subst hn0; subst hc0
    have hl : l = [] := List.eq_nil_of_length_eq_zero hn
    subst hl
    have HP : Hid (∀ e w', e = .returned (.slice none 0 0) → w' = w → ClonePost 103 33 motC w none ([] : List (Mot × MotA)) e w') := Lib.hid fun e w' he hw => by subst he hw; exact ⟨none, 0, rfl, OwnC.nil _ _, Below.refl _ _, fun _ => rfl⟩
    clear hA h0 hm hn
    go_enter Try.func136, Try.ntmps136
    go_wp2_with fail
    go_ret
    exact HP.out _ _ rfl rfl
  | some x =>
    have HA := Lib.hid hA
    have HN := Lib.hid hn
    clear hA h0 hn
    have HO : Hid (OwnC 103 33 motC (w.alloc (.cells #[] 103)) w.heap.size (.slice (some ⟨w.heap.size, 0, none⟩) 0 0) ([] : List (Mot × MotA))) := Lib.hid (OwnC.lit0 w _ (Nat.le_refl _))
    go_enter Try.func136, Try.ntmps136
    go_wp2_with (at_builtin; refine wpList_append_a mots_under' mot_info' rfl (by decide) (by decide) motC_size motC_one rfl _ _ rfl w.heap.size _ _ l _ _ _ HO.out (HA.out.below (show Below w.heap.size w _ from (by (repeat (first | exact Below.refl _ _ | assumption | (refine Below.allocT ?_ _) | refine Below.drew ?_ | refine below_drewN ?_ _ | (refine Below.then ?_ (by assumption)) | (refine Below.setRow ?_ ?_ _; rotate_left; (focus (first | exact Nat.lt_succ_self _ | ((repeat rw [World.size_alloc]); omega) | (simp; done) | (simp; omega) | omega))) | (refine Below.setCell ?_ ?_ _; rotate_left; (focus (first | exact Nat.lt_succ_self _ | ((repeat rw [World.size_alloc]); omega) | (simp; done) | (simp; omega) | omega))) | (refine Below.then' ?_ (by assumption) ?_; rotate_left; (focus (first | exact Nat.lt_succ_self _ | ((repeat rw [World.size_alloc]); omega) | (simp; done) | (simp; omega) | omega))) | fail)); (first | done | fail))) (Nat.le_refl _)) rfl rfl HN.out (by rw [HN.out]; simp; omega) (by rw [World.size_alloc]; omega) ?_; intro v' w' hAp; have HAp := Lib.hid hAp; clear hAp)
    obtain ⟨A', c', rfl⟩ := HAp.out.form (k := l.length) (by simp)
    go_ret
    have h1 : OwnC 103 33 motC w' w.heap.size (.slice A' l.length c') l := by simpa using HAp.out.1
    refine ⟨A', c', rfl, h1, ?_, h1.cap⟩
    have hb : Below w.heap.size w (w.alloc (.cells #[] 103)) := (by (repeat (first | exact Below.refl _ _ | assumption | (refine Below.allocT ?_ _) | refine Below.drew ?_ | refine below_drewN ?_ _ | (refine Below.then ?_ (by assumption)) | (refine Below.setRow ?_ ?_ _; rotate_left; (focus (first | exact Nat.lt_succ_self _ | ((repeat rw [World.size_alloc]); omega) | (simp; done) | (simp; omega) | omega))) | (refine Below.setCell ?_ ?_ _; rotate_left; (focus (first | exact Nat.lt_succ_self _ | ((repeat rw [World.size_alloc]); omega) | (simp; done) | (simp; omega) | omega))) | (refine Below.then' ?_ (by assumption) ?_; rotate_left; (focus (first | exact Nat.lt_succ_self _ | ((repeat rw [World.size_alloc]); omega) | (simp; done) | (simp; omega) | omega))) | fail)); (first | done | fail))
    exact hb.grown HAp.out.2.1 (by rw [World.size_alloc]; omega) (fun k hk => by cases hk; exact Nat.le_refl _)
theorem u8s_eql (w : World) (A : Option Addr) (n c : Nat) : (binOp .eql 64 (.slice A n c) (.slice none 0 0)).run Try.prog w = .ok (.bool A.isNone) w := Lib.run_eql_slice_nil w 64 5 A n c 0 0 u8s_under
attribute [go_sem ↓] u8s_eql
theorem OwnB.nilcap {W : World} {A : Option Addr} {n c : Nat} {l : List Nat} (h : OwnB W (.slice A n c) l) : A = none → c = 0 := fun hA => by
  subst hA
  rcases h.2 with ⟨h, _⟩ | ⟨g, cap, cur, h, _⟩
  · cases h; rfl
  · cases h
/-- What slices.Clone of bytes leaves: bytes of its own, none of none. -/
def CloneB (w : World) (l : List Nat) (e : Ending) (w' : World) : Prop := ∃ A' c', e = .returned (.slice A' l.length c') ∧ OwnB w' (.slice A' l.length c') l ∧ (∀ a, A' = some a → w.heap.size ≤ a.block) ∧ Below w.heap.size w w'
set_option maxHeartbeats 2000000 in
set_option maxRecDepth 100000 in
theorem clone_bytes (A : Option Addr) (n c : Nat) (l : List Nat) (hn : l.length = n) (h0 : A = none → c = 0) (hm : n ≤ 1000000) (w : World) (hA : Bys w A l) : Calls Try.prog 87 #[.slice A n c] w (CloneB w l) := by
  cases A with
  | none =>
    have hn0 : n = 0 := by
      rcases Nat.eq_zero_or_pos l.length with h | h
      · omega
      · obtain ⟨_, _, e, _⟩ := hA h; cases e
    have hc0 := h0 rfl
    subst hn0; subst hc0
    have hl : l = [] := List.eq_nil_of_length_eq_zero hn
    subst hl
    have HP : Hid (∀ e w', e = .returned (.slice none 0 0) → w' = w → CloneB w ([] : List Nat) e w') := Lib.hid fun e w' he hw => by subst he hw; exact ⟨none, 0, rfl, OwnB.nil _, (fun a e => by cases e), Below.refl _ _⟩
    clear hA h0 hm hn
    go_enter Try.func87, Try.ntmps87
    go_wp2_with fail
    go_ret
    exact HP.out _ _ rfl rfl
  | some x =>
    have HA := Lib.hid hA
    have HN := Lib.hid hn
    clear hA h0 hn
    have HO : Hid (OwnB (w.alloc (.cells #[] 5)) (.slice (some ⟨w.heap.size, 0, none⟩) 0 0) ([] : List Nat)) := Lib.hid (OwnB.lit w [] #[] (by simp) rfl)
    go_enter Try.func87, Try.ntmps87
    go_wp2_with (at_builtin; refine wpList_appb rfl _ _ rfl _ [] l _ _ _ HO.out (HA.out.below (show Below w.heap.size w _ from (by (repeat (first | exact Below.refl _ _ | assumption | (refine Below.allocT ?_ _) | refine Below.drew ?_ | refine below_drewN ?_ _ | (refine Below.then ?_ (by assumption)) | (refine Below.setRow ?_ ?_ _; rotate_left; (focus (first | exact Nat.lt_succ_self _ | ((repeat rw [World.size_alloc]); omega) | (simp; done) | (simp; omega) | omega))) | (refine Below.setCell ?_ ?_ _; rotate_left; (focus (first | exact Nat.lt_succ_self _ | ((repeat rw [World.size_alloc]); omega) | (simp; done) | (simp; omega) | omega))) | (refine Below.then' ?_ (by assumption) ?_; rotate_left; (focus (first | exact Nat.lt_succ_self _ | ((repeat rw [World.size_alloc]); omega) | (simp; done) | (simp; omega) | omega))) | fail)); (first | done | fail))) (Nat.le_refl _)) rfl rfl HN.out (by rw [HN.out]; simp; omega) ?_; intro v' w' hAp; have HAp := Lib.hid hAp; clear hAp)
    obtain ⟨A', c', he⟩ := HAp.out.form
    have hz : ([] : List Nat).length + l.length = l.length := by simp
    rw [hz] at he
    subst he
    go_ret
    have h1 := HAp.out.1
    have h3 := HAp.out.2.2
    rw [List.nil_append] at h1
    have hb : Below w.heap.size w (w.alloc (.cells #[] 5)) := (by (repeat (first | exact Below.refl _ _ | assumption | (refine Below.allocT ?_ _) | refine Below.drew ?_ | refine below_drewN ?_ _ | (refine Below.then ?_ (by assumption)) | (refine Below.setRow ?_ ?_ _; rotate_left; (focus (first | exact Nat.lt_succ_self _ | ((repeat rw [World.size_alloc]); omega) | (simp; done) | (simp; omega) | omega))) | (refine Below.setCell ?_ ?_ _; rotate_left; (focus (first | exact Nat.lt_succ_self _ | ((repeat rw [World.size_alloc]); omega) | (simp; done) | (simp; omega) | omega))) | (refine Below.then' ?_ (by assumption) ?_; rotate_left; (focus (first | exact Nat.lt_succ_self _ | ((repeat rw [World.size_alloc]); omega) | (simp; done) | (simp; omega) | omega))) | fail)); (first | done | fail))
    refine ⟨A', c', rfl, h1, fun a ha => ?_, hb.grown HAp.out.2.1 (by rw [World.size_alloc]; omega) (fun k hk => by cases hk; exact Nat.le_refl _)⟩
    subst ha
    rcases h3 with h | h
    · simp only [Value.ownBlock, Option.some.injEq] at h
      omega
    · simp only [Value.ownBlock, Option.some.injEq, World.size_alloc] at h
      omega
end Go.Proofs.Ytnakkjgnjffkpaa
