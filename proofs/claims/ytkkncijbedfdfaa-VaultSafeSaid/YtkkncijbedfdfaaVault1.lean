/-
  A vault in memory: its block, its slices, its plate.
-/
import Derived.Test.YtkkncijbedfdfaaVaultL
namespace Go.Proofs.Ytkkncijbedfdfaa
open Go.RowKit
set_option linter.unusedVariables false

/-- A record: where its bytes lie, and they. -/
structure Rec where
  a : Option Addr
  c : Nat
  bs : List Nat
def recK (r : Rec) : Array Value := #[.slice r.a r.bs.length r.c]
theorem recK_size (r : Rec) : (recK r).size = 1 := rfl
theorem recK_one (r : Rec) : allOne (recK r) = true := by unfold allOne recK; simp [Value.oneCell']
/-- Where a vault's slices lie. -/
structure VtA where
  a7 : Option Addr
  c7 : Nat
  a8 : Option Addr
  c8 : Nat
  a9 : Option Addr
  c9 : Nat
  rs : List Rec
def vtC (v : Vt) (g room : Nat) (br : Bool) (x : VtA) : Array Value := #[.int .u64 (v.hd.gen : Int), .int .i64 (v.hd.area : Int), .int .i64 (v.hd.snap : Int), .int .i64 (v.hd.log : Int), .int .i64 (v.hd.all : Int), .pointer (some ⟨g, 0, none⟩), .int .i64 (room : Int), .slice x.a7 v.snap.length x.c7, .slice x.a8 v.log.length x.c8, .slice x.a9 x.rs.length x.c9, .bool br]
def VS (gv : Nat) (x : VtA) : Nat → Prop := fun k => k = gv ∨ (Value.slice x.a9 x.rs.length x.c9).ownBlock = some k
/-- The blocks of a vault's bytes, which nobody writes. -/
def DB (v : Vt) (x : VtA) : Nat → Prop := fun k => (0 < v.snap.length ∧ ∃ a, x.a7 = some a ∧ a.block = k) ∨ (0 < v.log.length ∧ ∃ a, x.a8 = some a ∧ a.block = k) ∨ ∃ r ∈ x.rs, 0 < r.bs.length ∧ ∃ a, r.a = some a ∧ a.block = k
structure VtAt (W : World) (gv g room : Nat) (br : Bool) (v : Vt) (x : VtA) : Prop where
  row : row W gv = some (vtC v g room br x)
  snap : Bys W x.a7 v.snap
  log : Bys W x.a8 v.log
  own : OwnC 22 1 recK W 0 (.slice x.a9 x.rs.length x.c9) x.rs
  recs : ∀ r ∈ x.rs, Bys W r.a r.bs
  vals : x.rs.map (·.bs) = v.recs
  ne : (Value.slice x.a9 x.rs.length x.c9).ownBlock ≠ some gv
  db : ∀ k, DB v x k → ¬ VS gv x k
theorem VtAt.chg {W W' : World} {gv g room : Nat} {br : Bool} {v : Vt} {x : VtA} {S : Nat → Prop} (h : VtAt W gv g room br v x) (hc : Chg S W W') (hS : ∀ k, VS gv x k → ¬ S k) (hD : ∀ k, DB v x k → ¬ S k) : VtAt W' gv g room br v x :=
  ⟨(hc.row (row_lt h.row) (hS gv (.inl rfl))).trans h.row, h.snap.chg' hc (fun hp a ha => hD _ (.inl ⟨hp, a, ha, rfl⟩)), h.log.chg' hc (fun hp a ha => hD _ (.inr (.inl ⟨hp, a, ha, rfl⟩))), h.own.chg hc (fun k hk => hS k (.inr hk)), fun r hr => (h.recs r hr).chg' hc (fun hp a ha => hD _ (.inr (.inr ⟨r, hr, hp, a, ha, rfl⟩))), h.vals, h.ne, h.db⟩
theorem VtAt.stay {W W' : World} {gv g room : Nat} {br : Bool} {v : Vt} {x : VtA} (h : VtAt W gv g room br v x) (hb : Below W.heap.size W W') : VtAt W' gv g room br v x := h.chg (Chg.of_below (S := fun _ => False) hb (Nat.le_refl _)) (fun _ _ h => h) (fun _ _ h => h)
theorem VtAt.lt {W : World} {gv g room : Nat} {br : Bool} {v : Vt} {x : VtA} (h : VtAt W gv g room br v x) : ∀ k, VS gv x k ∨ DB v x k → k < W.heap.size := fun k hk => by
  rcases hk with (rfl | hk) | ⟨hp, a, ha, rfl⟩ | ⟨hp, a, ha, rfl⟩ | ⟨r, hr, hp, a, ha, rfl⟩
  · exact row_lt h.row
  · exact (h.own.lt k hk).2
  · exact h.snap.lt hp a ha
  · exact h.log.lt hp a ha
  · exact (h.recs r hr).lt hp a ha
/-- A vault, and its plate. -/
structure VaAt (W : World) (gv g gs : Nat) (pv : Value) (A : Option Addr) (c : Nat) (s : Ps) (room : Nat) (br : Bool) (v : Vt) (x : VtA) : Prop where
  vt : VtAt W gv g room br v x
  pl : PlAt W g gs pv A c s
  far : ∀ k, VS gv x k ∨ DB v x k → ¬ PS g gs pv A k
theorem VaAt.stay {W W' : World} {gv g gs : Nat} {pv : Value} {A : Option Addr} {c : Nat} {s : Ps} {room : Nat} {br : Bool} {v : Vt} {x : VtA} (h : VaAt W gv g gs pv A c s room br v x) (hb : Below W.heap.size W W') : VaAt W' gv g gs pv A c s room br v x := ⟨h.vt.stay hb, h.pl.stay hb, h.far⟩
/-- The vault and its plate behind a call: what they hold; what has turned lies in F, or is new. -/
def VaTo (w : World) (F : Nat → Prop) (gv g : Nat) (s : Ps) (room : Nat) (br : Bool) (v : Vt) (W : World) : Prop := ∃ gs pv A c x, VaAt W gv g gs pv A c s room br v x ∧ (∀ k, PS g gs pv A k ∨ VS gv x k → F k ∨ w.heap.size ≤ k) ∧ Chg F w W
end Go.Proofs.Ytkkncijbedfdfaa
