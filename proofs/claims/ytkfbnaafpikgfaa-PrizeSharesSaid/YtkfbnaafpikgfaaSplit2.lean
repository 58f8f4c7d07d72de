/-
  What share.Split answers.
-/
import Derived.Test.YtkfbnaafpikgfaaSplit
import Derived.Deep.MidRow
import Derived.RegionTactic
namespace Go.Proofs.Ytkfbnaafpikgfaa
open Go.RowKit Go.Shelf
set_option linter.unusedVariables false
attribute [local go_sem] Oper.semAt_some

def partsOf (t wh : Nat) (xs : List Nat) : List Nat := xs.map fun x => (partU t wh x).1
/-- What is left behind parts, as the machine reckons. -/
def restM (M t : Nat) (l : List (Nat × U64n)) : Nat := l.foldl (fun r x => (r + M - x.2.1) % M) t
theorem restM_snoc (M t : Nat) (l : List (Nat × U64n)) (x : Nat × U64n) : restM M t (l ++ [x]) = (restM M t l + M - x.2.1) % M := by unfold restM; rw [List.foldl_append]; rfl
def restF (t : Nat) (l : List (Nat × U64n)) : Nat := restM 18446744073709551616 t l
theorem restF_snoc (t : Nat) (l : List (Nat × U64n)) (x : Nat × U64n) : restF t (l ++ [x]) = (restF t l + 18446744073709551616 - x.2.1) % 18446744073709551616 := restM_snoc _ t l x
theorem restF_nil (t : Nat) : restF t [] = t := rfl
theorem fold_lt {α : Type} (M : Nat) (g : Nat → α → Nat) (hg : ∀ r x, g r x < M) {t : Nat} (ht : t < M) (l : List α) : l.foldl g t < M := by
  induction l generalizing t with
  | nil => exact ht
  | cons x r ih => exact ih (hg t x)
theorem restF_lt {t : Nat} (ht : t < 18446744073709551616) (l : List (Nat × U64n)) : restF t l < 18446744073709551616 :=
  fold_lt 18446744073709551616 _ (fun r x => Nat.mod_lt _ (Nat.zero_lt_succ _)) ht l
theorem ownFrom_size {β : Type} (B m : Nat) : OwnFrom B (fun (_ : β) W => m ≤ W.heap.size) := fun _ _ _ _ hs hg _ => Nat.le_trans hs hg.size
theorem own_ne {W : World} {base e k B : Nat} {v : Value} {xs : List Value} (h : W.ownsRow base e 1 v k xs) (hB : B < base) : some B ≠ v.ownBlock := fun e => by
  have := (h.lt B e.symm).1
  omega
theorem own_cells {W : World} {base e k : Nat} {v : Value} {xs : List Value} (h : W.ownsRow base e 1 v k xs) (j : Nat) (o : Obj) (ej : v.ownBlock = some j) (hj : W.heap[j]? = some o) : o.isCells = true := by
  rcases h.2 with ⟨rfl, _⟩ | ⟨g, cap, cur, rfl, _, hgb, _⟩
  · simp [Value.ownBlock] at ej
  · obtain rfl : g = j := by simpa [Value.ownBlock] using ej
    rw [hgb] at hj; cases hj; rfl
theorem ownsRow_base {W : World} {b b' e k : Nat} {v : Value} {xs : List Value} (h : W.ownsRow b e 1 v k xs) (hb : b' ≤ b) : W.ownsRow b' e 1 v k xs := by
  refine ⟨h.1, ?_⟩
  rcases h.2 with h | ⟨g, cap, cur, h1, h2, h3⟩
  · exact .inl h
  · exact .inr ⟨g, cap, cur, h1, Nat.le_trans hb h2, h3⟩
theorem run_load1 {P : Program} {w : World} {a : Addr} {ty : TypeId} {d : TypeDesc} {v : Value} (hu : P.underlying ty = some d) (hd : d.isRow = false) (hc : w.cell? a = some v) : (loadVar ty a).run P w = .ok v w := by
  have hagg : (isAgg ty).run P w = .ok false w := by
    unfold isAgg
    rw [Sem.run_bind, run_underlying hu w]
    cases d <;> simp_all
  simp [loadVar, hagg, go_sem, hc]
theorem results_two_cells {P : Program} {fn : Func} {p q r : Tmp} {t1 t2 : TypeId} (h : fn.results = #[.cell p t1, .cell q t2, .tmp r]) (tmps : Array Value) (w : World) (a b : Addr) (v u : Value)
    (hp : tmps.getD p undef = .pointer (some a)) (hq : tmps.getD q undef = .pointer (some b)) (h1 : (loadVar t1 a).run P w = .ok v w) (h2 : (loadVar t2 b).run P w = .ok u w) :
    (results fn tmps).run P w = .ok (.tuple #[v, u, tmps.getD r undef]) w := by
  have hp' : tmps[p]?.getD undef = .pointer (some a) := by simpa using hp
  have hq' : tmps[q]?.getD undef = .pointer (some b) := by simpa using hq
  simp [results, h, hp', hq', asAddr, h1, h2]
theorem info64 : (Try.prog.info? 22).map (fun i => (i.zero, i.size, i.bytes)) = some (some (.int .u64 0), 1, 8) := by kernel_rfl
set_option maxRecDepth 100000 in
set_option maxHeartbeats 4000000 in
theorem split_in (t n c wh : Nat) (A : Option Addr) (xs : List Nat) (ht : t < 18446744073709551616) (hwh : wh < 18446744073709551616) (hx : ∀ i, xs.getD i 0 < 18446744073709551616) (hn : xs.length = n) (hreach : n ≤ 256) (hw : wholeT xs = wh) (he : wholeE xs = 0) (w : World) (hU : U64s w A xs) (hA : 0 < n → ∀ x, A = some x → x.block < w.heap.size) :
    CallsIn Fence.wide 4 Try.prog 55 #[.int .u64 t, .slice A n c] w fun e W' => ∃ v, e = .returned (.tuple #[v, .int .u64 ((restF t (uptoP (partAt t wh xs) n) : Nat) : Int), .int .i64 0]) ∧
      W'.ownsRow w.heap.size 22 1 v n ((uptoP (partAt t wh xs) n).map fun x => Value.int .u64 (x.2.1 : Int)) ∧ (v = .slice none 0 0 ↔ n = 0) ∧ Below w.heap.size w W' := by
  obtain ⟨i0, hi, hz0, hz1, hz2⟩ := info_parts info64
  have HW := Lib.hid (fun W h => swhole_any A xs n c hn hx (by omega) W h)
  rw [hw, he] at HW
  have HU := Lib.hid hU
  clear hw he hU
  refine callsIn_of_wp_marks Try.func55 rfl trivial ?_ rfl
  simp only [Try.ntmps55, List.size_toArray, List.length_cons, List.length_nil, Nat.reduceAdd, Nat.reduceSub, Array.replicate_succ, Array.replicate_zero, List.push_toArray, List.append_toArray, List.nil_append, List.cons_append]
  gi_wp2
  refine ⟨trivial, (callsIn_wide.2 (HW.out _ ((HU.out.below ((Below.refl _ w).alloc (Nat.le_refl _) _) (Nat.le_refl _)).below ((Below.refl _ _).alloc (Nat.le_refl _) _) (Nat.le_refl _)))).mono ?_⟩
  rintro e w1 ⟨rfl, rfl⟩
  gi_wp2
  refine ⟨trivial, (parts_in t wh A n c _).mono ?_⟩
  rintro e w1 ⟨rfl, rfl⟩
  gi_wp2
  have bO := Boxed.new w 43 (.slice none 0 0)
  have bR := Boxed.new (w.alloc (.cells #[.slice none 0 0] 43)) 22 (.int .u64 t)
  rw [World.size_alloc] at bR
  obtain ⟨W0, hW0⟩ : ∃ W0, W0 = ((((w.alloc (.cells #[.slice none 0 0] 43)).alloc (.cells #[.int .u64 t] 22)).alloc (.cells #[.int .u64 t] 22)).alloc (.cells #[.int .u64 wh] 22)).alloc (.cells #[.slice A n c] 43) := ⟨_, rfl⟩
  have hB0 : Below w.heap.size w W0 := by rw [hW0]; exact (by (repeat (first | exact Below.refl _ _ | assumption | (refine Below.allocT ?_ _) | refine Below.drew ?_ | refine below_drewN ?_ _ | (refine Below.then ?_ (by assumption)) | (refine Below.setRow ?_ ?_ _; rotate_left; (focus (first | exact Nat.lt_succ_self _ | ((repeat rw [World.size_alloc]); omega) | (simp; done) | (simp; omega) | omega))) | (refine Below.setCell ?_ ?_ _; rotate_left; (focus (first | exact Nat.lt_succ_self _ | ((repeat rw [World.size_alloc]); omega) | (simp; done) | (simp; omega) | omega))) | (refine Below.then' ?_ (by assumption) ?_; rotate_left; (focus (first | exact Nat.lt_succ_self _ | ((repeat rw [World.size_alloc]); omega) | (simp; done) | (simp; omega) | omega))) | fail)); (first | done | fail))
  have hsz : W0.heap.size = w.heap.size + 5 := by rw [hW0]; simp
  have bO0 : Boxed W0 w.heap.size 43 (.slice none 0 0) := by rw [hW0]; exact (((bO.alloc _).alloc _).alloc _).alloc _
  have bR0 : Boxed W0 (w.heap.size + 1) 22 (.int .u64 t) := by rw [hW0]; exact ((bR.alloc _).alloc _).alloc _
  have k1 : W0.cell? ⟨w.heap.size + 1 + 1 + 2, 0, none⟩ = some (.slice A n c) := by rw [hW0]; exact row_cell (cs := #[.slice A n c]) (row_at _ _ _ _ (by simp)) 0
  have k2 : W0.cell? ⟨w.heap.size + 1 + 1 + 1, 0, none⟩ = some (.int .u64 (wh : Int)) := by rw [hW0]; exact row_cell (cs := #[.int .u64 (wh : Int)]) ((row_past _ _ _ (by simp)).trans (row_at _ _ _ _ (by simp))) 0
  have k3 : W0.cell? ⟨w.heap.size + 1 + 1, 0, none⟩ = some (.int .u64 (t : Int)) := by rw [hW0]; exact row_cell (cs := #[.int .u64 (t : Int)]) ((row_past _ _ _ (by simp)).trans ((row_past _ _ _ (by simp)).trans (row_at _ _ _ _ (by simp)))) 0
  have hU0 : U64s W0 A xs := HU.out.below hB0 (Nat.le_refl _)
  rw [← hW0]
  clear hW0 bO bR HU HW
  refine wpIn_rangeFunc_ownG rfl (by omega) (gf := 102) (lb := #[.pointer (some ⟨w.heap.size + 1 + 1 + 2, 0, none⟩), .pointer (some ⟨w.heap.size + 1 + 1 + 1, 0, none⟩), .pointer (some ⟨w.heap.size + 1 + 1, 0, none⟩)]) rfl trivial (enters_of Try.func102 (by kernel_rfl) rfl)
    (parts_stops (w.heap.size + 1 + 1 + 2) (w.heap.size + 1 + 1 + 1) (w.heap.size + 1 + 1) w.heap.size t wh n c A xs ht hwh hx hn hreach W0 (by omega) (by omega) (by omega) (by omega) k1 k2 k3 hU0 hA) kpP_t (kpP_b (by omega) (by omega) (by omega)) (Below.refl _ _) (fun _ => rfl)
    (fun pre W => ((∃ v, Boxed W w.heap.size 43 v ∧ W.ownsRow W0.heap.size 22 1 v pre.length (pre.map fun x => Value.int .u64 (x.2.1 : Int)) ∧ (v = .slice none 0 0 ↔ pre = [])) ∧ Boxed W (w.heap.size + 1) 22 (.int .u64 ((restF t pre : Nat) : Int))) ∧ (Below w.heap.size w W ∧ W0.heap.size ≤ W.heap.size))
    (fun _ _ _ => False)
    ?hI
    (fun _ _ _ _ _ hs _ _ => hs)
    ⟨⟨⟨_, bO0, World.ownsRow_nil _ _ _ _, by simp⟩, bR0⟩, hB0, Nat.le_refl _⟩
    (fun x => { tmps := #[.int .u64 t, .slice A n c, undef, undef, .pointer (some ⟨w.heap.size, 0, none⟩), .pointer (some ⟨w.heap.size + 1, 0, none⟩), .int .i64 0, .int .u64 wh, undef, .int .u64 (x.2.1 : Int), .tuple #[.int .u64 wh, .int .i64 0], .slice A n c, .tuple #[.int .u64 wh, .int .i64 0], .int .u64 wh, .int .i64 0, .int .i64 0, .bool false, undef, .int .u64 t, .int .u64 t, .int .u64 wh, .slice A n c, .func (.func 102) #[] #[.pointer (some ⟨w.heap.size + 1 + 1 + 2, 0, none⟩), .pointer (some ⟨w.heap.size + 1 + 1 + 1, 0, none⟩), .pointer (some ⟨w.heap.size + 1 + 1, 0, none⟩)], .int .i64 (x.1 : Int), .int .u64 (x.2.1 : Int), undef, undef, undef, undef, undef, undef, undef, undef, undef], defers := [] }) ?assign ?body ?done ?stop
  case hI => exact OwnFrom.and (OwnFrom.and (Own.from (holdsRow_own W0.heap.size w.heap.size 43 22 1 (fun pre : List (Nat × U64n) => pre.length) (fun pre => pre.map fun x => Value.int .u64 (x.2.1 : Int)) (fun pre v => v = .slice none 0 0 ↔ pre = [])) _) (Own.from (boxed_own _ _ _) _)) (OwnFrom.and (ownFrom_below (Nat.le_refl _) (by omega)) (ownFrom_size _ _))
  case assign =>
    intro l x W K hK
    gi_wp2
    exact hK
  case body =>
    rintro l pre x W ⟨⟨⟨v, hv, hrow, hnil⟩, hr⟩, hB, hS⟩ hlt
    have hc := hv.cell
    have hpl : pre.length + 1 ≤ 256 := by omega
    have E1 : IntKind.u64.wrap (((restF t pre : Nat) : Int) - (x.2.1 : Int)) = ((restF t (pre ++ [x]) : Nat) : Int) := by
      have h2 := x.2.2
      rw [restF_snoc, IntKind.wrap_u64]
      omega
    gi_wp2_with (gi_at_builtin; refine wpListIn_append_own _ rfl _ _ 43 rfl W0.heap.size 22 i0 (.int .u64 0) 1 8 Try.underlying43 hi hz0 hz1 hz2 rfl (by decide) _ _ _ rfl (hrow.alloc _) ⟨W.heap.size, 0, none⟩ 1 1 [.int .u64 (x.2.1 : Int)] rfl rfl (cell_one_new _ _ _) (by simp [Value.oneCell']) (by unfold maxLen; omega) (by omega) (by simp; omega) ?_; intro v' w1 hown' hgrow _; obtain ⟨g', cap', rfl⟩ := ownsRow_succ hown'; have hv1 := (hv.alloc _).kept hgrow (own_ne hrow (by omega)); have hr1 := (hr.alloc _).kept hgrow (own_ne hrow (by omega)); have hc1 := hv1.cell; have hf1 := hv1.frozen; have hr2 := hr1.other (B' := w.heap.size) (by omega) (.slice (some ⟨g', 0, none⟩) (pre.length + 1) cap'); have hc2 := hr2.cell; have hf2 := hr2.frozen)
    have hWs := hB.size
    have hrw := (hown'.kept (grownBy_setCell' w1 w.heap.size (.slice (some ⟨g', 0, none⟩) (pre.length + 1) cap')) (.inr (own_ne hown' (by omega)).symm)).kept (grownBy_setCell' _ (w.heap.size + 1) (.int .u64 ((restF t (pre ++ [x]) : Nat) : Int))) (.inr (own_ne hown' (by omega)).symm)
    have hbl := ((((Below.refl w.heap.size W).alloc hWs (.cells #[.int .u64 (x.2.1 : Int)] 22)).grown hgrow (by simp; omega) (fun j ej => by have := (hrow.lt j ej).1; omega)).setCell (p := ⟨w.heap.size, 0, none⟩) (Nat.le_refl _) (.slice (some ⟨g', 0, none⟩) (pre.length + 1) cap')).setCell (p := ⟨w.heap.size + 1, 0, none⟩) (by show w.heap.size ≤ w.heap.size + 1; omega) (.int .u64 ((restF t (pre ++ [x]) : Nat) : Int))
    have heq : ∀ B, w.heap.size + 2 ≤ B → B < W0.heap.size → ((w1.setCell ⟨w.heap.size, 0, none⟩ (.slice (some ⟨g', 0, none⟩) (pre.length + 1) cap')).setCell ⟨w.heap.size + 1, 0, none⟩ (.int .u64 ((restF t (pre ++ [x]) : Nat) : Int))).heap[B]? = W.heap[B]? := fun B h1 h2 =>
      (Below.heap_setCell _ _ _ _ (by show B ≠ w.heap.size + 1; omega)).trans ((Below.heap_setCell _ _ _ _ (by show B ≠ w.heap.size; omega)).trans ((hgrow.block B (by simp; omega) (own_ne hrow h2)).trans (heap_past W _ B (by omega))))
    refine ⟨((((KeepsOthers.alloc W _).trans (KeepsOthers.of_grownBy hgrow (own_cells (hrow.alloc _)))).trans (KeepsOthers.setCell _ _ _)).trans (KeepsOthers.setCell _ _ _)).from _, ⟨hbl, World.cell?_of_block (a := ⟨w.heap.size + 1 + 1 + 1, 0, none⟩) (heq (w.heap.size + 1 + 1 + 1) (by omega) (by omega)), World.cell?_of_block (a := ⟨w.heap.size + 1 + 1, 0, none⟩) (heq (w.heap.size + 1 + 1) (by omega) (by omega))⟩, ⟨⟨_, (hv1.set _).other (by omega) _, ?_, by simp⟩, hr2.set _⟩, hB.trans hbl, Nat.le_trans hS hbl.size⟩
    simpa using hrw
  case done =>
    rintro D ys W hD rfl ⟨⟨⟨v, hv, hrow, hnil⟩, hr⟩, hB⟩ hK
    rw [uptoP_length] at hrow
    have hform : v = .slice none 0 0 ∨ ∃ g cap, v = .slice (some ⟨g, 0, none⟩) n cap := by
      rcases hrow.2 with ⟨h, _⟩ | ⟨g, cap, _, h, _⟩
      · exact .inl h
      · exact .inr ⟨g, cap, h⟩
    generalize hrr : restF t (uptoP (partAt t wh xs) n) = rr at *
    have HR := Lib.hid hrr
    clear hrr
    have hr2 := hr.other (B' := w.heap.size) (by omega) v
    have hw1 : W.drew.cell? ⟨w.heap.size, 0, none⟩ = _ := hv.cell
    have hw2 : W.drew.cell? ⟨w.heap.size + 1, 0, none⟩ = _ := hr.cell
    have hw3 : W.drew.frozen? ⟨w.heap.size, 0, none⟩ = _ := hv.frozen
    have hw4 : W.drew.frozen? ⟨w.heap.size + 1, 0, none⟩ = _ := hr.frozen
    have hw5 : (W.setCell ⟨w.heap.size, 0, none⟩ v).drew.cell? ⟨w.heap.size + 1, 0, none⟩ = _ := hr2.cell
    have hw6 : (W.setCell ⟨w.heap.size, 0, none⟩ v).drew.frozen? ⟨w.heap.size + 1, 0, none⟩ = _ := hr2.frozen
    have HK : Hid (((W.setCell ⟨w.heap.size, 0, none⟩ v).setCell ⟨w.heap.size + 1, 0, none⟩ (.int .u64 ((rr : Nat) : Int))).drew.heap[D]? = some (.deferred (some [])) ∧ w.heap.size + 2 ≤ D) := Lib.hid ⟨(KeepsOthers.setCell _ _ _).same D _ ((KeepsOthers.setCell _ _ _).same D _ hK rfl) rfl, by omega⟩
    have hv2 := (hv.set v).other (B' := w.heap.size + 1) (by omega) (.int .u64 ((rr : Nat) : Int))
    have hr3 := hr2.set (.int .u64 ((rr : Nat) : Int))
    have hrow2 := (hrow.kept (grownBy_setCell' W w.heap.size v) (.inr (own_ne hrow (by omega)).symm)).kept (grownBy_setCell' _ (w.heap.size + 1) (.int .u64 ((rr : Nat) : Int))) (.inr (own_ne hrow (by omega)).symm)
    have HV : Hid (Boxed ((W.setCell ⟨w.heap.size, 0, none⟩ v).setCell ⟨w.heap.size + 1, 0, none⟩ (.int .u64 ((rr : Nat) : Int))).drew w.heap.size 43 v ∧ Boxed ((W.setCell ⟨w.heap.size, 0, none⟩ v).setCell ⟨w.heap.size + 1, 0, none⟩ (.int .u64 ((rr : Nat) : Int))).drew (w.heap.size + 1) 22 (.int .u64 ((rr : Nat) : Int)) ∧ ((W.setCell ⟨w.heap.size, 0, none⟩ v).setCell ⟨w.heap.size + 1, 0, none⟩ (.int .u64 ((rr : Nat) : Int))).drew.ownsRow W0.heap.size 22 1 v n ((uptoP (partAt t wh xs) n).map fun x => Value.int .u64 (x.2.1 : Int)) ∧ Below w.heap.size w ((W.setCell ⟨w.heap.size, 0, none⟩ v).setCell ⟨w.heap.size + 1, 0, none⟩ (.int .u64 ((rr : Nat) : Int))).drew) := Lib.hid ⟨hv2, hr3, hrow2, ((hB.1.setCell (p := ⟨w.heap.size, 0, none⟩) (Nat.le_refl _) v).setCell (p := ⟨w.heap.size + 1, 0, none⟩) (by show w.heap.size ≤ w.heap.size + 1; omega) _).drew⟩
    have HN := Lib.hid hnil
    have HG := Lib.hid (grownBy_putObj' (((W.setCell ⟨w.heap.size, 0, none⟩ v).setCell ⟨w.heap.size + 1, 0, none⟩ (.int .u64 ((rr : Nat) : Int))).drew) D (.deferred none))
    clear hi hz0 hz1 hz2 hx hU0 k1 k2 k3 bO0 bR0 hA hv hr hr2 hv2 hr3 hrow hrow2 hK hB hnil
    rcases hform with rfl | ⟨g, cap, rfl⟩
    all_goals
      gi_wp2
      refine wpIn_wide.2 ?_
      go_region
      gi_wp2
      obtain ⟨hv3, hr3, hrow3, hB3⟩ := HV.out
      have hD := HK.out.1
      have hg := HG.out
      refine ⟨by simp, .inl ⟨_, _, rfl, run_takeDeferred hD, ?_⟩⟩
      refine ⟨_, results_two_cells rfl _ _ ⟨w.heap.size, 0, none⟩ ⟨w.heap.size + 1, 0, none⟩ _ _ rfl rfl (run_load1 Try.underlying43 rfl (Boxed.kept hv3 hg (fun e => by have := HK.out.2; cases e; omega)).cell) (run_load1 Try.underlying22 rfl (Boxed.kept hr3 hg (fun e => by have := HK.out.2; cases e; omega)).cell), _, by rw [HR.out]; rfl, ?_, ?_, ?_⟩
      · have h := ownsRow_putObj hrow3 (.deferred none) hD rfl
        exact ownsRow_base h (by omega)
      · have hE : uptoP (partAt t wh xs) n = [] ↔ n = 0 := by rw [← List.length_eq_zero_iff, uptoP_length]
        first
          | exact HN.out.trans hE
          | exact (Iff.intro (fun _ => trivial) (fun _ => rfl)).trans (HN.out.trans hE)
          | fail
      · exact hB3.trans (belowK_b (w := w) (Nat.le_refl _) _ D _ _ (by have := HK.out.2; omega) hD rfl rfl)
  case stop =>
    rintro D c pre W _ _ h _
    exact h.elim
theorem split_any (t n c wh : Nat) (A : Option Addr) (xs : List Nat) (ht : t < 18446744073709551616) (hwh : wh < 18446744073709551616) (hx : ∀ i, xs.getD i 0 < 18446744073709551616) (hn : xs.length = n) (hreach : n ≤ 256) (hw : wholeT xs = wh) (he : wholeE xs = 0) (w : World) (hU : U64s w A xs) (hA : 0 < n → ∀ x, A = some x → x.block < w.heap.size) :
    Calls Try.prog 55 #[.int .u64 t, .slice A n c] w fun e W' => ∃ v, e = .returned (.tuple #[v, .int .u64 ((restF t (uptoP (partAt t wh xs) n) : Nat) : Int), .int .i64 0]) ∧
      W'.ownsRow w.heap.size 22 1 v n ((uptoP (partAt t wh xs) n).map fun x => Value.int .u64 (x.2.1 : Int)) ∧ (v = .slice none 0 0 ↔ n = 0) ∧ Below w.heap.size w W' :=
  callsIn_wide.1 (split_in t n c wh A xs ht hwh hx hn hreach hw he w hU hA)
end Go.Proofs.Ytkfbnaafpikgfaa
