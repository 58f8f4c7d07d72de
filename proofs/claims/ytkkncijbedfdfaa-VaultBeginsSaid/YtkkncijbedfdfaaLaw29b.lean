/-
  Layer 29: wherever the power goes in the first opening, opened again it begins.
-/
import Derived.Test.YtkkncijbedfdfaaLaw29h
namespace Go.Proofs.Ytkkncijbedfdfaa
open Go.RowKit
set_option linter.unusedVariables false

theorem PlIn.call {P : Program} {f : FuncId} {args : Array Value} {w W : World} {g : Nat} {s s' : Ps} {e0 : Ending} (h : PlIn w g s W)
    (hc : ∀ gs pv A c, PlAt W g gs pv A c s → Calls P f args W fun e w' => e = e0 ∧ PlTo W (PS g gs pv A) g s' w') : Calls P f args W fun e w' => e = e0 ∧ PlIn w g s' w' := PlTo.call h hc
theorem hv_built (A : Option Addr) (n c : Nat) : Try.prog.built 58 [(0, .slice A n c)] = some #[.slice A n c, .slice none 0 0] := by kernel_rfl
attribute [go_sem] hv_built
theorem hasB_new (g a : Nat) (bs : List Nat) (A : Option Addr) (c : Nat) : hasB (cmpV g a bs) ⟨A, c, bs, none, 0, []⟩ = true := decide_eq_true ⟨rfl, rfl⟩
/-- A first opening, whatever becomes of it. -/
theorem PlIn.firstly {w W : World} {g : Nat} {s : Ps} {room : Nat} (h : PlIn w g s W) (hG : Bare s room) (hr : room ≤ 100000) (n cD : Nat) (D : Option Addr) (bs : List Nat) (hbs : bs.length = n) (hn : n ≤ 131072) (hcap : n ≤ cD) (hcD : cD ≤ 9223372036854775807) (hD : Bys W D bs) (hDn : 0 < n → ∀ a, D = some a → W.heap.size ≤ a.block ∨ a.block < w.heap.size) :
    Calls Try.prog 9 #[.pointer (some ⟨g, 0, none⟩), .slice D n cD] W fun e w' => ∃ pv b f s2, e = .returned (.tuple #[pv, .bool b, .int .i64 f]) ∧ PlIn w g s2 w' ∧ ((Bare s2.up room ∧ f ≠ 0) ∨ Good s2.up room (cmpV 1 0 bs)) := by
  obtain ⟨p, hp, ho⟩ := h.first (Below.refl _ _) hG hr n cD D bs hbs hn hcap hcD hD hDn
  refine ho.mono fun e w' hq => ?_
  by_cases hfit : secs n ≤ room
  · obtain ⟨hc, h1, h2⟩ := hq.1 hfit
    rcases hc with ⟨hz, hg⟩ | ⟨hz, hd, hx⟩
    · obtain ⟨gv, he, hv⟩ := h1 hz
      exact ⟨_, _, _, p.2, he, hv.pl, .inr hg.up⟩
    · obtain ⟨he, hv⟩ := h2 (by rw [hz]; decide)
      refine ⟨_, _, _, p.2, he, hv, ?_⟩
      rcases hx with hx | hx
      · exact .inl ⟨hx, by rw [hz]; decide⟩
      · exact .inr hx
  · obtain ⟨he, hb⟩ := hq.2 (by omega)
    exact ⟨_, _, _, s, he, h.stay hb, .inl ⟨hG.up, by decide⟩⟩
set_option maxRecDepth 100000 in
set_option maxHeartbeats 8000000 in
theorem vaultBegins_any (N : Int) (x : St29) (ops : Int) (hops : i64ok ops) (w : World) (hx : x.Ok w) : Calls Try.prog 5 #[.int .i64 N, .agg x.cells, .int .i64 ops] w fun e w' => e = .returned (.bool true) ∧ Below w.heap.size w w' := by
  have r0 : row (w.alloc (.cells x.cells 55)) w.heap.size = some x.cells := row_at _ _ _ _ rfl
  have hB0 : Below w.heap.size w (w.alloc (.cells x.cells 55)) := (by (repeat (first | exact Below.refl _ _ | assumption | (refine Below.allocT ?_ _) | refine Below.drew ?_ | refine below_drewN ?_ _ | (refine Below.then ?_ (by assumption)) | (refine Below.setRow ?_ ?_ _; rotate_left; (focus (first | exact Nat.lt_succ_self _ | ((repeat rw [World.size_alloc]); omega) | (simp; done) | (simp; omega) | omega))) | (refine Below.setCell ?_ ?_ _; rotate_left; (focus (first | exact Nat.lt_succ_self _ | ((repeat rw [World.size_alloc]); omega) | (simp; done) | (simp; omega) | omega))) | (refine Below.then' ?_ (by assumption) ?_; rotate_left; (focus (first | exact Nat.lt_succ_self _ | ((repeat rw [World.size_alloc]); omega) | (simp; done) | (simp; omega) | omega))) | fail)); (first | done | fail))
  have hl := hx.len
  have HXo := Lib.hid hx
  obtain ⟨n1, hn1⟩ : ∃ n, n = x.b.length := ⟨_, rfl⟩
  obtain ⟨n2, hn2⟩ : ∃ n, n = x.b2.length := ⟨_, rfl⟩
  obtain ⟨n3, hn3⟩ : ∃ n, n = x.keep.length := ⟨_, rfl⟩
  have HNn := Lib.hid (And.intro hn1 (And.intro hn2 hn3))
  clear hx
  go_enter Try.func5, Try.ntmps5
  go_upto_region 1 with fail
  generalize w.alloc (.cells x.cells 55) = w0 at *
  go_wp2_with fail
  refine (awake29_any _).mono ?_
  rintro e w1 ⟨rfl, hb⟩
  have r1 := (row_below hb (row_lt r0)).trans r0
  have B1 := Lib.hid (Below.then hB0 hb)
  have HR1 := Lib.hid r1
  have k0 : w1.cell? ⟨w.heap.size, 0, none⟩ = some (.slice x.A n1 x.c) := (row_cell r1 0).trans (by rw [hn1]; rfl)
  have k1 : w1.cell? ⟨w.heap.size, 1, none⟩ = some (.slice x.A2 n2 x.c2) := (row_cell r1 1).trans (by rw [hn2]; rfl)
  have k2 : w1.cell? ⟨w.heap.size, 2, none⟩ = some (.slice x.K n3 x.d) := (row_cell r1 2).trans (by rw [hn3]; rfl)
  clear r0 hB0 hb r1 hn1 hn2 hn3 hl
  by_cases hall : 4 ≤ N ∧ N ≤ 200 ∧ n1 ≤ 1000 ∧ n2 ≤ 1000 ∧ n3 ≤ 100 ∧ 0 ≤ ops
  rotate_left
  · have hq : N < 4 ∨ (¬ N < 4 ∧ 200 < N) ∨ (¬ N < 4 ∧ ¬ 200 < N ∧ (1000 : Int) < (n1 : Int)) ∨ (¬ N < 4 ∧ ¬ 200 < N ∧ ¬ (1000 : Int) < (n1 : Int) ∧ (1000 : Int) < (n2 : Int)) ∨ (¬ N < 4 ∧ ¬ 200 < N ∧ ¬ (1000 : Int) < (n1 : Int) ∧ ¬ (1000 : Int) < (n2 : Int) ∧ (100 : Int) < (n3 : Int)) ∨ (¬ N < 4 ∧ ¬ 200 < N ∧ ¬ (1000 : Int) < (n1 : Int) ∧ ¬ (1000 : Int) < (n2 : Int) ∧ ¬ (100 : Int) < (n3 : Int) ∧ ops < 0) := by omega
    clear hall
    rcases hq with h1 | ⟨h1, h2⟩ | ⟨h1, h2, h3⟩ | ⟨h1, h2, h3, h4⟩ | ⟨h1, h2, h3, h4, h5⟩ | ⟨h1, h2, h3, h4, h5, h6⟩
    all_goals
      go_wp2_with fail
      go_ret
      exact ⟨rfl, B1.out⟩
  · obtain ⟨g1, g2, g3, g4, g5, g6⟩ := hall
    obtain ⟨M, rfl⟩ := Int.eq_ofNat_of_zero_le (show 0 ≤ N by omega)
    have h1 : ¬ (M : Int) < 4 := by omega
    have h2 : ¬ (200 : Int) < (M : Int) := by omega
    have h3 : ¬ (1000 : Int) < (n1 : Int) := by omega
    have h4 : ¬ (1000 : Int) < (n2 : Int) := by omega
    have h5 : ¬ (100 : Int) < (n3 : Int) := by omega
    have h6 : ¬ ops < 0 := by omega
    obtain ⟨room, hroom⟩ : ∃ r, r = (M - 2) / 2 := ⟨_, rfl⟩
    obtain ⟨s0, hs0⟩ : ∃ s, s = newPs M := ⟨_, rfl⟩
    have hbare : Bare s0 room := by rw [hs0, hroom]; exact bare_new M (by omega)
    have HNw := Lib.hid (fun W => new_any M (by omega) (by omega) W)
    unfold NewPost at HNw
    rw [← hs0] at HNw
    have HS0 := Lib.hid hbare
    have hr2 : room ≤ 100 := by omega
    clear hbare hs0 hroom
    go_wp2_with fail
    refine (HNw.out _).mono ?_
    rintro e w2 ⟨g, gs, rfl, hg, hgs, hP, hb⟩
    have I2 := Lib.hid (PlIn.of_new hg hgs hP hb)
    have k2 : w2.cell? ⟨w.heap.size, 2, none⟩ = some (.slice x.K n3 x.d) := (hb.cell (p := ⟨w.heap.size, 2, none⟩) (row_lt HR1.out)).trans k2
    have HKp := Lib.hid (HXo.out.keep.below (Below.then B1.out hb) (Nat.le_refl _))
    clear hg hgs hP hb HNw k0 k1
    go_wp2_with fail
    refine (I2.out.call (s' := s0.arm ops x.keep) fun gs pv A c h => arm_any g gs pv A c s0 ops hops x.K n3 x.d x.keep HNn.out.2.2.symm (by omega) w2 h HKp.out).mono ?_
    rintro e w3 ⟨rfl, hI⟩
    have I3 := Lib.hid hI
    have HS3 := Lib.hid (HS0.out.arm ops x.keep)
    generalize s0.arm ops x.keep = s3 at *
    have hb13 := hI.below
    have k0 : w3.cell? ⟨w.heap.size, 0, none⟩ = some (.slice x.A n1 x.c) := (row_cell ((row_below hb13 (row_lt HR1.out)).trans HR1.out) 0).trans (by rw [HNn.out.1]; rfl)
    have HD1 := Lib.hid ((HXo.out.b.bys.below B1.out (Nat.le_refl _)).below hb13 (Nat.le_refl _))
    have hlt : ∀ (A : Option Addr) (bs : List Nat) (q : Nat), Bys w A bs → bs.length = q → 0 < q → ∀ a, A = some a → a.block < w1.heap.size := fun A bs q hb hq hp a ha => Nat.lt_of_lt_of_le (hb.lt (by omega) a ha) B1.out.size
    have HOp := Lib.hid (I3.out.firstly HS3.out (by omega) n1 x.c x.A x.b HNn.out.1.symm (by omega) (by rw [HNn.out.1]; exact HXo.out.b.cap) HXo.out.b.top HD1.out (fun hp a ha => .inr (hlt x.A x.b n1 HXo.out.b.bys HNn.out.1.symm hp a ha)))
    have HLt := Lib.hid hlt
    clear hI hb13 k2 I2 HKp HS0 hlt
    go_wp2_with fail
    refine (HOp.out).mono ?_
    rintro e w4 ⟨pv4, b4, f4, s4, rfl, hI, hcase⟩
    have I4 := Lib.hid hI
    have HCs := Lib.hid hcase
    clear hI hcase HOp I3 HS3 k0
    go_wp2_with fail
    refine (I4.out.call (s' := s4.up) fun gs pv A c h => up_any g gs pv A c s4 w4 h).mono ?_
    rintro e w5 ⟨rfl, hI⟩
    have I5 := Lib.hid hI
    have hb15 := hI.below
    have HR5 := Lib.hid ((row_below hb15 (row_lt HR1.out)).trans HR1.out)
    have k1 : w5.cell? ⟨w.heap.size, 1, none⟩ = some (.slice x.A2 n2 x.c2) := (row_cell HR5.out 1).trans (by rw [HNn.out.2.1]; rfl)
    have HD2 := Lib.hid ((HXo.out.b2.bys.below B1.out (Nat.le_refl _)).below hb15 (Nat.le_refl _))
    have hca : s4.up.armed = false := rfl
    clear hI hb15 I4
    rcases HCs.out with ⟨hB, hf⟩ | hG
    · generalize s4.up = s5 at *
      obtain ⟨p6, hp6, hop⟩ := I5.out.first (Below.refl _ _) hB (by omega) n2 x.c2 x.A2 x.b2 HNn.out.2.1.symm (by omega) (by rw [HNn.out.2.1]; exact HXo.out.b2.cap) HXo.out.b2.top HD2.out (fun hp a ha => .inr (HLt.out x.A2 x.b2 n2 HXo.out.b2.bys HNn.out.2.1.symm hp a ha))
      have HOp := Lib.hid hop
      have e4 : (f4 != 0) = true := bne_iff_ne.2 hf
      by_cases hfit : secs n2 ≤ room
      · have hc6 := (bare_first hB (by omega) x.b2 (by rw [← HNn.out.2.1]; exact hfit)).calm hB.down hca
        rw [← hp6] at hc6
        have HC6 := Lib.hid hc6
        clear hp6 hop hB hf hc6 hca HCs
        go_wp2_with fail
        refine (HOp.out).mono ?_
        rintro e w6 ⟨hq, _⟩
        obtain ⟨_, hz, _⟩ := hq hfit
        obtain ⟨gv, rfl, hV⟩ := hz HC6.out.1
        have I6 := Lib.hid hV
        have k1 : w6.cell? ⟨w.heap.size, 1, none⟩ = some (.slice x.A2 n2 x.c2) := (row_cell ((row_below hV.below (row_lt HR1.out)).trans HR1.out) 1).trans (by rw [HNn.out.2.1]; rfl)
        obtain ⟨gs7, pv7, A7, c7, x7, k7, _, _⟩ := hV
        have HHas := Lib.hid (has_any gv g room false _ x7 ⟨x.A2, x.c2, x.b2, none, 0, []⟩ (by show x.b2.length ≤ _; rw [← HNn.out.2.1]; omega) (by show 0 < 100000; omega) (fun r hr => by cases hr) (by show x.b2.length ≤ _; rw [← HNn.out.2.1]; omega) (by show 0 ≤ _; omega) w6 k7.vt ⟨(HXo.out.b2.bys.below B1.out (Nat.le_refl _)).below I6.out.below (Nat.le_refl _), ⟨SliceOf.nil _ _, fun r hr => (List.not_mem_nil hr).elim, fun r hr => (List.not_mem_nil hr).elim⟩⟩)
        rw [hasB_new] at HHas
        have HHas2 : Hid (Calls Try.prog 19 #[.agg #[.slice x.A2 n2 x.c2, .slice none 0 0], .pointer (some ⟨gv, 0, none⟩)] w6 fun e w' => e = .returned (.bool true) ∧ Below w6.heap.size w6 w') := Lib.hid (by rw [HNn.out.2.1]; exact HHas.out)
        clear hq hz hfit HOp HC6 I5 k7 HHas
        go_wp2_with fail
        refine (HHas2.out).mono ?_
        rintro e w8 ⟨rfl, hb8⟩
        have HB8 := Lib.hid (Below.then (Below.then B1.out I6.out.below) hb8)
        clear hb8 HHas2
        go_wp2_with fail
        go_ret
        exact ⟨rfl, HB8.out⟩
      · clear hp6 hop hB hf hca HCs
        go_wp2_with fail
        refine (HOp.out).mono ?_
        rintro e w6 ⟨_, hq⟩
        obtain ⟨rfl, hb6⟩ := hq (by omega)
        have HB6 := Lib.hid (Below.then (Below.then B1.out I5.out.below) hb6)
        clear hq hb6 HOp
        go_wp2_with fail
        go_ret
        exact ⟨rfl, HB6.out⟩
    · have HAg := Lib.hid (I5.out.again hG (by show 0 < 99999; omega) x.A2 n2 x.c2)
      clear hG hca HCs
      go_wp2_with fail
      refine (HAg.out).mono ?_
      rintro e w6 ⟨gv, rfl, hV, _, _⟩
      have I6 := Lib.hid hV
      have k0 : w6.cell? ⟨w.heap.size, 0, none⟩ = some (.slice x.A n1 x.c) := (row_cell ((row_below hV.below (row_lt HR1.out)).trans HR1.out) 0).trans (by rw [HNn.out.1]; rfl)
      obtain ⟨gs7, pv7, A7, c7, x7, k7, _, _⟩ := hV
      have HHas := Lib.hid (has_any gv g room false _ x7 ⟨x.A, x.c, x.b, none, 0, []⟩ (by show x.b.length ≤ _; rw [← HNn.out.1]; omega) (by show 0 < 100000; omega) (fun r hr => by cases hr) (by show x.b.length ≤ _; rw [← HNn.out.1]; omega) (by show 0 ≤ _; omega) w6 k7.vt ⟨(HXo.out.b.bys.below B1.out (Nat.le_refl _)).below I6.out.below (Nat.le_refl _), ⟨SliceOf.nil _ _, fun r hr => (List.not_mem_nil hr).elim, fun r hr => (List.not_mem_nil hr).elim⟩⟩)
      rw [hasB_new] at HHas
      have HHas2 : Hid (Calls Try.prog 19 #[.agg #[.slice x.A n1 x.c, .slice none 0 0], .pointer (some ⟨gv, 0, none⟩)] w6 fun e w' => e = .returned (.bool true) ∧ Below w6.heap.size w6 w') := Lib.hid (by rw [HNn.out.1]; exact HHas.out)
      have HGn := Lib.hid (fun W (hb : Below w6.heap.size w6 W) => generation_any gv g room false _ x7 W (k7.vt.stay hb))
      rw [show (cmpV 1 0 x.b).hd.gen = 1 from rfl] at HGn
      clear HAg I5 k7 HHas
      go_wp2_with fail
      refine (HHas2.out).mono ?_
      rintro e w8 ⟨rfl, hb8⟩
      have HB8 := Lib.hid hb8
      clear hb8 HHas2
      go_wp2_with fail
      refine (HGn.out _ HB8.out).mono ?_
      rintro e w9 ⟨rfl, rfl⟩
      go_wp2_with fail
      go_ret
      exact ⟨rfl, Below.then (Below.then B1.out I6.out.below) HB8.out⟩
end Go.Proofs.Ytkkncijbedfdfaa
