/-
  A record stands behind the log's: (*vault.Vault).Append.
-/
import Derived.Test.YtkkncijbedfdfaaVaultD
namespace Go.Proofs.Ytkkncijbedfdfaa
open Go.RowKit
set_option linter.unusedVariables false

theorem RecsIn.chg2 {W W' : World} {B : Nat} {v : Value} {rs : List Rec} {S : Nat → Prop} (h : RecsIn W B v rs) (hc : Chg S W W') (h1 : ∀ k, v.ownBlock = some k → ¬ S k) (h2 : ∀ r ∈ rs, 0 < r.bs.length → ∀ a, r.a = some a → ¬ S a.block) : RecsIn W' B v rs :=
  ⟨h.own.chg hc h1, fun r hr => (h.bys r hr).chg' hc (h2 r hr), h.new, h.apart⟩
theorem VtAt.recsIn {W : World} {gv g room : Nat} {br : Bool} {v : Vt} {x : VtA} (h : VtAt W gv g room br v x) : RecsIn W 0 (.slice x.a9 x.rs.length x.c9) x.rs :=
  ⟨h.own, h.recs, fun _ _ _ _ _ => Nat.zero_le _, fun r hr hp a ha e => h.db a.block (.inr (.inr ⟨r, hr, hp, a, ha, rfl⟩)) (.inr e)⟩
theorem raw_none {bs : List Nat} (h : bs.length ≤ 16384) : Wt.none.raw bs = ⟨rawF bs, 0⟩ := by
  unfold Wt.raw
  rw [Wt.put_fit rfl (by
    have := formN_len10 (n := bs.length) (by omega)
    rw [List.length_append]
    show 0 + _ ≤ _
    omega)]
  rfl
theorem rawF_len {bs : List Nat} (h : bs.length ≤ 16384) : (rawF bs).length ≤ bs.length + 3 := by
  unfold rawF
  rw [List.length_append]
  have : (formN bs.length).length ≤ 3 := by
    rcases Nat.lt_or_ge bs.length 128 with h1 | h1
    · rw [formN_low h1]; simp
    · rw [formN_high (by omega)]
      rcases Nat.lt_or_ge (bs.length / 128) 128 with h2 | h2
      · rw [formN_low h2]; simp
      · rw [formN_high (by omega), formN_low (by omega)]; simp
  omega
theorem app_twice {w8 w9 w10 : World} {l m : List Nat} {v9 v10 : Value} (h1 : Appended w8 (.slice none 0 0) [] l v9 w9) (h2 : Appended w9 v9 ([] ++ l) m v10 w10) (hp : 0 < m.length) {n : Nat} (hn : (l ++ m).length = n) : ∃ b off c, v10 = .slice (some ⟨b, off, none⟩) n c ∧ Bys w10 (some ⟨b, off, none⟩) (l ++ m) ∧ n ≤ c ∧ c ≤ 9223372036854775807 ∧ w8.heap.size ≤ b ∧ Below w8.heap.size w8 w10 := by
  have hb9 : Below w8.heap.size w8 w9 := (Below.refl _ _).grown h1.2.1 (Nat.le_refl _) (fun k hk => by cases hk)
  have hk9 : ∀ k, v9.ownBlock = some k → w8.heap.size ≤ k := fun k hk => by
    rcases h1.2.2 with e | e
    · rw [e] at hk; cases hk
    · rw [e] at hk; exact Nat.le_of_eq (Option.some.inj hk)
  have hb10 : Below w8.heap.size w8 w10 := hb9.trans (h2.chg.toBelow (fun k hk => hk9 k hk) hb9.size)
  have hk10 : ∀ k, v10.ownBlock = some k → w8.heap.size ≤ k := fun k hk => by
    rcases h2.2.2 with e | e
    · exact hk9 k (by rw [← e]; exact hk)
    · rw [e] at hk; rw [← Option.some.inj hk]; exact hb9.size
  have ho := h2.1
  rw [List.nil_append] at ho
  obtain ⟨A', c', e', hy, _, hl2, hl3, hown⟩ := ho.form
  obtain ⟨b, off, rfl, _, _⟩ := hy (by rw [List.length_append]; omega)
  rw [hn] at e' hl2
  exact ⟨b, off, c', e', hy, hl2, hl3, hk10 b (hown _ rfl), hb10⟩
theorem step_appbV {W : World} {ops : Array Oper} {o : Oper} {a : Act} {K : Act → World → Prop} {Q : Exit → Act → World → Prop} {E : Prop} (hgd : o.guard = none) (s x : Operand)
    (ho : o.op = .call { callee := .builtin .append, args := #[s, x], argTypes := #[22, 22] })
    (v : Value) (l m : List Nat) (A : Option Addr) (n c : Nat) (h : OwnB W v l) (hm : Bys W A m) (hs : a.eval s = v) (hx : a.eval x = .slice A n c) (hn : m.length = n) (hlen : l.length + m.length ≤ 70368744177664)
    (hk : ∀ v' W', Appended W v l m v' W' → K (a.put o.dst v') W') : if Region.wanted o (yielded ops a.tmps) = true then Oper.wp Try.prog o a W K Q else E := by
  have hw : Region.wanted o (yielded ops a.tmps) = true := by simp [Region.wanted, hgd]
  rw [if_pos hw]
  exact wp_appb s x ho v l m A n c h hm hs hx hn hlen hk
/-- A copy of bytes. -/
theorem app_copy {W W' : World} {m : List Nat} {v : Value} {n : Nat} (h : Appended W (.slice none 0 0) [] m v W') (hn : m.length = n) : ∃ A c, v = .slice A n c ∧ Bys W' A m ∧ (∀ a, A = some a → W.heap.size ≤ a.block) ∧ Below W.heap.size W W' := by
  have ho := h.1
  rw [List.nil_append] at ho
  obtain ⟨A', c', e', hy, _, _, _, hown⟩ := ho.form
  rw [hn] at e'
  refine ⟨A', c', e', hy, fun a ha => ?_, (Below.refl _ _).grown h.2.1 (Nat.le_refl _) (fun k hk => by cases hk)⟩
  have h1 := hown a ha
  rcases h.2.2 with e | e
  · rw [e] at h1; cases h1
  · rw [e] at h1; exact Nat.le_of_eq (Option.some.inj h1)
/-- What stands behind an append: the vault's block, its slices, its plate. -/
theorem app_fin {w w11 w12 w13 w14 w15 w16 : World} {gv g gs gs6 room l' bb boff cb : Nat} {pv pv6 : Value} {A A6 : Option Addr} {c c6 : Nat} {s s6 : Ps} {v : Vt} {x : VtA} {bs : List Nat} {A14 Aq : Option Addr} {c14 cq : Nat}
    (h : VaAt w gv g gs pv A c s room false v x) (hb11 : Below w.heap.size w w11) (hC : Chg (fun k => PS g gs pv A k ∨ k = gv) w11 w12) (hP6 : PlAt w12 g gs6 pv6 A6 c6 s6) (hF6 : ∀ k, PS g gs6 pv6 A6 k → PS g gs pv A k ∨ w11.heap.size ≤ k)
    (hl' : (v.log ++ rawF bs).length = l') (hy : Bys w11 (some ⟨bb, boff, none⟩) (v.log ++ rawF bs)) (hp : 0 < l') (hbb : w.heap.size ≤ bb)
    (hc13 : Chg (only gv) w12 w13) (hr13 : row w13 gv = some (rawC (appV v bs).hd g room (.slice x.a7 v.snap.length x.c7) (.slice (some ⟨bb, boff, none⟩) l' cb) (.slice x.a9 x.rs.length x.c9) false))
    (hy14 : Bys w14 A14 bs) (hA14 : ∀ a, A14 = some a → w13.heap.size ≤ a.block) (hb14 : Below w13.heap.size w13 w14) (hb15 : Below w14.heap.size w14 w15)
    (hO : OwnC 22 1 recK w16 0 (.slice Aq (x.rs.length + 1) cq) (x.rs ++ [⟨A14, c14, bs⟩])) (hg : w15.grownBy w16 (Value.slice x.a9 x.rs.length x.c9).ownBlock) (hor : (Value.slice Aq (x.rs.length + 1) cq).ownBlock = (Value.slice x.a9 x.rs.length x.c9).ownBlock ∨ (Value.slice Aq (x.rs.length + 1) cq).ownBlock = some w15.heap.size) :
    VaTo w (FS g gs pv A gv x) gv g s6 room false (appV v bs) (w16.setCell ⟨gv, 9, none⟩ (.slice Aq (x.rs.length + 1) cq)) := by
  have hgl := row_lt h.vt.row
  have hgn : ¬ PS g gs pv A gv := h.far gv (.inl (.inl rfl))
  have hs12 := hC.size
  have hs13 := hc13.size
  have hs14 := hb14.size
  have hs15 := hb15.size
  have hs11 := hb11.size
  have hC12 : Chg (fun k => PS g gs pv A k ∨ k = gv) w w12 := Chg.below_before hb11 hC
  have hC13 : Chg (fun k => PS g gs pv A k ∨ k = gv) w w13 := hC12.andThen hc13 (fun k hk => .inl (.inr hk))
  have hb1315 : Below w13.heap.size w13 w15 := Below.then hb14 hb15
  have hC15 : Chg (fun k => PS g gs pv A k ∨ k = gv) w w15 := hC13.below_then hb1315 (Nat.le_refl _)
  have ho16 : Chg (owns (.slice x.a9 x.rs.length x.c9)) w15 w16 := (Chg.refl _ _).grown hg (fun k hk => .inl hk)
  have hset : Chg (only gv) w16 (w16.setCell ⟨gv, 9, none⟩ (.slice Aq (x.rs.length + 1) cq)) := only_set gv 9 _
  have hlt := h.vt.lt
  have hS1 : ∀ k, VS gv x k ∨ DB v x k → ¬ PS g gs pv A k := h.far
  have hown : ∀ k, (Value.slice x.a9 x.rs.length x.c9).ownBlock = some k → k < w.heap.size ∧ ¬ PS g gs pv A k ∧ k ≠ gv := fun k hk => ⟨hlt k (.inl (.inr hk)), h.far k (.inl (.inr hk)), fun e => h.vt.ne (by rw [← e]; exact hk)⟩
  have hdb : ∀ k, DB v x k → k < w.heap.size ∧ ¬ PS g gs pv A k ∧ k ≠ gv ∧ (Value.slice x.a9 x.rs.length x.c9).ownBlock ≠ some k := fun k hk => ⟨hlt k (.inr hk), h.far k (.inr hk), fun e => h.vt.db k hk (.inl e), fun e => h.vt.db k hk (.inr e)⟩
  have hR15 : RecsIn w15 0 (.slice x.a9 x.rs.length x.c9) x.rs := h.vt.recsIn.chg2 hC15 (fun k hk hx => by
    rcases hx with hx | hx
    · exact (hown k hk).2.1 hx
    · exact (hown k hk).2.2 hx) (fun r hr hpos a ha hx => by
    have hd := hdb a.block (.inr (.inr ⟨r, hr, hpos, a, ha, rfl⟩))
    rcases hx with hx | hx
    · exact hd.2.1 hx
    · exact hd.2.2.1 hx)
  have hy15 := hy14.stay hb15
  obtain ⟨hR16, _⟩ := hR15.push (r := ⟨A14, c14, bs⟩) (v' := .slice Aq (x.rs.length + 1) cq) hy15 (fun _ _ _ => Nat.zero_le _) (fun _ a ha e => by have h1 := hA14 a ha; have h2 := (hown _ e).1; have := hC13.size; omega) hO hg hor
  have hne' : ∀ k, k < w15.heap.size → (Value.slice x.a9 x.rs.length x.c9).ownBlock ≠ some k → (Value.slice Aq (x.rs.length + 1) cq).ownBlock ≠ some k := fun k hk hn e => by
    rcases hor with q | q
    · exact hn (q.symm.trans e)
    · have := Option.some.inj (q.symm.trans e); omega
  have hgvo : (Value.slice x.a9 x.rs.length x.c9).ownBlock ≠ some gv := fun e => (hown gv e).2.2 rfl
  have hgw13 : gv < w13.heap.size := Nat.lt_of_lt_of_le hgl hC13.size
  have hgw15 : gv < w15.heap.size := Nat.lt_of_lt_of_le hgl hC15.size
  have hCw : Chg (FS g gs pv A gv x) w (w16.setCell ⟨gv, 9, none⟩ (.slice Aq (x.rs.length + 1) cq)) :=
    ((hC15.mono (S' := FS g gs pv A gv x) (fun k hk => hk.imp id .inl)).andThen ho16 (fun k hk => .inl (.inr (.inr hk)))).andThen hset (fun k hk => .inl (.inr (.inl hk)))
  have hbblt := hy.lt (by omega) _ rfl
  have hbblt' : bb < w11.heap.size := hbblt
  have hbbo : (Value.slice x.a9 x.rs.length x.c9).ownBlock ≠ some bb := fun e => by have := (hown bb e).1; omega
  have hCf : Chg (fun k => k = gv ∨ (Value.slice x.a9 x.rs.length x.c9).ownBlock = some k) w13 (w16.setCell ⟨gv, 9, none⟩ (.slice Aq (x.rs.length + 1) cq)) :=
    ((Chg.of_below (S := fun k => k = gv ∨ (Value.slice x.a9 x.rs.length x.c9).ownBlock = some k) hb1315 (Nat.le_refl _)).andThen ho16 (fun k hk => .inl (.inr hk))).andThen hset (fun k hk => .inl (.inl hk))
  have hyF : Bys (w16.setCell ⟨gv, 9, none⟩ (.slice Aq (x.rs.length + 1) cq)) (some ⟨bb, boff, none⟩) (v.log ++ rawF bs) := by
    refine (((hy.chg hC (fun a ha hx => ?_)).chg hc13 (fun a ha hx => ?_))).chg hCf (fun a ha hx => ?_)
    · cases ha
      rcases hx with hx | hx
      · have := h.pl.blocks _ hx
        have h2 : (⟨bb, boff, none⟩ : Addr).block = bb := rfl
        omega
      · have h2 : (⟨bb, boff, none⟩ : Addr).block = bb := rfl
        omega
    · cases ha
      have h2 : bb = gv := hx
      omega
    · cases ha
      rcases hx with hx | hx
      · have h2 : bb = gv := hx
        omega
      · exact hbbo hx
  have hrF : row (w16.setCell ⟨gv, 9, none⟩ (.slice Aq (x.rs.length + 1) cq)) gv = some (rawC (appV v bs).hd g room (.slice x.a7 v.snap.length x.c7) (.slice (some ⟨bb, boff, none⟩) l' cb) (.slice Aq (x.rs.length + 1) cq) false) := by
    have h1 : row w16 gv = row w13 gv := (ho16.row hgw15 (fun e => hgvo e)).trans (row_below hb1315 hgw13)
    rw [row_set (h1.trans hr13) 9 _]
    rfl
  have hP16 : PlAt (w16.setCell ⟨gv, 9, none⟩ (.slice Aq (x.rs.length + 1) cq)) g gs6 pv6 A6 c6 s6 := by
    have hgv6 : ¬ PS g gs6 pv6 A6 gv := fun hx => by
      rcases hF6 gv hx with e | e
      · exact hgn e
      · omega
    refine (hP6.chg hc13 (fun k hk e => ?_)).chg hCf (fun k hk e => ?_)
    · have e' : k = gv := e
      rw [e'] at hk; exact hgv6 hk
    · rcases e with e | e
      · rw [e] at hk; exact hgv6 hk
      · have ho := hown k e
        rcases hF6 k hk with q | q
        · exact ho.2.1 q
        · omega
  have hlen : (x.rs ++ [(⟨A14, c14, bs⟩ : Rec)]).length = x.rs.length + 1 := by rw [List.length_append]; rfl
  have h14n : ∀ a, A14 = some a → 0 < bs.length → w13.heap.size ≤ a.block ∧ a.block < w15.heap.size := fun a ha hpos => ⟨hA14 a ha, hy15.lt hpos a ha⟩
  have hVS' : ∀ k, VS gv ⟨x.a7, x.c7, some ⟨bb, boff, none⟩, cb, Aq, cq, x.rs ++ [⟨A14, c14, bs⟩]⟩ k → k = gv ∨ (Value.slice x.a9 x.rs.length x.c9).ownBlock = some k ∨ k = w15.heap.size := fun k hk => by
    rcases hk with hk | hk
    · exact .inl hk
    · have hk' : (Value.slice Aq (x.rs.length + 1) cq).ownBlock = some k := by rw [← hlen]; exact hk
      rcases hor with q | q
      · exact .inr (.inl (q.symm.trans hk'))
      · exact .inr (.inr (Option.some.inj (q.symm.trans hk')).symm)
  have hDB' : ∀ k, DB (appV v bs) ⟨x.a7, x.c7, some ⟨bb, boff, none⟩, cb, Aq, cq, x.rs ++ [⟨A14, c14, bs⟩]⟩ k → DB v x k ∨ k = bb ∨ (w13.heap.size ≤ k ∧ k < w15.heap.size) := fun k hk => by
    rcases hk with ⟨hpos, a, ha, rfl⟩ | ⟨hpos, a, ha, rfl⟩ | ⟨r, hr, hpos, a, ha, rfl⟩
    · exact .inl (.inl ⟨hpos, a, ha, rfl⟩)
    · cases ha; exact .inr (.inl rfl)
    · rcases List.mem_append.1 hr with hr | hr
      · exact .inl (.inr (.inr ⟨r, hr, hpos, a, ha, rfl⟩))
      · rw [List.mem_singleton] at hr
        subst hr
        exact .inr (.inr (h14n a ha hpos))
  refine ⟨gs6, pv6, A6, c6, ⟨x.a7, x.c7, some ⟨bb, boff, none⟩, cb, Aq, cq, x.rs ++ [⟨A14, c14, bs⟩]⟩, ⟨⟨?_, ?_, hyF, ?_, ?_, ?_, ?_, ?_⟩, hP16, ?_⟩, ?_, hCw⟩
  · rw [hrF, vtC_raw]
    show some _ = some (rawC (appV v bs).hd g room (.slice x.a7 v.snap.length x.c7) (.slice _ (v.log ++ rawF bs).length cb) (.slice Aq (x.rs ++ [_]).length cq) false)
    rw [hl', hlen]
  · refine h.vt.snap.chg' hCw (fun hpos a ha hx => ?_)
    have hd := hdb a.block (.inl ⟨hpos, a, ha, rfl⟩)
    rcases hx with hx | hx | hx
    · exact hd.2.1 hx
    · exact hd.2.2.1 hx
    · exact hd.2.2.2 hx
  · show OwnC _ 1 recK _ 0 (.slice Aq (x.rs ++ [_]).length cq) _
    rw [hlen]
    exact hR16.own.chg hset (fun k hk e => by
      have e' : k = gv := e
      exact hne' gv hgw15 hgvo (by rw [← e']; exact hk))
  · intro r hr
    refine (hR16.bys r hr).chg' hset (fun hpos a ha e => ?_)
    have e' : a.block = gv := e
    rcases List.mem_append.1 hr with hr | hr
    · exact (hdb a.block (.inr (.inr ⟨r, hr, hpos, a, ha, rfl⟩))).2.2.1 e'
    · rw [List.mem_singleton] at hr
      subst hr
      have := (h14n a ha hpos).1
      omega
  · rw [List.map_append, h.vt.vals]; rfl
  · show (Value.slice Aq (x.rs ++ [_]).length cq).ownBlock ≠ some gv
    rw [hlen]
    exact hne' gv hgw15 hgvo
  · intro k hk hv
    rcases hVS' k hv with e | e | e
    · rcases hDB' k hk with q | q | q
      · exact (hdb k q).2.2.1 e
      · omega
      · omega
    · have ho := hown k e
      rcases hDB' k hk with q | q | q
      · exact (hdb k q).2.2.2 e
      · omega
      · have := hC13.size
        omega
    · rcases hDB' k hk with q | q | q
      · have := (hdb k q).1
        have := hC15.size
        omega
      · omega
      · omega
  · intro k hk hx
    have h6 := hP6.blocks k hx
    rcases hk with hk | hk
    · rcases hVS' k hk with e | e | e
      · rcases hF6 k hx with q | q
        · rw [e] at q; exact hgn q
        · omega
      · have ho := hown k e
        rcases hF6 k hx with q | q
        · exact ho.2.1 q
        · omega
      · omega
    · rcases hDB' k hk with q | q | q
      · have hd := hdb k q
        rcases hF6 k hx with q | q
        · exact hd.2.1 q
        · omega
      · rcases hF6 k hx with q | q
        · have := h.pl.blocks _ q
          omega
        · omega
      · omega
  · intro k hk
    rcases hk with hk | hk
    · rcases hF6 k hk with q | q
      · exact .inl (.inl q)
      · exact .inr (by omega)
    · rcases hVS' k hk with e | e | e
      · exact .inl (.inr (.inl e))
      · exact .inl (.inr (.inr e))
      · have := hC15.size
        exact .inr (by omega)
/-- The broken one, and records that are none or too long. -/
theorem append_broken (gv g : Nat) (A : Option Addr) (n c : Nat) (w : World) (h5 : w.cell? ⟨gv, 5, none⟩ = some (.pointer (some ⟨g, 0, none⟩))) (h10 : w.cell? ⟨gv, 10, none⟩ = some (.bool true)) :
    Calls Try.prog 10 #[.pointer (some ⟨gv, 0, none⟩), .slice A n c] w fun e w' => e = .returned (.int .i64 280) ∧ w = w' := by
  have HI := Lib.hid (vis_yes gv g w h5)
  go_enter Try.func10, Try.ntmps10
  go_wp2_with fail
  refine (HI.out).mono ?_
  rintro e w1 ⟨rfl, rfl⟩
  go_wp2_with fail
  go_ret
  exact ⟨rfl, rfl⟩
theorem append_empty (gv g : Nat) (A : Option Addr) (c : Nat) (w : World) (h5 : w.cell? ⟨gv, 5, none⟩ = some (.pointer (some ⟨g, 0, none⟩))) (h10 : w.cell? ⟨gv, 10, none⟩ = some (.bool false)) :
    Calls Try.prog 10 #[.pointer (some ⟨gv, 0, none⟩), .slice A 0 c] w fun e w' => e = .returned (.int .i64 2) ∧ w = w' := by
  have HI := Lib.hid (vis_yes gv g w h5)
  go_enter Try.func10, Try.ntmps10
  go_wp2_with fail
  refine (HI.out).mono ?_
  rintro e w1 ⟨rfl, rfl⟩
  go_wp2_with fail
  go_ret
  exact ⟨rfl, rfl⟩
set_option maxHeartbeats 8000000 in
set_option maxRecDepth 100000 in
theorem append_any (gv g gs : Nat) (pv : Value) (A : Option Addr) (c : Nat) (s : Ps) (hd : s.down = false) (hp : s.pend = []) (room : Nat) (v : Vt) (x : VtA) (ho : v.hd.Ok room) (hgen : v.hd.gen + 1 < 18446744073709551615) (hsn : v.hd.snap = v.snap.length) (hlg : v.hd.log = v.log.length) (hal : v.hd.all = v.recs.length) (hm5 : v.recs.length < 99999) (n cD : Nat) (D : Option Addr) (bs : List Nat) (hbs : bs.length = n) (hn1 : 1 ≤ n) (hn : n ≤ 16384) (hbok : bytesOk bs) (hlen : 2 + 2 * room ≤ s.sure.length) (w : World) (hD : Bys w D bs) (hDn : ∀ a, D = some a → ¬ FS g gs pv A gv x a.block) (h : VaAt w gv g gs pv A c s room false v x) :
    Calls Try.prog 10 #[.pointer (some ⟨gv, 0, none⟩), .slice D n cD] w fun e w' => (secs v.snap.length + secs (v.log ++ rawF bs).length ≤ room → OpPost w (FS g gs pv A gv x) gv g room (commitP s (appW room v (rawF bs)) ((v.hd.gen + 1) % 2, headS (appV v bs).hd)) (appV v bs) e w') ∧ (¬ secs v.snap.length + secs (v.log ++ rawF bs).length ≤ room → e = .returned (.int .i64 290) ∧ Below w.heap.size w w') := by
  obtain ⟨hv, hgn⟩ := h.bounds
  have hgl := row_lt hv
  have HIs := Lib.hid (vis_yes gv g w (row_cell hv 5))
  have hl1 := rawF_len (bs := bs) (by omega)
  have hl0 := rawF_pos bs
  obtain ⟨M, hM⟩ : ∃ M, M = (rawF bs).length := ⟨_, rfl⟩
  obtain ⟨L, hL⟩ : ∃ L, L = v.log.length := ⟨_, rfl⟩
  have HM := Lib.hid hM
  have HL := Lib.hid hL
  rw [← hM] at hl1 hl0
  have hLr := secs_le (n := v.hd.log) (r := room) (by have := ho.fits; omega)
  have hSr := secs_le (n := v.hd.snap) (r := room) (by have := ho.fits; omega)
  have hrm := ho.room
  have har := ho.area
  rw [hlg, ← hL] at hLr
  have hlgL : v.hd.log = L := by rw [hlg, hL]
  have hal2 : v.hd.all < 99999 := by rw [hal]; exact hm5
  obtain ⟨g', hg'⟩ : ∃ g', g' = v.hd.gen + 1 := ⟨_, rfl⟩
  obtain ⟨l', hl'⟩ : ∃ l', l' = L + M := ⟨_, rfl⟩
  obtain ⟨a', ha'⟩ : ∃ a', a' = v.hd.all + 1 := ⟨_, rfl⟩
  have E1 : IntKind.u64.wrap ((v.hd.gen : Int) + 1) = (g' : Int) := by rw [IntKind.wrap_u64]; omega
  have E2 : IntKind.i64.wrap ((v.hd.log : Int) + (M : Int)) = (l' : Int) := by rw [show (v.hd.log : Int) + (M : Int) = (l' : Int) by omega]; exact IntWalk.i64_in _ (by omega)
  have E3 : IntKind.i64.wrap ((v.hd.all : Int) + 1) = (a' : Int) := by rw [show (v.hd.all : Int) + 1 = (a' : Int) by omega]; exact IntWalk.i64_in _ (by omega)
  have HG' := Lib.hid (And.intro hg' (And.intro hl' ha'))
  have HH := Lib.hid (And.intro hsn (And.intro hlg hal))
  clear hg' hl' ha' hlgL hsn hlg hal
  have c0 : w.cell? ⟨gv, 0, none⟩ = some (.int .u64 (v.hd.gen : Int)) := row_cell hv 0
  have c10 : w.cell? ⟨gv, 10, none⟩ = some (.bool false) := row_cell hv 10
  have z1 : ¬ (n : Int) < 1 := by omega
  have z2 : ¬ (16384 : Int) < (n : Int) := by omega
  have HWr := Lib.hid (fun W (hb : Below w.heap.size w W) g' o' (hW : WtAt W g' o' Wt.none) => wraw_any g' o' Wt.none Wt.none_ok D n cD bs hbs (by omega) W (hD.stay hb) hW)
  have HWo := Lib.hid (fun W g' o' (hW : WtAt W g' o' ⟨rawF bs, 0⟩) => wout_any g' o' ⟨rawF bs, 0⟩ ⟨(formN_ok _).append hbok, by show (rawF bs).length ≤ _; omega, by show (0 : Int) ≤ 0; omega, by show (0 : Int) ≤ 3; omega⟩ W hW)
  rw [raw_none (by omega)] at HWr
  have hw0 : WtAt (w.alloc (.cells #[.slice none 0 0, .int .i64 0] 70)) w.heap.size none Wt.none := WtAt.fresh w _
  have hB0 : Below w.heap.size w (w.alloc (.cells #[.slice none 0 0, .int .i64 0] 70)) := (by (repeat (first | exact Below.refl _ _ | assumption | (refine Below.allocT ?_ _) | refine Below.drew ?_ | refine below_drewN ?_ _ | (refine Below.then ?_ (by assumption)) | (refine Below.setRow ?_ ?_ _; rotate_left; (focus (first | exact Nat.lt_succ_self _ | ((repeat rw [World.size_alloc]); omega) | (simp; done) | (simp; omega) | omega))) | (refine Below.setCell ?_ ?_ _; rotate_left; (focus (first | exact Nat.lt_succ_self _ | ((repeat rw [World.size_alloc]); omega) | (simp; done) | (simp; omega) | omega))) | (refine Below.then' ?_ (by assumption) ?_; rotate_left; (focus (first | exact Nat.lt_succ_self _ | ((repeat rw [World.size_alloc]); omega) | (simp; done) | (simp; omega) | omega))) | fail)); (first | done | fail))
  have H0 := Lib.hid (And.intro hv h)
  have HW0 := Lib.hid hw0
  have HB0 := Lib.hid hB0
  clear hw0 hB0
  have hll : (v.log ++ rawF bs).length = l' := by rw [List.length_append, ← HL.out, ← HM.out]; exact HG'.out.2.1.symm
  rw [hll, ← HH.out.1]
  have HLl := Lib.hid hll
  have hl'b : l' ≤ 7000000 := by have := HG'.out.2.1; omega
  obtain ⟨sn, hsn'⟩ : ∃ q, q = secs v.hd.snap := ⟨_, rfl⟩
  obtain ⟨sl, hsl'⟩ : ∃ q, q = secs l' := ⟨_, rfl⟩
  have hsb : sn ≤ 200000 ∧ sl ≤ 200000 := by
    rw [hsn', hsl']
    unfold secs
    omega
  have HSc : Hid (∀ W (z : Int), (z = (v.hd.snap : Int) → Calls Try.prog 28 #[.int .i64 z] W fun e w' => e = .returned (.int .i64 (sn : Int)) ∧ W = w') ∧ (z = (l' : Int) → Calls Try.prog 28 #[.int .i64 z] W fun e w' => e = .returned (.int .i64 (sl : Int)) ∧ W = w')) := Lib.hid fun W z => ⟨fun hz => by rw [hz, hsn']; exact sectors_any _ (by omega) W, fun hz => by rw [hz, hsl']; exact sectors_any _ (by omega) W⟩
  rw [← hsn', ← hsl']
  have HSn := Lib.hid (And.intro hsn' hsl')
  clear hsn' hsl' hll
  obtain ⟨fr, hfr⟩ : ∃ fr, fr = L / 64 := ⟨_, rfl⟩
  have E5 : (L : Int) / 64 = (fr : Int) := by omega
  have hfr2 : fr * 64 ≤ L := by omega
  obtain ⟨lo, hlo⟩ : ∃ lo, lo = fr * 64 := ⟨_, rfl⟩
  rw [← hlo] at hfr2
  have hl'L : l' = L + M := HG'.out.2.1
  have hfrb : fr ≤ 200000 := by omega
  have y1 : (0 : Int) ≤ (lo : Int) := by omega
  have y2 : (lo : Int) ≤ (l' : Int) := by omega
  have y4 : lo ≤ l' := by omega
  have E6 : IntKind.i64.wrap ((fr : Int) * 64) = (lo : Int) := by rw [show (fr : Int) * 64 = (lo : Int) by omega]; exact IntWalk.i64_in _ (by omega)
  have hbeg : 2 ≤ begA room v.hd.area ∧ begA room v.hd.area + room ≤ 2 + 2 * room := by
    unfold begA
    rcases area_cases har with q | q <;> rw [q] <;> omega
  obtain ⟨bg, hbg⟩ : ∃ q, q = begA room v.hd.area := ⟨_, rfl⟩
  rw [← hbg] at hbeg
  obtain ⟨o, ho'⟩ : ∃ o, o = bg + sn + fr := ⟨_, rfl⟩
  have HBg : Hid (∀ W, Below w.heap.size w W → Calls Try.prog 29 #[.pointer (some ⟨gv, 0, none⟩), .int .i64 (v.hd.area : Int)] W fun e w' => e = .returned (.int .i64 (bg : Int)) ∧ W = w') := Lib.hid fun W hb => by
    rw [hbg]; exact begin_any gv room v.hd.area har hrm W ((hb.cell (p := ⟨gv, 6, none⟩) hgl).trans (row_cell hv 6))
  have E7 : IntKind.i64.wrap ((bg : Int) + (sn : Int)) = (bg : Int) + (sn : Int) := IntWalk.i64_in _ (by omega)
  have E8 : IntKind.i64.wrap ((bg : Int) + (sn : Int) + (fr : Int)) = (o : Int) := by rw [show (bg : Int) + (sn : Int) + (fr : Int) = (o : Int) by omega]; exact IntWalk.i64_in _ (by omega)
  have HAv : Hid ((appV v bs).hd = ⟨g', v.hd.area, v.hd.snap, l', a'⟩) := Lib.hid (by
    show (⟨v.hd.gen + 1, v.hd.area, v.hd.snap, (v.log ++ rawF bs).length, v.hd.all + 1⟩ : Hd) = _
    rw [HLl.out, HG'.out.1, HG'.out.2.2])
  have HAw : Hid (appW room v (rawF bs) = pieces o ((v.log ++ rawF bs).drop lo)) := Lib.hid (by
    unfold appW
    rw [← HL.out, ← hfr, ← hlo, ho', HSn.out.1, hbg, HH.out.1])
  have HCm : Hid (sn + sl ≤ room → ∀ W b bb boff cb, Below w.heap.size w W → w.heap.size ≤ bb → Bys W (some ⟨bb, boff, none⟩) (v.log ++ rawF bs) → l' ≤ cb → cb ≤ 9223372036854775807 → row W b = some #[.int .i64 (o : Int), .slice (some ⟨bb, boff + lo, none⟩) (l' - lo) (cb - lo)] → Calls Try.prog 30 #[.pointer (some ⟨gv, 0, none⟩), .agg (headC ⟨g', v.hd.area, v.hd.snap, l', a'⟩), .slice (some ⟨b, 0, none⟩) 1 1] W (CommitPost W (PS g gs pv A) gv g room v.hd ⟨g', v.hd.area, v.hd.snap, l', a'⟩ (.slice x.a7 v.snap.length x.c7) (.slice x.a8 v.log.length x.c8) (.slice x.a9 x.rs.length x.c9) false (commitP s (appW room v (rawF bs)) ((v.hd.gen + 1) % 2, headS (appV v bs).hd)))) := Lib.hid fun hfit W b bb boff cb hb hbb hy hc1 hc2 hr => by
    rw [HAv.out, HAw.out, ← HG'.out.1]
    have hsx : fr + secs (l' - lo) = sl := by
      rw [HSn.out.2, hlo, hfr]
      unfold secs
      omega
    have hgg := HG'.out
    exact commit_any gv g gs pv A c s hd hp room v.hd ⟨g', v.hd.area, v.hd.snap, l', a'⟩ ⟨⟨by show 1 ≤ g'; omega, by show g' < _; omega⟩, har, by show secs v.hd.snap + secs l' ≤ room; rw [← HSn.out.1, ← HSn.out.2]; exact hfit, hrm, by show a' ≤ l'; have := ho.all; have := HH.out.2.1; omega⟩ _ _ _ false o (l' - lo) (cb - lo) b (some ⟨bb, boff + lo, none⟩) ((v.log ++ rawF bs).drop lo) (by rw [List.length_drop, HLl.out]) (by omega) (by omega) (by omega) (by omega) (by omega) W hr (by
      have := bys_part hy lo (l' - lo) (by rw [HLl.out]; omega)
      rwa [List.take_of_length_le (by rw [List.length_drop, HLl.out]; exact Nat.le_refl _)] at this) (fun _ a ha hx => by
      cases ha
      have h1 := h.pl.blocks _ hx
      have h2 : (⟨bb, boff + lo, none⟩ : Addr).block = bb := rfl
      omega) ((row_below hb hgl).trans hv) hgn (h.pl.stay hb)
  have hcc : (commitP s (appW room v (rawF bs)) ((v.hd.gen + 1) % 2, headS (appV v bs).hd)).1 = 0 ∨ (commitP s (appW room v (rawF bs)) ((v.hd.gen + 1) % 2, headS (appV v bs).hd)).1 = 280 := by
    rcases commitP_cases s (appW room v (rawF bs)) ((v.hd.gen + 1) % 2, headS (appV v bs).hd) hd hp with ⟨q, _⟩ | ⟨q, _⟩ | ⟨q, _⟩
    · exact .inl q
    · exact .inr q
    · exact .inr q
  generalize commitP s (appW room v (rawF bs)) ((v.hd.gen + 1) % 2, headS (appV v bs).hd) = p at *
  have HCc := Lib.hid hcc
  have HGn := Lib.hid hgn
  clear hfr hlo hl'L hbg ho' HAw hcc hgn hd hp
  have HDw := Lib.hid hD
  have HDn := Lib.hid hDn
  have HBs := Lib.hid hbs
  rw [hbs] at hl1
  clear hD hDn hbs h hv
  go_enter Try.func10, Try.ntmps10
  go_wp2_with fail
  refine (HIs.out).mono ?_
  rintro e w1 ⟨rfl, rfl⟩
  go_wp2_with fail
  refine (HWr.out _ HB0.out _ _ HW0.out).mono ?_
  rintro e w2 ⟨he, o2, hW2, _, hC2⟩
  obtain rfl : e = .returned (.tuple #[]) := he
  have HB2 : Hid (Below w.heap.size w w2) := Lib.hid (HB0.out.trans (hC2.toBelow (fun k hk => by
    rcases hk with rfl | hk
    · exact Nat.le_refl _
    · cases hk) HB0.out.size))
  have HW2 := Lib.hid hW2
  clear hW2 hC2 HWr HW0
  go_wp2_with fail
  refine (HWo.out _ _ _ HW2.out).mono ?_
  rintro e w3 ⟨Am, cm, rfl, hOm, _, hb3⟩
  obtain ⟨Am', cm', em, hYm, _, _, _, _⟩ := hOm.form
  rw [Value.slice.injEq] at em
  have HYm : Hid (Bys w3 Am (rawF bs)) := Lib.hid (by rw [em.1]; exact hYm)
  have HB3 := Lib.hid (Below.then HB2.out hb3)
  have hmm : (outL ⟨rawF bs, 0⟩).length = M := by rw [hM]; rfl
  rw [hmm]
  have q3 := (row_below HB3.out hgl).trans H0.out.1
  have HQ3 := Lib.hid q3
  have r4 : row (w3.alloc (.cells (headC v.hd) 40)) w3.heap.size = some (headC v.hd) := (by (repeat (first | assumption | (refine row_at _ _ _ _ ?_; first | rfl | (simp only [World.size_alloc]; done) | (simp only [World.size_alloc]; omega)) | (refine (row_past _ _ _ ?_).trans ?_; (focus (first | exact Nat.lt_succ_self _ | ((repeat rw [World.size_alloc]); omega) | (simp; done) | (simp; omega) | omega))) | rw [row_drewN] | rw [row_drew])); (first | done | fail))
  clear hOm hb3 hYm em HWo hmm c0 c10 hM hL
  have k0 : (w3.alloc (.cells (headC v.hd) 40)).cell? ⟨w3.heap.size, 0, none⟩ = some (.int .u64 (v.hd.gen : Int)) := row_cell r4 0
  have f0 := row_frozen r4 0
  go_upto_region 14 with fail
  refine of_worldV (fun W => row W w3.heap.size = some (headC ⟨g', v.hd.area, v.hd.snap, v.hd.log, v.hd.all⟩) ∧ Below w3.heap.size w3 W) ⟨(row_at _ _ _ _ rfl).trans rfl, (by (repeat (first | exact Below.refl _ _ | assumption | (refine Below.allocT ?_ _) | refine Below.drew ?_ | refine below_drewN ?_ _ | (refine Below.then ?_ (by assumption)) | (refine Below.setRow ?_ ?_ _; rotate_left; (focus (first | exact Nat.lt_succ_self _ | ((repeat rw [World.size_alloc]); omega) | (simp; done) | (simp; omega) | omega))) | (refine Below.setCell ?_ ?_ _; rotate_left; (focus (first | exact Nat.lt_succ_self _ | ((repeat rw [World.size_alloc]); omega) | (simp; done) | (simp; omega) | omega))) | (refine Below.then' ?_ (by assumption) ?_; rotate_left; (focus (first | exact Nat.lt_succ_self _ | ((repeat rw [World.size_alloc]); omega) | (simp; done) | (simp; omega) | omega))) | fail)); (first | done | fail))⟩ ?_
  intro w5 hW5
  have r5 := hW5.1
  have k3 : w5.cell? ⟨w3.heap.size, 3, none⟩ = some (.int .i64 (v.hd.log : Int)) := row_cell r5 3
  have f3 := row_frozen r5 3
  have HW5 := Lib.hid hW5
  clear r4 k0 f0 hW5 r5
  go_upto_region 15 with fail
  refine of_worldV (fun W => row W w3.heap.size = some (headC ⟨g', v.hd.area, v.hd.snap, l', v.hd.all⟩) ∧ Below w3.heap.size w3 W) ⟨(row_set HW5.out.1 3 _).trans rfl, Below.setCell HW5.out.2 (p := ⟨w3.heap.size, 3, none⟩) (Nat.le_refl _) _⟩ ?_
  intro w6 hW6
  have r6 := hW6.1
  have k4 : w6.cell? ⟨w3.heap.size, 4, none⟩ = some (.int .i64 (v.hd.all : Int)) := row_cell r6 4
  have f4 := row_frozen r6 4
  have HW6 := Lib.hid hW6
  clear k3 f3 hW6 HW5 r6
  go_upto_region 16 with fail
  refine of_worldV (fun W => row W w3.heap.size = some (headC ⟨g', v.hd.area, v.hd.snap, l', a'⟩) ∧ Below w3.heap.size w3 W) ⟨(row_set HW6.out.1 4 _).trans rfl, Below.setCell HW6.out.2 (p := ⟨w3.heap.size, 4, none⟩) (Nat.le_refl _) _⟩ ?_
  intro w7 hW7
  have HW7 := Lib.hid hW7
  clear k4 f4 hW7 HW6
  have HM7 : Hid (∀ W, Below w7.heap.size w7 W → (W.cell? ⟨w3.heap.size, 2, none⟩ = some (.int .i64 (v.hd.snap : Int)) ∧ W.cell? ⟨w3.heap.size, 3, none⟩ = some (.int .i64 (l' : Int)) ∧ W.cell? ⟨gv, 6, none⟩ = some (.int .i64 (room : Int)) ∧ W.cell? ⟨w3.heap.size, 1, none⟩ = some (.int .i64 (v.hd.area : Int))) ∧ row W w3.heap.size = some (headC ⟨g', v.hd.area, v.hd.snap, l', a'⟩) ∧ row W gv = some (rawC v.hd g room (.slice x.a7 v.snap.length x.c7) (.slice x.a8 v.log.length x.c8) (.slice x.a9 x.rs.length x.c9) false)) := Lib.hid fun W hb => by
    have hr := (row_below hb (row_lt HW7.out.1)).trans HW7.out.1
    have hq := (row_below (Below.then HW7.out.2 hb) (row_lt HQ3.out)).trans HQ3.out
    exact ⟨⟨row_cell hr 2, row_cell hr 3, row_cell hq 6, row_cell hr 1⟩, hr, hq⟩
  have E4 : IntKind.i64.wrap ((sn : Int) + (sl : Int)) = (sn : Int) + (sl : Int) := IntWalk.i64_in _ (by omega)
  go_region_held3 (fun W => W.cell? ⟨w3.heap.size, 2, none⟩ = some (.int .i64 (v.hd.snap : Int)) ∧ W.cell? ⟨w3.heap.size, 3, none⟩ = some (.int .i64 (l' : Int)) ∧ W.cell? ⟨gv, 6, none⟩ = some (.int .i64 (room : Int)) ∧ W.cell? ⟨w3.heap.size, 1, none⟩ = some (.int .i64 (v.hd.area : Int))) (exact (HM7.out _ (by (repeat (first | exact Below.refl _ _ | assumption | (refine Below.allocT ?_ _) | refine Below.drew ?_ | refine below_drewN ?_ _ | (refine Below.then ?_ (by assumption)) | (refine Below.setRow ?_ ?_ _; rotate_left; (focus (first | exact Nat.lt_succ_self _ | ((repeat rw [World.size_alloc]); omega) | (simp; done) | (simp; omega) | omega))) | (refine Below.setCell ?_ ?_ _; rotate_left; (focus (first | exact Nat.lt_succ_self _ | ((repeat rw [World.size_alloc]); omega) | (simp; done) | (simp; omega) | omega))) | (refine Below.then' ?_ (by assumption) ?_; rotate_left; (focus (first | exact Nat.lt_succ_self _ | ((repeat rw [World.size_alloc]); omega) | (simp; done) | (simp; omega) | omega))) | fail)); (first | done | fail))).1) (first
    | (go_at_call_of 28 v; refine ((HSc.out _ _).1 rfl).mono ?_; rintro e w8 ⟨rfl, rfl⟩)
    | (go_at_call_of 28 l'; refine ((HSc.out _ _).2 rfl).mono ?_; rintro e w8 ⟨rfl, rfl⟩))
  by_cases hfit : sn + sl ≤ room
  rotate_left
  · have z3 : (room : Int) < (sn : Int) + (sl : Int) := by omega
    clear E1 E2 E3
    go_wp2_with fail
    go_ret
    exact ⟨fun h => absurd h hfit, fun _ => ⟨rfl, Below.then HB3.out (Below.then HW7.out.2 (show Below w7.heap.size w7 _ from (by (repeat (first | exact Below.refl _ _ | assumption | (refine Below.allocT ?_ _) | refine Below.drew ?_ | refine below_drewN ?_ _ | (refine Below.then ?_ (by assumption)) | (refine Below.setRow ?_ ?_ _; rotate_left; (focus (first | exact Nat.lt_succ_self _ | ((repeat rw [World.size_alloc]); omega) | (simp; done) | (simp; omega) | omega))) | (refine Below.setCell ?_ ?_ _; rotate_left; (focus (first | exact Nat.lt_succ_self _ | ((repeat rw [World.size_alloc]); omega) | (simp; done) | (simp; omega) | omega))) | (refine Below.then' ?_ (by assumption) ?_; rotate_left; (focus (first | exact Nat.lt_succ_self _ | ((repeat rw [World.size_alloc]); omega) | (simp; done) | (simp; omega) | omega))) | fail)); (first | done | fail))))⟩⟩
  · have z3 : ¬ (room : Int) < (sn : Int) + (sl : Int) := by omega
    clear E1 E2 E3
    go_upto_region 18 with fail
    refine of_worldV (fun W => Below w7.heap.size w7 W) (by (repeat (first | exact Below.refl _ _ | assumption | (refine Below.allocT ?_ _) | refine Below.drew ?_ | refine below_drewN ?_ _ | (refine Below.then ?_ (by assumption)) | (refine Below.setRow ?_ ?_ _; rotate_left; (focus (first | exact Nat.lt_succ_self _ | ((repeat rw [World.size_alloc]); omega) | (simp; done) | (simp; omega) | omega))) | (refine Below.setCell ?_ ?_ _; rotate_left; (focus (first | exact Nat.lt_succ_self _ | ((repeat rw [World.size_alloc]); omega) | (simp; done) | (simp; omega) | omega))) | (refine Below.then' ?_ (by assumption) ?_; rotate_left; (focus (first | exact Nat.lt_succ_self _ | ((repeat rw [World.size_alloc]); omega) | (simp; done) | (simp; omega) | omega))) | fail)); (first | done | fail)) ?_
    intro w8 hB8
    have HB8 := Lib.hid hB8
    have q8 := (HM7.out _ hB8).2.2
    have k8 : w8.cell? ⟨gv, 8, none⟩ = some (.slice x.a8 v.log.length x.c8) := row_cell q8 8
    have HWv := Lib.hid (Below.then HB3.out (Below.then HW7.out.2 hB8))
    have HY8 := Lib.hid (H0.out.2.vt.log.below HWv.out (Nat.le_refl _))
    have HYm8 := Lib.hid ((HYm.out.stay HW7.out.2).stay hB8)
    have HLog : Hid (v.log.length = L) := Lib.hid HL.out.symm
    have HMl : Hid ((rawF bs).length = M) := Lib.hid HM.out.symm
    clear hB8 q8
    go_upto_region 19 with (first
      | (at_builtin; refine wpList_appb rfl _ _ rfl (.slice none 0 0) [] v.log x.a8 v.log.length x.c8 (OwnB.nil _) HY8.out rfl rfl rfl (by rw [HLog.out, List.length_nil]; omega) ?_; intro v9 w9 hA9; have hb9 : Below w8.heap.size w8 w9 := (Below.refl _ _).grown hA9.2.1 (Nat.le_refl _) (fun k hk => by cases hk))
      | (at_builtin; refine wpList_appb rfl _ _ rfl v9 ([] ++ v.log) (rawF bs) Am M cm hA9.1 (HYm8.out.stay hb9) rfl rfl HMl.out (by rw [List.nil_append, HLog.out, HMl.out]; omega) ?_; intro v10 w10 hA10))
    obtain ⟨bb, boff, cb, hv10, hyb, hcb1, hcb2, hbb, hb10⟩ := app_twice hA9 hA10 (by rw [HMl.out]; omega) HLl.out
    subst hv10
    have HYb := Lib.hid hyb
    have HBb := Lib.hid hbb
    have HB10 := Lib.hid (Below.then HB8.out hb10)
    have HWt := Lib.hid (Below.then HWv.out hb10)
    have hq10 := HM7.out _ HB10.out
    have k8' : w10.cell? ⟨gv, 8, none⟩ = some (.slice x.a8 L x.c8) := (row_cell hq10.2.2 8).trans (by rw [← HLog.out]; rfl)
    have y3 : ¬ cb = lo := by have := HG'.out.2.1; omega
    clear hA9 hA10 hb9 hyb hbb hb10 hq10 k8
    go_upto_region 20 with fail
    go_region_held3 (fun W => W.cell? ⟨w3.heap.size, 2, none⟩ = some (.int .i64 (v.hd.snap : Int)) ∧ W.cell? ⟨w3.heap.size, 1, none⟩ = some (.int .i64 (v.hd.area : Int))) (exact (fun h => ⟨h.1, h.2.2.2⟩) (HM7.out _ (Below.then HB10.out (by (repeat (first | exact Below.refl _ _ | assumption | (refine Below.allocT ?_ _) | refine Below.drew ?_ | refine below_drewN ?_ _ | (refine Below.then ?_ (by assumption)) | (refine Below.setRow ?_ ?_ _; rotate_left; (focus (first | exact Nat.lt_succ_self _ | ((repeat rw [World.size_alloc]); omega) | (simp; done) | (simp; omega) | omega))) | (refine Below.setCell ?_ ?_ _; rotate_left; (focus (first | exact Nat.lt_succ_self _ | ((repeat rw [World.size_alloc]); omega) | (simp; done) | (simp; omega) | omega))) | (refine Below.then' ?_ (by assumption) ?_; rotate_left; (focus (first | exact Nat.lt_succ_self _ | ((repeat rw [World.size_alloc]); omega) | (simp; done) | (simp; omega) | omega))) | fail)); (first | done | fail)))).1) (first
      | (go_at_call 28; refine ((HSc.out _ _).1 rfl).mono ?_; rintro e w11 ⟨rfl, rfl⟩)
      | (go_at_call 29; refine (HBg.out _ (Below.then HWt.out (by (repeat (first | exact Below.refl _ _ | assumption | (refine Below.allocT ?_ _) | refine Below.drew ?_ | refine below_drewN ?_ _ | (refine Below.then ?_ (by assumption)) | (refine Below.setRow ?_ ?_ _; rotate_left; (focus (first | exact Nat.lt_succ_self _ | ((repeat rw [World.size_alloc]); omega) | (simp; done) | (simp; omega) | omega))) | (refine Below.setCell ?_ ?_ _; rotate_left; (focus (first | exact Nat.lt_succ_self _ | ((repeat rw [World.size_alloc]); omega) | (simp; done) | (simp; omega) | omega))) | (refine Below.then' ?_ (by assumption) ?_; rotate_left; (focus (first | exact Nat.lt_succ_self _ | ((repeat rw [World.size_alloc]); omega) | (simp; done) | (simp; omega) | omega))) | fail)); (first | done | fail)))).mono ?_; rintro e w11 ⟨rfl, rfl⟩))
    go_upto_region 21 with fail
    refine of_worldV (fun W => Below w10.heap.size w10 W) (by (repeat (first | exact Below.refl _ _ | assumption | (refine Below.allocT ?_ _) | refine Below.drew ?_ | refine below_drewN ?_ _ | (refine Below.then ?_ (by assumption)) | (refine Below.setRow ?_ ?_ _; rotate_left; (focus (first | exact Nat.lt_succ_self _ | ((repeat rw [World.size_alloc]); omega) | (simp; done) | (simp; omega) | omega))) | (refine Below.setCell ?_ ?_ _; rotate_left; (focus (first | exact Nat.lt_succ_self _ | ((repeat rw [World.size_alloc]); omega) | (simp; done) | (simp; omega) | omega))) | (refine Below.then' ?_ (by assumption) ?_; rotate_left; (focus (first | exact Nat.lt_succ_self _ | ((repeat rw [World.size_alloc]); omega) | (simp; done) | (simp; omega) | omega))) | fail)); (first | done | fail)) ?_
    intro w11 hB11
    have HB11 := Lib.hid hB11
    have HWu := Lib.hid (Below.then HWt.out hB11)
    have HR11 := Lib.hid (HM7.out _ (Below.then HB10.out hB11)).2.1
    have hx2 : Hid (∀ W, Chg (fun x => PS g gs pv A x ∨ x = gv) w11 W → row W w3.heap.size = some (headC ⟨g', v.hd.area, v.hd.snap, l', a'⟩)) := Lib.hid fun W hc => (hc.row (row_lt HR11.out) (fun hx => by
      have h3 := HB3.out.size
      rcases hx with hx | hx
      · have h4 := H0.out.2.pl.blocks _ hx
        omega
      · omega)).trans HR11.out
    have HY11 := Lib.hid (HYb.out.stay hB11)
    have HBbw : Hid (w.heap.size ≤ bb) := Lib.hid (Nat.le_trans HWv.out.size HBb.out)
    clear hB11 k8'
    go_region_held3 (fun W => row W w3.heap.size = some (headC ⟨g', v.hd.area, v.hd.snap, l', a'⟩)) (first | exact hx2.out _ hC6 | exact hx2.out _ (Chg.of_below (show Below w11.heap.size w11 _ from (by (repeat (first | exact Below.refl _ _ | assumption | (refine Below.allocT ?_ _) | refine Below.drew ?_ | refine below_drewN ?_ _ | (refine Below.then ?_ (by assumption)) | (refine Below.setRow ?_ ?_ _; rotate_left; (focus (first | exact Nat.lt_succ_self _ | ((repeat rw [World.size_alloc]); omega) | (simp; done) | (simp; omega) | omega))) | (refine Below.setCell ?_ ?_ _; rotate_left; (focus (first | exact Nat.lt_succ_self _ | ((repeat rw [World.size_alloc]); omega) | (simp; done) | (simp; omega) | omega))) | (refine Below.then' ?_ (by assumption) ?_; rotate_left; (focus (first | exact Nat.lt_succ_self _ | ((repeat rw [World.size_alloc]); omega) | (simp; done) | (simp; omega) | omega))) | fail)); (first | done | fail))) (Nat.le_refl _))) ((go_at_call 30; refine (HCm.out hfit _ _ bb boff cb (Below.then HWu.out (by (repeat (first | exact Below.refl _ _ | assumption | (refine Below.allocT ?_ _) | refine Below.drew ?_ | refine below_drewN ?_ _ | (refine Below.then ?_ (by assumption)) | (refine Below.setRow ?_ ?_ _; rotate_left; (focus (first | exact Nat.lt_succ_self _ | ((repeat rw [World.size_alloc]); omega) | (simp; done) | (simp; omega) | omega))) | (refine Below.setCell ?_ ?_ _; rotate_left; (focus (first | exact Nat.lt_succ_self _ | ((repeat rw [World.size_alloc]); omega) | (simp; done) | (simp; omega) | omega))) | (refine Below.then' ?_ (by assumption) ?_; rotate_left; (focus (first | exact Nat.lt_succ_self _ | ((repeat rw [World.size_alloc]); omega) | (simp; done) | (simp; omega) | omega))) | fail)); (first | done | fail))) HBbw.out (HY11.out.stay (by (repeat (first | exact Below.refl _ _ | assumption | (refine Below.allocT ?_ _) | refine Below.drew ?_ | refine below_drewN ?_ _ | (refine Below.then ?_ (by assumption)) | (refine Below.setRow ?_ ?_ _; rotate_left; (focus (first | exact Nat.lt_succ_self _ | ((repeat rw [World.size_alloc]); omega) | (simp; done) | (simp; omega) | omega))) | (refine Below.setCell ?_ ?_ _; rotate_left; (focus (first | exact Nat.lt_succ_self _ | ((repeat rw [World.size_alloc]); omega) | (simp; done) | (simp; omega) | omega))) | (refine Below.then' ?_ (by assumption) ?_; rotate_left; (focus (first | exact Nat.lt_succ_self _ | ((repeat rw [World.size_alloc]); omega) | (simp; done) | (simp; omega) | omega))) | fail)); (first | done | fail))) hcb1 hcb2 (by (repeat (first | assumption | (refine row_at _ _ _ _ ?_; first | rfl | (simp only [World.size_alloc]; done) | (simp only [World.size_alloc]; omega)) | (refine (row_past _ _ _ ?_).trans ?_; (focus (first | exact Nat.lt_succ_self _ | ((repeat rw [World.size_alloc]); omega) | (simp; done) | (simp; omega) | omega))) | rw [row_drewN] | rw [row_drew])); (first | done | fail))).mono ?_; intro e w12 hC; have hC2 := hC.before (show Below w11.heap.size w11 _ from (by (repeat (first | exact Below.refl _ _ | assumption | (refine Below.allocT ?_ _) | refine Below.drew ?_ | refine below_drewN ?_ _ | (refine Below.then ?_ (by assumption)) | (refine Below.setRow ?_ ?_ _; rotate_left; (focus (first | exact Nat.lt_succ_self _ | ((repeat rw [World.size_alloc]); omega) | (simp; done) | (simp; omega) | omega))) | (refine Below.setCell ?_ ?_ _; rotate_left; (focus (first | exact Nat.lt_succ_self _ | ((repeat rw [World.size_alloc]); omega) | (simp; done) | (simp; omega) | omega))) | (refine Below.then' ?_ (by assumption) ?_; rotate_left; (focus (first | exact Nat.lt_succ_self _ | ((repeat rw [World.size_alloc]); omega) | (simp; done) | (simp; omega) | omega))) | fail)); (first | done | fail))); have hC3 := hC2.before HWu.out; obtain ⟨rfl, hPl', hC7, hz, hnz⟩ := hC3; have hC6 := hC2.2.2.1))
    have HC6 := Lib.hid hC6
    have HC7 := Lib.hid hC7
    have HPl := Lib.hid hPl'
    have HPl2 := Lib.hid hC2.2.1
    have HZ := Lib.hid (And.intro hz hnz)
    have HGl := Lib.hid hgl
    clear hC hC2 hC6 hC7 hPl' hz hnz hx2 HCm HBg HSc HIs
    rcases HCc.out with hp0 | hp0
    · have HP0 := Lib.hid hp0
      have q12 := HZ.out.1 hp0
      have k8 : w12.cell? ⟨gv, 8, none⟩ = some (.slice x.a8 v.log.length x.c8) := row_cell q12 8
      have f8 := row_frozen q12 8
      have HQ12 := Lib.hid q12
      have HAp : Hid ((appV v bs).hd = ⟨g', v.hd.area, v.hd.snap, l', a'⟩) := Lib.hid (by
        show (⟨v.hd.gen + 1, v.hd.area, v.hd.snap, (v.log ++ rawF bs).length, v.hd.all + 1⟩ : Hd) = _
        rw [HLl.out, HG'.out.1, HG'.out.2.2])
      rw [hp0]
      clear hp0 q12
      go_upto_region 25 with fail
      refine of_worldV (fun W => row W gv = some (rawC ⟨g', v.hd.area, v.hd.snap, l', a'⟩ g room (.slice x.a7 v.snap.length x.c7) (.slice (some ⟨bb, boff, none⟩) l' cb) (.slice x.a9 x.rs.length x.c9) false) ∧ Chg (only gv) w12 W) ⟨(row_set HQ12.out 8 _).trans rfl, only_set gv 8 _⟩ ?_
      intro w13 hW13
      have HW13 := Lib.hid hW13
      have k13 : w13.cell? ⟨gv, 9, none⟩ = some (.slice x.a9 x.rs.length x.c9) := row_cell hW13.1 9
      have f13 := row_frozen hW13.1 9
      have HD13 := Lib.hid ((H0.out.2.pl.blocks) |> fun _ => (HDw.out.chg HC7.out (fun a ha hx => HDn.out a ha (hx.imp id .inl))).chg hW13.2 (fun a ha hx => HDn.out a ha (.inr (.inl hx))))
      have HI13 := Lib.hid ((H0.out.2.vt.recsIn.chg2 HC7.out (fun k hk hx => by
        rcases hx with hx | hx
        · exact H0.out.2.far k (.inl (.inr hk)) hx
        · exact H0.out.2.vt.ne (by rw [← hx]; exact hk)) (fun r hr hpos a ha hx => by
        rcases hx with hx | hx
        · exact H0.out.2.far _ (.inr (.inr (.inr ⟨r, hr, hpos, a, ha, rfl⟩))) hx
        · exact H0.out.2.vt.db _ (.inr (.inr ⟨r, hr, hpos, a, ha, rfl⟩)) (.inl hx))).chg2 hW13.2 (fun k hk hx => H0.out.2.vt.ne (by have e : k = gv := hx; rw [← e]; exact hk)) (fun r hr hpos a ha hx => H0.out.2.vt.db _ (.inr (.inr ⟨r, hr, hpos, a, ha, rfl⟩)) (.inl hx)))
      have hgl13 : gv < w13.heap.size := row_lt hW13.1
      have hrl : x.rs.length < 100000 := by
        have := congrArg List.length H0.out.2.vt.vals
        rw [List.length_map] at this
        omega
      clear k8 f8 hW13
      go_region_law (first
        | (refine step_appbV rfl _ _ (by rfl) (.slice none 0 0) [] bs D n cD (OwnB.nil _) (HD13.out.stay (by (repeat (first | exact Below.refl _ _ | assumption | (refine Below.allocT ?_ _) | refine Below.drew ?_ | refine below_drewN ?_ _ | (refine Below.then ?_ (by assumption)) | (refine Below.setRow ?_ ?_ _; rotate_left; (focus (first | exact Nat.lt_succ_self _ | ((repeat rw [World.size_alloc]); omega) | (simp; done) | (simp; omega) | omega))) | (refine Below.setCell ?_ ?_ _; rotate_left; (focus (first | exact Nat.lt_succ_self _ | ((repeat rw [World.size_alloc]); omega) | (simp; done) | (simp; omega) | omega))) | (refine Below.then' ?_ (by assumption) ?_; rotate_left; (focus (first | exact Nat.lt_succ_self _ | ((repeat rw [World.size_alloc]); omega) | (simp; done) | (simp; omega) | omega))) | fail)); (first | done | fail))) (by rfl) (by rfl) HBs.out (by rw [HBs.out, List.length_nil]; omega) ?_; intro v14 w14 hA14; obtain ⟨A14, c14, hv14, hy14, hn14, hb14'⟩ := app_copy hA14 HBs.out; subst hv14; have hb14 := Below.then (show Below w13.heap.size w13 _ from (by (repeat (first | exact Below.refl _ _ | assumption | (refine Below.allocT ?_ _) | refine Below.drew ?_ | refine below_drewN ?_ _ | (refine Below.then ?_ (by assumption)) | (refine Below.setRow ?_ ?_ _; rotate_left; (focus (first | exact Nat.lt_succ_self _ | ((repeat rw [World.size_alloc]); omega) | (simp; done) | (simp; omega) | omega))) | (refine Below.setCell ?_ ?_ _; rotate_left; (focus (first | exact Nat.lt_succ_self _ | ((repeat rw [World.size_alloc]); omega) | (simp; done) | (simp; omega) | omega))) | (refine Below.then' ?_ (by assumption) ?_; rotate_left; (focus (first | exact Nat.lt_succ_self _ | ((repeat rw [World.size_alloc]); omega) | (simp; done) | (simp; omega) | omega))) | fail)); (first | done | fail))) hb14'; have q14 := (row_below hb14 hgl13).trans HW13.out.1; have k14 : w14.cell? ⟨gv, 9, none⟩ = some (.slice x.a9 x.rs.length x.c9) := row_cell q14 9; have k15 : (w14.alloc (.cells #[.slice A14 n c14] 22)).cell? ⟨gv, 9, none⟩ = some (.slice x.a9 x.rs.length x.c9) := row_cell ((row_past _ _ _ (row_lt q14)).trans q14) 9; have r15 : row (w14.alloc (.cells #[.slice A14 n c14] 22)) w14.heap.size = some (recK ⟨A14, c14, bs⟩) := (row_at _ _ _ _ rfl).trans (by rw [← HBs.out]; rfl); have I15 := (HI13.out.stay hb14).stay ((Below.refl w14.heap.size w14).alloc (Nat.le_refl _) (.cells #[.slice A14 n c14] 22)); clear hA14)
        | (refine step_append_d bss_under bs_info rfl (by decide) (by decide) recK_size recK_one rfl _ _ (by rfl) 0 (.slice x.a9 x.rs.length x.c9) x.rs (by rfl) I15.own w14.heap.size 1 ⟨A14, c14, bs⟩ (by rfl) r15 x.rs.length rfl (by omega) (Nat.zero_le _) ?_; intro Aq cq w16 hO16 hg16 hor16; have k16 : w16.cell? ⟨gv, 9, none⟩ = some (.slice x.a9 x.rs.length x.c9) := (hg16.cell_far ⟨gv, 9, none⟩ (row_lt ((row_past _ _ _ (row_lt q14)).trans q14)) (fun e => H0.out.2.vt.ne e.symm)).trans k15; have f16 : w16.frozen? ⟨gv, 9, none⟩ = false := (hg16.frozen_far ⟨gv, 9, none⟩ (row_lt ((row_past _ _ _ (row_lt q14)).trans q14)) (fun e => H0.out.2.vt.ne e.symm)).trans (row_frozen ((row_past _ _ _ (row_lt q14)).trans q14) 9)))
      all_goals
        have HFn := Lib.hid (And.intro hy14 (And.intro hn14 (And.intro hb14 (And.intro hO16 (And.intro hg16 hor16)))))
        clear k15 r15 I15 k14 q14 hy14 hn14 hb14 hb14' hO16 hg16 hor16 k16 f16 k13 f13
        go_wp2_with fail
        go_ret
        obtain ⟨gs6, pv6, A6, c6, hP6, hF6⟩ := HPl2.out
        refine ⟨fun _ => ⟨by rw [HP0.out]; rfl, fun _ => ?_, fun e => absurd HP0.out e⟩, fun e => absurd hfit e⟩
        exact app_fin (c14 := c14) H0.out.2 HWu.out HC6.out hP6 hF6 HLl.out HY11.out (by have := HG'.out.2.1; omega) HBbw.out HW13.out.2 (by rw [HAp.out]; exact HW13.out.1) HFn.out.1 HFn.out.2.1 HFn.out.2.2.1 ((Below.refl w14.heap.size w14).alloc (Nat.le_refl _) (.cells #[.slice A14 n c14] 22)) HFn.out.2.2.2.1 HFn.out.2.2.2.2.1 HFn.out.2.2.2.2.2
    · have HP0 := Lib.hid hp0
      rw [hp0]
      clear hp0
      go_wp2_with fail
      go_ret
      refine ⟨fun _ => ⟨by rw [HP0.out]; rfl, (fun e => by rw [HP0.out] at e; cases e), fun _ => ?_⟩, fun e => absurd hfit e⟩
      obtain ⟨gs6, pv6, A6, c6, hP6, hF6⟩ := HPl.out
      refine ⟨gs6, pv6, A6, c6, _, _, _, _, hP6, HZ.out.2 (by rw [HP0.out]; decide), fun hx => ?_, fun k hk => (hF6 k hk).imp .inl id, HC7.out.mono (fun k hk => hk.imp id .inl)⟩
      rcases hF6 gv hx with e | e
      · exact HGn.out e
      · have := HGl.out; omega
end Go.Proofs.Ytkkncijbedfdfaa
