/-
  A bit of bytes set: bits.Set, bits.Size and bits.Check at 128.
-/
import Derived.Test.YtnakkjgnjffkpaaBits7
import Derived.IntWalk
namespace Go.Proofs.Ytnakkjgnjffkpaa
open Go.RowKit
set_option linter.unusedVariables false

theorem OwnB.setAt {W : World} {g n c : Nat} {l : List Nat} (h : OwnB W (.slice (some ⟨g, 0, none⟩) n c) l) (q x : Nat) : OwnB (W.setCell ⟨g, q, none⟩ (.int .u8 (x : Int))) (.slice (some ⟨g, 0, none⟩) n c) (l.set q x) := by
  unfold OwnB at h ⊢
  rw [List.length_set, List.map_set]
  refine ⟨by rw [List.length_set]; exact h.1, ?_⟩
  rcases h.2 with ⟨h1, _⟩ | ⟨g', cap', cur, h1, h2, h3, h4, h5, h6, h7⟩
  · cases h1
  · simp only [Value.slice.injEq, Option.some.injEq, Addr.mk.injEq, true_and, and_true] at h1
    obtain ⟨rfl, hn, rfl⟩ := h1
    refine .inr ⟨g, c, cur.setIfInBounds q (.int .u8 (x : Int)), ?_, h2, ?_, h4, h5, by rw [Array.size_setIfInBounds]; exact h6, ?_⟩
    · rw [hn]
    · unfold World.setCell
      simp [Array.getElem?_modify, h3]
    · rw [Array.toList_setIfInBounds, List.take_set, h7]
theorem OwnB.numB {W : World} {A : Option Addr} {n c : Nat} {l : List Nat} (h : OwnB W (.slice A n c) l) : n = l.length := by
  rcases h.2 with ⟨h1, h2⟩ | ⟨g', cap', cur, h1, _⟩
  · cases h1; exact h2.symm
  · cases h1; rfl
theorem OwnB.freeB {W : World} {g n c : Nat} {l : List Nat} (h : OwnB W (.slice (some ⟨g, 0, none⟩) n c) l) (k : Nat) : W.frozen? ⟨g, k, none⟩ = false := by
  rcases h.2 with ⟨h1, _⟩ | ⟨g', cap', cur, h1, h2, h3, _⟩
  · cases h1
  · simp only [Value.slice.injEq, Option.some.injEq, Addr.mk.injEq, true_and, and_true] at h1
    obtain ⟨rfl, _, rfl⟩ := h1
    simp [World.frozen?, h3]
theorem OwnB.cellB {W : World} {g n c : Nat} {l : List Nat} (h : OwnB W (.slice (some ⟨g, 0, none⟩) n c) l) {q : Nat} (hq : q < l.length) : W.cell? ⟨g, q, none⟩ = some (.int .u8 ((l.getD q 0 : Nat) : Int)) := by
  obtain ⟨A', c', e, hB, _⟩ := h.form
  cases e
  obtain ⟨b, off, e, _, hc⟩ := hB (by omega)
  cases e
  have := hc q hq
  rwa [Nat.zero_add] at this
theorem OwnB.blockB {W : World} {A : Option Addr} {n c : Nat} {l : List Nat} (h : OwnB W (.slice A n c) l) (hp : 0 < l.length) : ∃ g, A = some ⟨g, 0, none⟩ := by
  rcases h.2 with ⟨h1, h2⟩ | ⟨g', cap', cur, h1, _⟩
  · omega
  · cases h1; exact ⟨g', rfl⟩
/-- append of bytes, of a type with a name of its own. -/
theorem run_appbT {t : TypeId} (hu : Try.prog.underlying t = some (.slice 5)) {W : World} {v : Value} {l m : List Nat} (h : OwnB W v l) {A : Option Addr} (ty : TypeId) (c : Nat) (hm : Bys W A m) (hlen : l.length + m.length ≤ 70368744177664) :
    ∃ v' W', (Builtin.append_ #[t, t] ty #[v, .slice A m.length c]).run Try.prog W = .ok v' W' ∧ Appended W v l m v' W' := by
  obtain ⟨i0, hi, hz0, hz1, hz2⟩ := info_parts u8_info
  cases A with
  | none =>
    have h0 : m = [] := by
      rcases Nat.eq_zero_or_pos m.length with h0 | h0
      · exact List.eq_nil_of_length_eq_zero h0
      · obtain ⟨_, _, e, _⟩ := hm h0; cases e
    subst h0
    refine ⟨v, W, ?_, by simpa using h, ⟨rfl, rfl, rfl, Nat.le_refl _, fun _ _ _ => rfl⟩, .inl rfl⟩
    rcases h.2 with ⟨rfl, h0⟩ | ⟨g, cap, cur, rfl, _, _, hnc, _⟩
    · simp [Builtin.append_, run_underlying hu, sizeOf, typeInfo, hi, Builtin.lenOf, Builtin.firstCells]
    · simp [Builtin.append_, run_underlying hu, sizeOf, typeInfo, hi, Builtin.lenOf, Builtin.firstCells, hnc, storeCells]
  | some a =>
    have hnews : ∀ j u, (m.map fun x : Nat => Value.int .u8 ((x : Nat) : Int))[j]? = some u → W.cell? (a.add j) = some u := fun j u hu => by
      have hj : j < m.length := by
        have := (List.getElem?_eq_some_iff.1 hu).1
        simpa using this
      obtain ⟨b, off, e, _, hc⟩ := hm (by omega)
      cases e
      have hadd : (⟨b, off, none⟩ : Addr).add j = ⟨b, off + j, none⟩ := by unfold Addr.add; split <;> simp_all
      rw [hadd, hc j hj, ← hu, List.getElem?_map, List.getD_eq_getElem?_getD, List.getElem?_eq_getElem hj]
      rfl
    obtain ⟨v', W', h1, h2, h3, _, h5⟩ := run_append_own_at (P := Try.prog) W 0 t ty 5 i0 (.int .u8 0) 1 1 hu hi hz0 hz1 hz2 rfl (by decide) v l.length _ h a m.length c (m.map fun x : Nat => Value.int .u8 ((x : Nat) : Int)) (by simp) hnews
      (fun u hu => by obtain ⟨x, _, rfl⟩ := List.mem_map.1 hu; rfl) (by unfold maxLen; omega) (by omega) (by omega)
    refine ⟨v', W', h1, ?_, h3, h5⟩
    unfold OwnB
    rw [List.length_append, List.map_append]
    exact h2
theorem wpList_appbT {t : TypeId} (hu : Try.prog.underlying t = some (.slice 5)) {W : World} {ops : Array Oper} {rest : List Oper} {o : Oper} {a : Act} {Q : Exit → Act → World → Prop} (hgd : o.guard = none) (s x : Operand)
    (ho : o.op = .call { callee := .builtin .append, args := #[s, x], argTypes := #[t, t] })
    (v : Value) (l m : List Nat) (A : Option Addr) (n c : Nat) (h : OwnB W v l) (hm : Bys W A m) (hs : a.eval s = v) (hx : a.eval x = .slice A n c) (hn : m.length = n) (hlen : l.length + m.length ≤ 70368744177664)
    (hk : ∀ v' W', Appended W v l m v' W' → wpList Try.prog ops Q rest (a.put o.dst v') W') : wpList Try.prog ops Q (o :: rest) a W :=
  wpList_plain hgd fun _ hK => by
    subst hn
    obtain ⟨v', W', hr, h2⟩ := run_appbT hu h o.type c hm hlen
    unfold Oper.wp execOp
    simp only [ho, resolve, invoke, builtin, Sem.run_bind, Sem.run_pure, Result.andThen_ok, List.map_toArray, List.map_cons, List.map_nil, hs, hx, hr]
    exact hK _ _ (hk v' W' h2)
theorem size128 (w : World) : Calls Try.prog 86 #[.int .i64 128] w fun e w' => e = .returned (.int .i64 16) ∧ w = w' := by
  go_enter Try.func86, Try.ntmps86
  go_wp2_with fail
  go_ret
  exact ⟨rfl, rfl⟩
def len16 (n : Nat) : Int := if n = 16 then 0 else 60
theorem check128 (A : Option Addr) (n c : Nat) (w : World) : Calls Try.prog 99 #[.slice A n c, .int .i64 128] w fun e w' => e = .returned (.int .i64 (len16 n)) ∧ Below w.heap.size w w' := by
  by_cases h : n = 16
  · subst h
    go_enter Try.func99, Try.ntmps99
    go_wp2_with fail
    refine (size128 _).mono ?_
    rintro e w1 ⟨rfl, rfl⟩
    go_wp2_with fail
    go_ret
    exact ⟨rfl, Below.refl _ _⟩
  · have HV : Hid (len16 n = 60) := Lib.hid (by unfold len16; rw [if_neg h])
    have e1 : ((n : Int) != 16) = true := bne_iff_ne.2 (by omega)
    clear h
    go_enter Try.func99, Try.ntmps99
    go_wp2_with fail
    refine (size128 _).mono ?_
    rintro e w1 ⟨rfl, rfl⟩
    go_wp2_with fail
    go_ret
    exact ⟨by rw [HV.out]; rfl, Below.refl _ _⟩
theorem field_under : Try.prog.underlying 226 = some (.slice 5) := by kernel_rfl
set_option maxRecDepth 100000 in
theorem fown_any (A : Option Addr) (n c : Nat) (bs : List Nat) (hn : bs.length = n) (hm : n ≤ 1000000) (w : World) (hU : Bys w A bs) : Calls Try.prog 139 #[.slice A n c] w (RetB w bs) := by
  have HN := Lib.hid hn
  have HU := Lib.hid hU
  clear hn hU
  go_enter Try.func139, Try.ntmps139
  go_wp2_with (at_builtin; refine wpList_appbT field_under rfl _ _ rfl (.slice none 0 0) [] bs A n c (OwnB.nil _) HU.out rfl rfl HN.out (by rw [HN.out]; simp; omega) ?_; intro v' w1 hAp; have HAp := Lib.hid hAp; clear hAp)
  obtain ⟨A', c', he⟩ := HAp.out.form
  have hz : ([] : List Nat).length + bs.length = bs.length := by simp
  rw [hz] at he
  subst he
  go_ret
  have h1 := HAp.out.1
  rw [List.nil_append] at h1
  refine ⟨A', c', rfl, h1, fun a ha => ?_, (Below.refl _ _).grown HAp.out.2.1 (Nat.le_refl _) (fun k hk => by cases hk)⟩
  subst ha
  rcases HAp.out.2.2 with h | h
  · cases h
  · simp only [Value.ownBlock, Option.some.injEq] at h; omega
def okB (n : Nat) (i : Int) : Bool := decide (0 ≤ i ∧ i / 8 < (n : Int))
def setV (bs : List Nat) (i : Int) : List Nat := if okB bs.length i then setB bs i.toNat else bs
theorem or_bit (x j p : Nat) (hp : p = 2 ^ j) (hx : x < 256) (hj : j < 8) : bits .or .u8 (x : Int) (p : Int) = ((x ||| 2 ^ j : Nat) : Int) := by
  subst hp
  exact (bits_nat .u8 8 (by decide) wraps_u8 x (2 ^ j) (by omega) (Nat.pow_lt_pow_right (by decide) hj)).2
def SetPost (w : World) (bs : List Nat) (i : Int) (e : Ending) (w' : World) : Prop := ∃ A' c', e = .returned (.tuple #[.slice A' bs.length c', .bool (okB bs.length i)]) ∧ OwnB w' (.slice A' bs.length c') (setV bs i) ∧ (∀ a, A' = some a → w.heap.size ≤ a.block) ∧ Below w.heap.size w w'
set_option maxRecDepth 100000 in
set_option maxHeartbeats 4000000 in
theorem bset_any (A : Option Addr) (n c : Nat) (bs : List Nat) (i : Int) (hi : i ≤ 9223372036854775807) (hn : bs.length = n) (hm : n ≤ 1000000) (hb : bytesOk bs) (w : World) (hU : Bys w A bs) : Calls Try.prog 95 #[.slice A n c, .int .i64 i] w (SetPost w bs i) := by
  have HO := Lib.hid (fown_any A n c bs hn hm w hU)
  have HN := Lib.hid hn
  have hN : bs.length = n := hn
  by_cases h : i < 0 ∨ (n : Int) ≤ i / 8
  · have hf : okB bs.length i = false := decide_eq_false fun hh => by rw [hN] at hh; omega
    have HV : Hid (setV bs i = bs ∧ okB bs.length i = false) := Lib.hid ⟨by unfold setV; rw [hf]; rfl, hf⟩
    have HS := Lib.hid (fun B d W => spot_no B n d i hi h W)
    clear h hn hb hU hi hf
    go_enter Try.func95, Try.ntmps95
    go_wp2_with fail
    refine (HO.out).mono ?_
    rintro e w1 ⟨A1, c1, rfl, hO1, hA1, hb1⟩
    rw [hN] at hO1 ⊢
    have HP := Lib.hid (And.intro hO1 (And.intro hA1 hb1))
    clear hO1 hA1 hb1 hN
    go_wp2_with fail
    refine (HS.out _ _ _).mono ?_
    rintro e w2 ⟨rfl, hb2⟩
    have HB2 := Lib.hid hb2
    clear hb2
    go_wp2_with fail
    go_ret2
    exact ⟨A1, c1, by rw [HV.out.2, HN.out]; rfl, by rw [HV.out.1, HN.out]; exact HP.out.1.stay HB2.out, HP.out.2.1, Below.then HP.out.2.2 HB2.out⟩
  · obtain ⟨k, rfl⟩ := Int.eq_ofNat_of_zero_le (show 0 ≤ i by omega)
    have hkn : k / 8 < n := by omega
    have hf : okB bs.length (k : Int) = true := decide_eq_true (by rw [hN]; omega)
    have HV : Hid (setV bs (k : Int) = setB bs k ∧ okB bs.length (k : Int) = true) := Lib.hid ⟨by unfold setV; rw [hf]; rfl, hf⟩
    have HS := Lib.hid (fun B d W => spot_yes B n d k (by omega) hkn W)
    have hx := hb (k / 8)
    have hr : k % 8 < 8 := Nat.mod_lt _ (by omega)
    have HSB : Hid (setB bs k = bs.set (k / 8) (bs.getD (k / 8) 0 ||| 2 ^ (k % 8))) := Lib.hid rfl
    have HOr : Hid (∀ p : Nat, p = 2 ^ (k % 8) → bits .or .u8 ((bs.getD (k / 8) 0 : Nat) : Int) (p : Int) = ((bs.getD (k / 8) 0 ||| 2 ^ (k % 8) : Nat) : Int)) := Lib.hid fun p hp => or_bit _ _ p hp hx hr
    obtain ⟨p, hp⟩ : ∃ p : Nat, p = 2 ^ (k % 8) := ⟨_, rfl⟩
    have e9 := HOr.out p hp
    rw [← hp] at HS
    generalize bs.getD (k / 8) 0 ||| 2 ^ (k % 8) = y at *
    have z0 : (0 : Int) ≤ ((k / 8 : Nat) : Int) := by omega
    have z1 : ((k / 8 : Nat) : Int) < (n : Int) := by omega
    have HQ : Hid (k / 8 < bs.length) := Lib.hid (by rw [hN]; exact hkn)
    obtain ⟨x, hxv⟩ : ∃ x, bs.getD (k / 8) 0 = x := ⟨_, rfl⟩
    have HXv := Lib.hid hxv
    rw [hxv] at e9
    generalize k / 8 = q at *
    clear h hn hb hU hi hf hx hr HOr hp hkn hxv
    go_enter Try.func95, Try.ntmps95
    go_wp2_with fail
    refine (HO.out).mono ?_
    rintro e w1 ⟨A1, c1, rfl, hO1, hA1, hb1⟩
    obtain ⟨g, rfl⟩ := hO1.blockB (by have := HQ.out; omega)
    rw [hN] at hO1 ⊢
    have HP := Lib.hid (And.intro hO1 (And.intro hA1 hb1))
    clear hO1 hA1 hb1 hN HO
    go_wp2_with fail
    refine (HS.out _ _ _).mono ?_
    rintro e w2 ⟨rfl, hb2⟩
    have HO2 := Lib.hid (HP.out.1.stay hb2)
    have HB2 := Lib.hid (Below.then HP.out.2.2 hb2)
    have kc := HO2.out.cellB HQ.out
    rw [HXv.out] at kc
    have kf := HO2.out.freeB q
    clear hb2 HS
    go_wp2_with fail
    go_ret2
    refine ⟨some ⟨g, 0, none⟩, c1, by rw [HV.out.2, HN.out]; rfl, ?_, HP.out.2.1, Below.setCell HB2.out (p := ⟨g, q, none⟩) (show w.heap.size ≤ g from HP.out.2.1 ⟨g, 0, none⟩ rfl) _⟩
    rw [HV.out.1, HSB.out, HN.out]
    exact HO2.out.setAt q y
end Go.Proofs.Ytnakkjgnjffkpaa
