/-
  A bit of bytes set: bits.Set, bits.Size and bits.Check at 128; the reference's Pack, Right and with; their plain law.
  A bit of bytes set: bits.Set, bits.Size and bits.Check at 128.
  The reference's Pack: a bit field of bits.
-/
import Derived.Test.YtnakkjgnjffkpaaBits6
import Derived.Test.YtnakkjgnjffkpaaCoder
import Derived.Test.YtnakkjgnjffkpaaOwnC
import Derived.IntWalk
import Derived.OwnWalk
namespace Go.Proofs.Ytnakkjgnjffkpaa
open Go.RowKit
set_option linter.unusedVariables false

/-! ### The plain law -/
/-- Bytes with bit k set. -/
def setB (bs : List Nat) (k : Nat) : List Nat := bs.set (k / 8) (bs.getD (k / 8) 0 ||| 2 ^ (k % 8))
theorem setB_len (bs : List Nat) (k : Nat) : (setB bs k).length = bs.length := List.length_set ..
theorem or_lt {x r : Nat} (hx : x < 256) (hr : r < 8) : x ||| 2 ^ r < 256 := Nat.or_lt_two_pow (n := 8) hx (Nat.pow_lt_pow_right (by decide) hr)
theorem setB_ok {bs : List Nat} (h : bytesOk bs) (k : Nat) : bytesOk (setB bs k) := .of fun x hx => by
  rcases List.mem_or_eq_of_mem_set hx with hx | rfl
  · exact h.mem x hx
  · exact or_lt (h _) (Nat.mod_lt _ (by omega))
/-- A number of bits, the lowest first. -/
def valB : List Bool → Nat
  | [] => 0
  | b :: r => b.toNat + 2 * valB r
theorem valB_lt : ∀ l : List Bool, valB l < 2 ^ l.length
  | [] => by simp [valB]
  | b :: r => by
    have := valB_lt r
    have hb : b.toNat ≤ 1 := by cases b <;> simp
    rw [valB, List.length_cons, Nat.pow_succ]; omega
/-- What Pack has behind bit i, from the end. -/
def packAt (l : List Bool) (i j : Nat) : Nat := valB ((l.drop (max i (8 * j))).take (8 * j + 8 - max i (8 * j)))
def packN (l : List Bool) (n i : Nat) : List Nat := (List.range n).map (packAt l i)
theorem packN_len (l : List Bool) (n i : Nat) : (packN l n i).length = n := by simp [packN]
theorem packN_at (l : List Bool) (n i j : Nat) (h : j < n) : (packN l n i).getD j 0 = packAt l i j := by
  rw [List.getD_eq_getElem?_getD]
  unfold packN
  rw [List.getElem?_map, List.getElem?_range h]; rfl
theorem packAt_end (l : List Bool) (j : Nat) : packAt l l.length j = 0 := by
  unfold packAt
  rw [List.drop_eq_nil_of_le (by omega)]; simp [valB]
theorem packAt_far {l : List Bool} {i j : Nat} (h : j ≠ i / 8) : packAt l i j = packAt l (i + 1) j := by
  unfold packAt
  by_cases h1 : i < 8 * j
  · rw [show max i (8 * j) = 8 * j by omega, show max (i + 1) (8 * j) = 8 * j by omega]
  · have h2 : 8 * j + 8 ≤ i := by omega
    rw [show 8 * j + 8 - max i (8 * j) = 0 by omega, show 8 * j + 8 - max (i + 1) (8 * j) = 0 by omega]; simp
theorem packAt_here {l : List Bool} {i : Nat} {b : Bool} (hb : l[i]? = some b) : packAt l i (i / 8) = b.toNat + 2 * packAt l (i + 1) (i / 8) := by
  obtain ⟨hi, rfl⟩ := List.getElem?_eq_some_iff.1 hb
  unfold packAt
  rw [show max i (8 * (i / 8)) = i by omega, show max (i + 1) (8 * (i / 8)) = i + 1 by omega, List.drop_eq_getElem_cons hi, show 8 * (i / 8) + 8 - i = (8 * (i / 8) + 8 - (i + 1)) + 1 by omega, List.take_succ_cons, valB]
theorem packAt_low (l : List Bool) (i : Nat) : packAt l (i + 1) (i / 8) < 128 := by
  unfold packAt
  have h := valB_lt ((l.drop (max (i + 1) (8 * (i / 8)))).take (8 * (i / 8) + 8 - max (i + 1) (8 * (i / 8))))
  have h2 := List.length_take_le (8 * (i / 8) + 8 - max (i + 1) (8 * (i / 8))) (l.drop (max (i + 1) (8 * (i / 8))))
  have h3 : 2 ^ ((l.drop (max (i + 1) (8 * (i / 8)))).take (8 * (i / 8) + 8 - max (i + 1) (8 * (i / 8)))).length ≤ 2 ^ 7 := Nat.pow_le_pow_right (by omega) (by omega)
  omega
theorem packN_step {l : List Bool} {n i : Nat} {b : Bool} (hn : i / 8 < n) (hb : l[i]? = some b) : packN l n i = (packN l n (i + 1)).set (i / 8) (2 * packAt l (i + 1) (i / 8) + b.toNat) := by
  refine List.ext_getElem? fun k => ?_
  rw [List.getElem?_set]
  unfold packN
  by_cases hk : i / 8 = k
  · subst hk
    rw [if_pos rfl, List.getElem?_map, List.getElem?_range hn, if_pos (by simpa using hn)]
    show some _ = some _
    rw [packAt_here hb, Nat.add_comm]
  · rw [if_neg hk, List.getElem?_map, List.getElem?_map]
    rcases Nat.lt_or_ge k n with h | h
    · rw [List.getElem?_range h]
      show some _ = some _
      rw [packAt_far (fun e => hk e.symm)]
    · rw [List.getElem?_eq_none (by simpa using h)]; rfl
theorem packN_zero (l : List Bool) (n : Nat) : packN l n l.length = List.replicate n 0 := by
  unfold packN
  refine List.ext_getElem? fun k => ?_
  rw [List.getElem?_map]
  rcases Nat.lt_or_ge k n with h | h
  · rw [List.getElem?_range h, List.getElem?_replicate, if_pos h]
    show some _ = _
    rw [packAt_end]
  · rw [List.getElem?_eq_none (by simpa using h), List.getElem?_eq_none (by simpa using h)]; rfl
/-- The bits of bytes, and one more. -/
def withL (bs : List Nat) (i : Int) (n : Nat) : List Bool := (List.range n).map fun k : Nat => decide ((k : Int) = i) || getB bs (k : Int)
theorem withL_len (bs : List Nat) (i : Int) (n : Nat) : (withL bs i n).length = n := by simp [withL]
theorem val8_set : ∀ x < 256, ∀ r < 8, valB ((List.range 8).map fun t => decide (t = r) || x.testBit t) = x ||| 2 ^ r := by decide +kernel
theorem val8_same : ∀ x < 256, valB ((List.range 8).map fun t => x.testBit t) = x := by decide +kernel
theorem drop_map_range (f : Nat → Bool) (n j : Nat) (h : 8 * j + 8 ≤ n) : (((List.range n).map f).drop (8 * j)).take 8 = (List.range 8).map fun t => f (8 * j + t) := by
  refine List.ext_getElem? fun k => ?_
  rw [List.getElem?_take, List.getElem?_map]
  split
  · rename_i hk
    rw [List.getElem?_drop, List.getElem?_map, List.getElem?_range (by omega), List.getElem?_range hk]; rfl
  · rename_i hk
    rw [List.getElem?_eq_none (by simpa using hk)]; rfl
theorem packN_with {bs : List Nat} (hok : bytesOk bs) {k : Nat} (hk : k / 8 < bs.length) : packN (withL bs (k : Int) (8 * bs.length)) bs.length 0 = setB bs k := by
  refine List.ext_getElem? fun j => ?_
  unfold packN setB
  rw [List.getElem?_map, List.getElem?_set]
  rcases Nat.lt_or_ge j bs.length with hj | hj
  · rw [List.getElem?_range hj]
    show some (packAt _ 0 j) = _
    have e : packAt (withL bs (k : Int) (8 * bs.length)) 0 j = valB ((List.range 8).map fun t => decide (((8 * j + t : Nat) : Int) = (k : Int)) || getB bs ((8 * j + t : Nat) : Int)) := by
      unfold packAt withL
      rw [show max 0 (8 * j) = 8 * j by omega, show 8 * j + 8 - 8 * j = 8 by omega, drop_map_range _ _ _ (by omega)]
    have hb : ∀ t, t < 8 → getB bs ((8 * j + t : Nat) : Int) = (bs.getD j 0).testBit t := fun t ht => by
      rw [getB_nat, show (8 * j + t) / 8 = j by omega, show (8 * j + t) % 8 = t by omega]
    rw [e]
    by_cases he : k / 8 = j
    · rw [if_pos he, if_pos hk]
      subst he
      refine congrArg some ((congrArg valB (List.map_congr_left fun t ht => ?_)).trans (val8_set (bs.getD (k / 8) 0) (hok (k / 8)) (k % 8) (Nat.mod_lt _ (by omega))))
      have ht8 : t < 8 := List.mem_range.1 ht
      rw [hb t ht8]
      congr 1
      rw [Bool.eq_iff_iff]
      simp only [decide_eq_true_eq]
      omega
    · rw [if_neg he, List.getElem?_eq_getElem hj]
      have hx : bs[j] = bs.getD j 0 := by rw [List.getD_eq_getElem?_getD, List.getElem?_eq_getElem hj]; rfl
      rw [hx]
      refine congrArg some ((congrArg valB (List.map_congr_left fun t ht => ?_)).trans (val8_same (bs.getD j 0) (hok j)))
      have ht8 : t < 8 := List.mem_range.1 ht
      have hd : decide (((8 * j + t : Nat) : Int) = (k : Int)) = false := decide_eq_false (by omega)
      rw [hb t ht8, hd, Bool.false_or]
  · rw [List.getElem?_eq_none (by simpa using hj)]
    have : k / 8 ≠ j := by omega
    rw [if_neg this, List.getElem?_eq_none hj]; rfl
end Go.Proofs.Ytnakkjgnjffkpaa

namespace Go.Proofs.Ytnakkjgnjffkpaa
open Go.RowKit
set_option linter.unusedVariables false

theorem OwnB.setAt {W : World} {g n c : Nat} {l : List Nat} (h : OwnB W (.slice (some ⟨g, 0, none⟩) n c) l) (q x : Nat) : OwnB (W.setCell ⟨g, q, none⟩ (.int .u8 (x : Int))) (.slice (some ⟨g, 0, none⟩) n c) (l.set q x) := by
  unfold OwnB at h ⊢
  rw [List.length_set, List.map_set]
  refine ⟨by rw [List.length_set]; exact h.1, ?_⟩
  rcases h.2 with ⟨h1, _⟩ | ⟨g', cap', cur, h1, h2, h3, h4, h5, h6, h7⟩
  · cases h1
  · simp only [Value.slice.injEq, Option.some.injEq, Addr.mk.injEq, true_and, and_true] at h1
    obtain ⟨rfl, hn, rfl⟩ := h1
    refine .inr ⟨g, c, cur.setIfInBounds q (.int .u8 (x : Int)), ?_, h2, ?_, h4, h5, by rw [Array.size_setIfInBounds]; exact h6, ?_⟩
    · rw [hn]
    · unfold World.setCell
      simp [Array.getElem?_modify, h3]
    · rw [Array.toList_setIfInBounds, List.take_set, h7]
theorem OwnB.numB {W : World} {A : Option Addr} {n c : Nat} {l : List Nat} (h : OwnB W (.slice A n c) l) : n = l.length := by
  rcases h.2 with ⟨h1, h2⟩ | ⟨g', cap', cur, h1, _⟩
  · cases h1; exact h2.symm
  · cases h1; rfl
theorem OwnB.freeB {W : World} {g n c : Nat} {l : List Nat} (h : OwnB W (.slice (some ⟨g, 0, none⟩) n c) l) (k : Nat) : W.frozen? ⟨g, k, none⟩ = false := by
  rcases h.2 with ⟨h1, _⟩ | ⟨g', cap', cur, h1, h2, h3, _⟩
  · cases h1
  · simp only [Value.slice.injEq, Option.some.injEq, Addr.mk.injEq, true_and, and_true] at h1
    obtain ⟨rfl, _, rfl⟩ := h1
    simp [World.frozen?, h3]
theorem OwnB.cellB {W : World} {g n c : Nat} {l : List Nat} (h : OwnB W (.slice (some ⟨g, 0, none⟩) n c) l) {q : Nat} (hq : q < l.length) : W.cell? ⟨g, q, none⟩ = some (.int .u8 ((l.getD q 0 : Nat) : Int)) := by
  obtain ⟨A', c', e, hB, _⟩ := h.form
  cases e
  obtain ⟨b, off, e, _, hc⟩ := hB (by omega)
  cases e
  have := hc q hq
  rwa [Nat.zero_add] at this
theorem OwnB.blockB {W : World} {A : Option Addr} {n c : Nat} {l : List Nat} (h : OwnB W (.slice A n c) l) (hp : 0 < l.length) : ∃ g, A = some ⟨g, 0, none⟩ := by
  rcases h.2 with ⟨h1, h2⟩ | ⟨g', cap', cur, h1, _⟩
  · omega
  · cases h1; exact ⟨g', rfl⟩
/-- append of bytes, of a type with a name of its own. -/
theorem run_appbT {t : TypeId} (hu : Try.prog.underlying t = some (.slice 5)) {W : World} {v : Value} {l m : List Nat} (h : OwnB W v l) {A : Option Addr} (ty : TypeId) (c : Nat) (hm : Bys W A m) (hlen : l.length + m.length ≤ 70368744177664) :
    ∃ v' W', (Builtin.append_ #[t, t] ty #[v, .slice A m.length c]).run Try.prog W = .ok v' W' ∧ Appended W v l m v' W' := by
  obtain ⟨i0, hi, hz0, hz1, hz2⟩ := info_parts u8_info
  cases A with
  | none =>
    have h0 : m = [] := by
      rcases Nat.eq_zero_or_pos m.length with h0 | h0
      · exact List.eq_nil_of_length_eq_zero h0
      · obtain ⟨_, _, e, _⟩ := hm h0; cases e
    subst h0
    refine ⟨v, W, ?_, by simpa using h, ⟨rfl, rfl, rfl, Nat.le_refl _, fun _ _ _ => rfl⟩, .inl rfl⟩
    rcases h.2 with ⟨rfl, h0⟩ | ⟨g, cap, cur, rfl, _, _, hnc, _⟩
    · simp [Builtin.append_, run_underlying hu, sizeOf, typeInfo, hi, Builtin.lenOf, Builtin.firstCells]
    · simp [Builtin.append_, run_underlying hu, sizeOf, typeInfo, hi, Builtin.lenOf, Builtin.firstCells, hnc, storeCells]
  | some a =>
    have hnews : ∀ j u, (m.map fun x : Nat => Value.int .u8 ((x : Nat) : Int))[j]? = some u → W.cell? (a.add j) = some u := fun j u hu => by
      have hj : j < m.length := by
        have := (List.getElem?_eq_some_iff.1 hu).1
        simpa using this
      obtain ⟨b, off, e, _, hc⟩ := hm (by omega)
      cases e
      have hadd : (⟨b, off, none⟩ : Addr).add j = ⟨b, off + j, none⟩ := by unfold Addr.add; split <;> simp_all
      rw [hadd, hc j hj, ← hu, List.getElem?_map, List.getD_eq_getElem?_getD, List.getElem?_eq_getElem hj]
      rfl
    obtain ⟨v', W', h1, h2, h3, _, h5⟩ := run_append_own_at (P := Try.prog) W 0 t ty 5 i0 (.int .u8 0) 1 1 hu hi hz0 hz1 hz2 rfl (by decide) v l.length _ h a m.length c (m.map fun x : Nat => Value.int .u8 ((x : Nat) : Int)) (by simp) hnews
      (fun u hu => by obtain ⟨x, _, rfl⟩ := List.mem_map.1 hu; rfl) (by unfold maxLen; omega) (by omega) (by omega)
    refine ⟨v', W', h1, ?_, h3, h5⟩
    unfold OwnB
    rw [List.length_append, List.map_append]
    exact h2
theorem wpList_appbT {t : TypeId} (hu : Try.prog.underlying t = some (.slice 5)) {W : World} {ops : Array Oper} {rest : List Oper} {o : Oper} {a : Act} {Q : Exit → Act → World → Prop} (hgd : o.guard = none) (s x : Operand)
    (ho : o.op = .call { callee := .builtin .append, args := #[s, x], argTypes := #[t, t] })
    (v : Value) (l m : List Nat) (A : Option Addr) (n c : Nat) (h : OwnB W v l) (hm : Bys W A m) (hs : a.eval s = v) (hx : a.eval x = .slice A n c) (hn : m.length = n) (hlen : l.length + m.length ≤ 70368744177664)
    (hk : ∀ v' W', Appended W v l m v' W' → wpList Try.prog ops Q rest (a.put o.dst v') W') : wpList Try.prog ops Q (o :: rest) a W :=
  wpList_plain hgd fun _ hK => by
    subst hn
    obtain ⟨v', W', hr, h2⟩ := run_appbT hu h o.type c hm hlen
    unfold Oper.wp execOp
    simp only [ho, resolve, invoke, builtin, Sem.run_bind, Sem.run_pure, Result.andThen_ok, List.map_toArray, List.map_cons, List.map_nil, hs, hx, hr]
    exact hK _ _ (hk v' W' h2)
theorem size128 (w : World) : Calls Try.prog 86 #[.int .i64 128] w fun e w' => e = .returned (.int .i64 16) ∧ w = w' := by
  go_enter Try.func86, Try.ntmps86
  go_wp2_with fail
  go_ret
  exact ⟨rfl, rfl⟩
def len16 (n : Nat) : Int := if n = 16 then 0 else 60
theorem check128 (A : Option Addr) (n c : Nat) (w : World) : Calls Try.prog 99 #[.slice A n c, .int .i64 128] w fun e w' => e = .returned (.int .i64 (len16 n)) ∧ Below w.heap.size w w' := by
  by_cases h : n = 16
  · subst h
    go_enter Try.func99, Try.ntmps99
    go_wp2_with fail
    refine (size128 _).mono ?_
    rintro e w1 ⟨rfl, rfl⟩
    go_wp2_with fail
    go_ret
    exact ⟨rfl, Below.refl _ _⟩
  · have HV : Hid (len16 n = 60) := Lib.hid (by unfold len16; rw [if_neg h])
    have e1 : ((n : Int) != 16) = true := bne_iff_ne.2 (by omega)
    clear h
    go_enter Try.func99, Try.ntmps99
    go_wp2_with fail
    refine (size128 _).mono ?_
    rintro e w1 ⟨rfl, rfl⟩
    go_wp2_with fail
    go_ret
    exact ⟨by rw [HV.out]; rfl, Below.refl _ _⟩
theorem field_under : Try.prog.underlying 226 = some (.slice 5) := by kernel_rfl
set_option maxRecDepth 100000 in
theorem fown_any (A : Option Addr) (n c : Nat) (bs : List Nat) (hn : bs.length = n) (hm : n ≤ 1000000) (w : World) (hU : Bys w A bs) : Calls Try.prog 139 #[.slice A n c] w (RetB w bs) := by
  have HN := Lib.hid hn
  have HU := Lib.hid hU
  clear hn hU
  go_enter Try.func139, Try.ntmps139
  go_wp2_with (at_builtin; refine wpList_appbT field_under rfl _ _ rfl (.slice none 0 0) [] bs A n c (OwnB.nil _) HU.out rfl rfl HN.out (by rw [HN.out]; simp; omega) ?_; intro v' w1 hAp; have HAp := Lib.hid hAp; clear hAp)
  obtain ⟨A', c', he⟩ := HAp.out.form
  have hz : ([] : List Nat).length + bs.length = bs.length := by simp
  rw [hz] at he
  subst he
  go_ret
  have h1 := HAp.out.1
  rw [List.nil_append] at h1
  refine ⟨A', c', rfl, h1, fun a ha => ?_, (Below.refl _ _).grown HAp.out.2.1 (Nat.le_refl _) (fun k hk => by cases hk)⟩
  subst ha
  rcases HAp.out.2.2 with h | h
  · cases h
  · simp only [Value.ownBlock, Option.some.injEq] at h; omega
def okB (n : Nat) (i : Int) : Bool := decide (0 ≤ i ∧ i / 8 < (n : Int))
def setV (bs : List Nat) (i : Int) : List Nat := if okB bs.length i then setB bs i.toNat else bs
theorem or_bit (x j p : Nat) (hp : p = 2 ^ j) (hx : x < 256) (hj : j < 8) : bits .or .u8 (x : Int) (p : Int) = ((x ||| 2 ^ j : Nat) : Int) := by
  subst hp
  exact (bits_nat .u8 8 (by decide) wraps_u8 x (2 ^ j) (by omega) (Nat.pow_lt_pow_right (by decide) hj)).2
def SetPost (w : World) (bs : List Nat) (i : Int) (e : Ending) (w' : World) : Prop := ∃ A' c', e = .returned (.tuple #[.slice A' bs.length c', .bool (okB bs.length i)]) ∧ OwnB w' (.slice A' bs.length c') (setV bs i) ∧ (∀ a, A' = some a → w.heap.size ≤ a.block) ∧ Below w.heap.size w w'
set_option maxRecDepth 100000 in
set_option maxHeartbeats 4000000 in
theorem bset_any (A : Option Addr) (n c : Nat) (bs : List Nat) (i : Int) (hi : i ≤ 9223372036854775807) (hn : bs.length = n) (hm : n ≤ 1000000) (hb : bytesOk bs) (w : World) (hU : Bys w A bs) : Calls Try.prog 95 #[.slice A n c, .int .i64 i] w (SetPost w bs i) := by
  have HO := Lib.hid (fown_any A n c bs hn hm w hU)
  have HN := Lib.hid hn
  have hN : bs.length = n := hn
  by_cases h : i < 0 ∨ (n : Int) ≤ i / 8
  · have hf : okB bs.length i = false := decide_eq_false fun hh => by rw [hN] at hh; omega
    have HV : Hid (setV bs i = bs ∧ okB bs.length i = false) := Lib.hid ⟨by unfold setV; rw [hf]; rfl, hf⟩
    have HS := Lib.hid (fun B d W => spot_no B n d i hi h W)
    clear h hn hb hU hi hf
    go_enter Try.func95, Try.ntmps95
    go_wp2_with fail
    refine (HO.out).mono ?_
    rintro e w1 ⟨A1, c1, rfl, hO1, hA1, hb1⟩
    rw [hN] at hO1 ⊢
    have HP := Lib.hid (And.intro hO1 (And.intro hA1 hb1))
    clear hO1 hA1 hb1 hN
    go_wp2_with fail
    refine (HS.out _ _ _).mono ?_
    rintro e w2 ⟨rfl, hb2⟩
    have HB2 := Lib.hid hb2
    clear hb2
    go_wp2_with fail
    go_ret2
    exact ⟨A1, c1, by rw [HV.out.2, HN.out]; rfl, by rw [HV.out.1, HN.out]; exact HP.out.1.stay HB2.out, HP.out.2.1, Below.then HP.out.2.2 HB2.out⟩
  · obtain ⟨k, rfl⟩ := Int.eq_ofNat_of_zero_le (show 0 ≤ i by omega)
    have hkn : k / 8 < n := by omega
    have hf : okB bs.length (k : Int) = true := decide_eq_true (by rw [hN]; omega)
    have HV : Hid (setV bs (k : Int) = setB bs k ∧ okB bs.length (k : Int) = true) := Lib.hid ⟨by unfold setV; rw [hf]; rfl, hf⟩
    have HS := Lib.hid (fun B d W => spot_yes B n d k (by omega) hkn W)
    have hx := hb (k / 8)
    have hr : k % 8 < 8 := Nat.mod_lt _ (by omega)
    have HSB : Hid (setB bs k = bs.set (k / 8) (bs.getD (k / 8) 0 ||| 2 ^ (k % 8))) := Lib.hid rfl
    have HOr : Hid (∀ p : Nat, p = 2 ^ (k % 8) → bits .or .u8 ((bs.getD (k / 8) 0 : Nat) : Int) (p : Int) = ((bs.getD (k / 8) 0 ||| 2 ^ (k % 8) : Nat) : Int)) := Lib.hid fun p hp => or_bit _ _ p hp hx hr
    obtain ⟨p, hp⟩ : ∃ p : Nat, p = 2 ^ (k % 8) := ⟨_, rfl⟩
    have e9 := HOr.out p hp
    rw [← hp] at HS
    generalize bs.getD (k / 8) 0 ||| 2 ^ (k % 8) = y at *
    have z0 : (0 : Int) ≤ ((k / 8 : Nat) : Int) := by omega
    have z1 : ((k / 8 : Nat) : Int) < (n : Int) := by omega
    have HQ : Hid (k / 8 < bs.length) := Lib.hid (by rw [hN]; exact hkn)
    obtain ⟨x, hxv⟩ : ∃ x, bs.getD (k / 8) 0 = x := ⟨_, rfl⟩
    have HXv := Lib.hid hxv
    rw [hxv] at e9
    generalize k / 8 = q at *
    clear h hn hb hU hi hf hx hr HOr hp hkn hxv
    go_enter Try.func95, Try.ntmps95
    go_wp2_with fail
    refine (HO.out).mono ?_
    rintro e w1 ⟨A1, c1, rfl, hO1, hA1, hb1⟩
    obtain ⟨g, rfl⟩ := hO1.blockB (by have := HQ.out; omega)
    rw [hN] at hO1 ⊢
    have HP := Lib.hid (And.intro hO1 (And.intro hA1 hb1))
    clear hO1 hA1 hb1 hN HO
    go_wp2_with fail
    refine (HS.out _ _ _).mono ?_
    rintro e w2 ⟨rfl, hb2⟩
    have HO2 := Lib.hid (HP.out.1.stay hb2)
    have HB2 := Lib.hid (Below.then HP.out.2.2 hb2)
    have kc := HO2.out.cellB HQ.out
    rw [HXv.out] at kc
    have kf := HO2.out.freeB q
    clear hb2 HS
    go_wp2_with fail
    go_ret2
    refine ⟨some ⟨g, 0, none⟩, c1, by rw [HV.out.2, HN.out]; rfl, ?_, HP.out.2.1, Below.setCell HB2.out (p := ⟨g, q, none⟩) (show w.heap.size ≤ g from HP.out.2.1 ⟨g, 0, none⟩ rfl) _⟩
    rw [HV.out.1, HSB.out, HN.out]
    exact HO2.out.setAt q y
end Go.Proofs.Ytnakkjgnjffkpaa

namespace Go.Proofs.Ytnakkjgnjffkpaa
open Go.RowKit
set_option linter.unusedVariables false

def boolC (b : Bool) : Array Value := #[.bool b]
/-- New bytes, in a block of their own. -/
def PackPost (w : World) (bs : List Nat) (e : Ending) (w' : World) : Prop := ∃ g, e = .returned (.slice (some ⟨g, 0, none⟩) bs.length bs.length) ∧ OwnB w' (.slice (some ⟨g, 0, none⟩) bs.length bs.length) bs ∧ w.heap.size ≤ g ∧ Below w.heap.size w w'
theorem zeros_own {w w1 : World} {q : Nat} (h : w1.ownsRow 0 5 1 (.slice (some ⟨w.heap.size, 0, none⟩) q q) q (madeCells (Value.int .u8 0).cells (q * 1)).toList) : OwnB w1 (.slice (some ⟨w.heap.size, 0, none⟩) q q) (List.replicate q 0) := by
  have e : (madeCells (Value.int .u8 0).cells (q * 1)).toList = (List.replicate q 0).map fun x : Nat => Value.int .u8 ((x : Nat) : Int) := by
    rw [show (Value.int .u8 0).cells = #[Value.int .u8 0] from rfl, toList_madeCells_one, List.map_replicate, Nat.mul_one]; rfl
  unfold OwnB
  rw [← e, List.length_replicate]
  exact h
set_option maxRecDepth 100000 in
set_option maxHeartbeats 4000000 in
theorem rpack_any (A : Option Addr) (n c : Nat) (l : List Bool) (hn : l.length = n) (hm : n ≤ 1000) (w : World) (hL : SliceOf 1 boolC w A l) : Calls Try.prog 141 #[.slice A n c] w (PackPost w (packN l ((n + 7) / 8) 0)) := by
  obtain ⟨q, hq⟩ : ∃ q, q = (n + 7) / 8 := ⟨_, rfl⟩
  rw [← hq]
  have hqI : ((n : Int) + 7) / 8 = (q : Int) := by omega
  have E7 : IntKind.i64.wrap ((n : Int) + 7) = (n : Int) + 7 := IntWalk.i64_in _ (by omega)
  have E1 : IntKind.i64.wrap ((n : Int) - 1) = (n : Int) - 1 := IntWalk.i64_in _ (by omega)
  have Eq : IntKind.i64.wrap (q : Int) = (q : Int) := IntWalk.i64_in _ (by omega)
  have hq2 : q ≤ 126 := by omega
  have HQ := Lib.hid hq
  have HL := Lib.hid hL
  have HN := Lib.hid hn
  obtain ⟨i0, hi, hz0, hz1, hz2⟩ := info_parts u8_info
  clear hL hn hq
  go_enter Try.func141, Try.ntmps141
  go_wp2_with (at_make; refine wpList_make_full w rfl _ _ 64 rfl 0 5 i0 (.int .u8 0) 1 u8s_under hi hz0 hz1 .i64 .i64 (q : Int) (q : Int) q (by simp only [hqI]; rfl) (by simp only [hqI]; rfl) rfl rfl (by rw [hz2]; omega) (by unfold maxLen; omega) (Nat.zero_le _) ?_; intro w1 hown hg; have HO := Lib.hid (zeros_own hown); have HG := Lib.hid hg; clear hown hg)
  have HB1 : Hid (Below w.heap.size w w1) := Lib.hid ((Below.refl _ w).grown HG.out (Nat.le_refl _) (fun k hk => by cases hk))
  clear HG hi hz0 hz1 hz2 i0
  go_loopw [4] (fun i wr => ∃ j : Nat, i = .int .i64 ((j : Int) - 1) ∧ j ≤ n ∧ Hid (OwnB wr (.slice (some ⟨w.heap.size, 0, none⟩) q q) (packN l q j) ∧ Below w.heap.size w wr)) (fun i _ => (intOf i + 1).toNat)
  case atStart => exact ⟨n, rfl, Nat.le_refl _, Lib.hid ⟨by have h := packN_zero l q; rw [HN.out] at h; rw [h]; exact HO.out, HB1.out⟩⟩
  case round =>
    obtain ⟨j, rfl, hj, hH⟩ := hrel
    cases j with
    | zero =>
      have HE := Lib.hid hH
      go_wp2_with fail
      go_ret
      refine ⟨_, by rw [packN_len]; rfl, ?_, Nat.le_refl _, HE.out.out.2⟩
      rw [packN_len]; exact HE.out.out.1
    | succ k =>
      rw [show (((k + 1 : Nat) : Int) - 1) = (k : Int) by omega]
      have hkq : k / 8 < q := by have := HQ.out; omega
      obtain ⟨b, hb⟩ : ∃ b, l[k]? = some b := ⟨_, List.getElem?_eq_getElem (by rw [HN.out]; omega)⟩
      have hlow := packAt_low l k
      have hst := packN_step (n := q) hkq hb
      have c1 : wr.cell? ⟨w.heap.size, k / 8, none⟩ = some (.int .u8 ((packAt l (k + 1) (k / 8) : Nat) : Int)) := by
        have h := hH.out.1.cellB (q := k / 8) (by rw [packN_len]; exact hkq)
        rw [packN_at _ _ _ _ hkq] at h; exact h
      have f1 := hH.out.1.freeB (k / 8)
      obtain ⟨bb, off, rfl, hbb, hcell⟩ := HL.out (by rw [HN.out]; omega)
      have c2 : wr.cell? ⟨bb, off + k, none⟩ = some (.bool b) := by
        have h := hcell k b hb 0 (.bool b) rfl
        rw [Nat.mul_one, Nat.add_zero] at h
        exact (hH.out.2.cell (p := ⟨bb, off + k, none⟩) hbb).trans h
      generalize packAt l (k + 1) (k / 8) = x at *
      have z0 : (0 : Int) ≤ (k : Int) := by omega
      have z1 : (k : Int) < (n : Int) := by omega
      have z2 : (0 : Int) ≤ (k : Int) / 8 := by omega
      have z3 : (k : Int) / 8 < (q : Int) := by omega
      have e8 : ((k : Int) / 8).toNat = k / 8 := by omega
      have w1' : IntKind.i64.wrap (2 * (x : Int)) = 2 * (x : Int) := IntWalk.i64_in _ (by omega)
      have w2' : IntKind.i64.wrap (2 * (x : Int) + 1) = 2 * (x : Int) + 1 := IntWalk.i64_in _ (by omega)
      have w3' : IntKind.u8.wrap (2 * (x : Int)) = 2 * (x : Int) := by rw [IntKind.wrap_u8]; omega
      have w4' : IntKind.u8.wrap (2 * (x : Int) + 1) = 2 * (x : Int) + 1 := by rw [IntKind.wrap_u8]; omega
      have w5' : IntKind.i64.wrap ((k : Int) - 1) = (k : Int) - 1 := IntWalk.i64_in _ (by omega)
      have HS := Lib.hid hst
      have HH : Hid (∀ y : Nat, OwnB (wr.setCell ⟨w.heap.size, k / 8, none⟩ (.int .u8 (y : Int))) (.slice (some ⟨w.heap.size, 0, none⟩) q q) ((packN l q (k + 1)).set (k / 8) y) ∧ Below w.heap.size w (wr.setCell ⟨w.heap.size, k / 8, none⟩ (.int .u8 (y : Int)))) := Lib.hid fun y => ⟨hH.out.1.setAt (k / 8) y, Below.setCell hH.out.2 (p := ⟨w.heap.size, k / 8, none⟩) (Nat.le_refl _) _⟩
      clear hst hb hcell hH hbb
      cases b
      · have HI : Hid (OwnB (wr.setCell ⟨w.heap.size, k / 8, none⟩ (.int .u8 (2 * (x : Int)))) (.slice (some ⟨w.heap.size, 0, none⟩) q q) (packN l q k) ∧ Below w.heap.size w (wr.setCell ⟨w.heap.size, k / 8, none⟩ (.int .u8 (2 * (x : Int))))) := Lib.hid (by
          have h := HH.out (2 * x)
          rw [show ((2 * x : Nat) : Int) = 2 * (x : Int) by omega] at h
          rw [HS.out]; exact h)
        clear HH HS
        go_wp2_with fail
        exact ⟨⟨k, rfl, by omega, HI⟩, by simp [intOf]⟩
      · have HI : Hid (OwnB (wr.setCell ⟨w.heap.size, k / 8, none⟩ (.int .u8 (2 * (x : Int) + 1))) (.slice (some ⟨w.heap.size, 0, none⟩) q q) (packN l q k) ∧ Below w.heap.size w (wr.setCell ⟨w.heap.size, k / 8, none⟩ (.int .u8 (2 * (x : Int) + 1)))) := Lib.hid (by
          have h := HH.out (2 * x + 1)
          rw [show ((2 * x + 1 : Nat) : Int) = 2 * (x : Int) + 1 by omega] at h
          rw [HS.out]; exact h)
        clear HH HS
        go_wp2_with fail
        exact ⟨⟨k, rfl, by omega, HI⟩, by simp [intOf]⟩
end Go.Proofs.Ytnakkjgnjffkpaa
