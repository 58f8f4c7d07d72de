/-
  Layer 38: a play of annals: the program's and the reference's, side by side.
-/
import Derived.Test.YtnakkjgnjffkpaaRA38b
import Derived.Test.YtnakkjgnjffkpaaKept38
namespace Go.Proofs.Ytnakkjgnjffkpaa
open Go.RowKit
set_option linter.unusedVariables false
set_option linter.unusedSimpArgs false

theorem seqB_drop (L : List Rep) (r : Rep) (most : Nat) (hp : 0 < most) : seqB (L.drop (L.length - most)) r = seqB L r := by
  unfold seqB
  rw [List.getLast?_drop]
  by_cases h : L.length ≤ L.length - most
  · have : L = [] := List.eq_nil_of_length_eq_zero (by omega)
    subst this; rfl
  · rw [if_neg h]
theorem keepK_drop (L : List Rep) (r : Rep) (most : Nat) (hp : 0 < most) : keepK most (L.drop (L.length - most) ++ [r]) = (L ++ [r]).drop ((L ++ [r]).length - most) := by
  unfold keepK
  rw [List.length_append, List.length_drop, List.length_append, List.length_singleton]
  by_cases h : L.length < most
  · rw [if_neg (by omega), show L.length - most = 0 by omega, show L.length + 1 - most = 0 by omega]; rfl
  · rw [if_pos (by omega), ← List.drop_append_of_le_length (by omega), List.drop_drop]
    congr 1; omega
theorem add_same {most : Nat} {s : Sm} {L' L : List Rep} (hp : 0 < most) (hrel : L' = L.drop (L.length - most)) (hs : s = totS (L.map smOf)) (r : Rep) : addE s L' r = raddE L r := by
  unfold addE raddE
  rw [hrel, seqB_drop _ _ _ hp]
  have : togE [s, smOf r] = togE ((L ++ [r]).map smOf) := by
    unfold togE
    rw [tot_two, List.map_append, List.map_singleton, totS_snoc, ← hs]
  rw [this]
structure PlS (B g gw most : Nat) (W : World) (n : Nat) (v : Value) (l : List (Rep × RepA)) (s : Sm) (A : Option Addr) (c : Nat) (xs : List (Rep × RepA)) : Prop where
  an : AnAt W (fun k => k = gw) g most s v l
  rf : RfA W gw most A c xs
  rel : l.map (·.1) = (xs.map (·.1)).drop (xs.length - most)
  sum : s = totS (sumX xs)
  fit : fitsS s
  seq : SeqR (xs.map (·.1))
  few : s.Few (n * 600)
  ne : g ≠ gw
  vg : v.ownBlock ≠ some gw
  bg : B ≤ g
  bw : B ≤ gw
  bv : ∀ k, v.ownBlock = some k → B ≤ k
  ba : xs ≠ [] → ∀ x, A = some x → B ≤ x.block ∧ x.block ≠ g ∧ v.ownBlock ≠ some x.block
  rb : ∀ x ∈ xs, ∀ k, RepB x k → k < B
  len : xs.length ≤ n
section
variable {B g gw most n : Nat} {W W' : World} {v : Value} {l : List (Rep × RepA)} {s : Sm} {A : Option Addr} {c : Nat} {xs : List (Rep × RepA)}
theorem PlS.stay (h : PlS B g gw most W n v l s A c xs) (hb : Below W.heap.size W W') : PlS B g gw most W' n v l s A c xs :=
  ⟨h.an.stay hb, h.rf.stay hb, h.rel, h.sum, h.fit, h.seq, h.few, h.ne, h.vg, h.bg, h.bw, h.bv, h.ba, h.rb, h.len⟩
theorem PlS.kept (h : PlS B g gw most W n v l s A c xs) : Calls Try.prog 17 #[.pointer (some ⟨g, 0, none⟩), .pointer (some ⟨gw, 0, none⟩)] W fun e w' => e = .returned (.bool true) ∧ Below W.heap.size W w' :=
  kept38_any _ g gw most s v l A c xs W h.an h.rf h.rel h.sum h.fit
/-- Between the two Adds. -/
structure PlM (B g gw most : Nat) (W : World) (n : Nat) (L' : List Rep) (s' : Sm) (A : Option Addr) (c : Nat) (xs : List (Rep × RepA)) : Prop where
  an : ∃ v l, AnAt W (fun k => k = gw) g most s' v l ∧ l.map (·.1) = L' ∧ v.ownBlock ≠ some gw ∧ (∀ k, v.ownBlock = some k → B ≤ k) ∧ (xs ≠ [] → ∀ x, A = some x → B ≤ x.block ∧ x.block ≠ g ∧ v.ownBlock ≠ some x.block)
  rf : RfA W gw most A c xs
theorem PlM.stay {L' : List Rep} {s' : Sm} (h : PlM B g gw most W n L' s' A c xs) (hb : Below W.heap.size W W') : PlM B g gw most W' n L' s' A c xs := by
  obtain ⟨v, l, h1, h2⟩ := h.an
  exact ⟨⟨v, l, h1.stay hb, h2⟩, h.rf.stay hb⟩
theorem PlS.add1 (h : PlS B g gw most W n v l s A c xs) (hB : B ≤ W.heap.size) {r : Rep} {a : RepA} (hr : r.Ok) (hR : RepAt W (r, a)) (hap : ∀ k, RepB (r, a) k → k < B) (hn : n ≤ 200) {g11 : Nat} (h11 : row W g11 = some (repC (r, a))) (hne : g11 ≠ g ∧ v.ownBlock ≠ some g11) :
    Calls Try.prog 15 #[.pointer (some ⟨g, 0, none⟩), .agg (repC (r, a))] W fun e W' => e = .returned (.int .i64 (raddE (xs.map (·.1)) r)) ∧ PlM B g gw most W' n (addL (raddE (xs.map (·.1)) r) most (l.map (·.1)) r) (addS' (raddE (xs.map (·.1)) r) s r) A c xs ∧ Below B W W' ∧ row W' g11 = some (repC (r, a)) := by
  have hsame : addE s (l.map (·.1)) r = raddE (xs.map (·.1)) r := add_same h.an.pos (by rw [h.rel, List.length_map]) (by rw [h.sum]; unfold sumX; rw [List.map_map]; rfl) r
  have hll : l.length ≤ 64 := by
    have h1 : (l.map (·.1)).length = ((xs.map (·.1)).drop (xs.length - most)).length := by rw [h.rel]
    rw [List.length_map, List.length_drop, List.length_map] at h1
    have := h.an.top; omega
  rw [← hsame]
  refine (add38_any _ g most s v l r a W h.an (fun k hk => by rw [hk]; exact row_lt h.rf.row) hr hR (fun k hk e => e.elim (fun e => by have := hap k hk; have := h.bg; omega) (fun e => by have := h.bv k e; have := hap k hk; omega)) (h.few.mono (by omega)) (fun k => by
    obtain ⟨j, hj, e⟩ := mon_top s k
    have := h.fit j hj
    omega) (by omega)).mono ?_
  rintro e W' ⟨rfl, v', l', q1, q2, q3, q4⟩
  have hgw := row_lt h.rf.row
  have hnF : ∀ k, k < W.heap.size → k ≠ g → v.ownBlock ≠ some k → ¬ AnF g v k := fun k _ h1 h2 e => e.elim h1 h2
  refine ⟨rfl, ⟨⟨v', l', q1, q2, fun e => ?_, fun k hk => ?_, fun hx x hA => ?_⟩, ?_⟩, ?_, ?_⟩
  · rcases q3 gw e with h1 | h1
    · exact h1.elim (fun e2 => h.ne e2.symm) h.vg
    · omega
  · rcases q3 k hk with h1 | h1
    · exact h1.elim (fun e2 => e2 ▸ h.bg) (h.bv k)
    · omega
  · obtain ⟨b1, b2, b3⟩ := h.ba hx x hA
    refine ⟨b1, b2, fun e => ?_⟩
    rcases q3 _ e with h1 | h1
    · exact h1.elim b2 b3
    · obtain ⟨bb, off, e2, hlt, _⟩ := h.rf.list (List.length_pos_iff.2 hx)
      rw [hA] at e2; cases e2
      have : bb < W.heap.size := hlt
      have h2 : W.heap.size ≤ bb := h1
      omega
  · exact h.rf.chg q4 (fun e => e.elim (fun e2 => h.ne e2.symm) h.vg) (fun hx x hA e => by obtain ⟨b1, b2, b3⟩ := h.ba hx x hA; exact e.elim b2 b3) (fun x hx k hk e => by
      have := h.rb x hx k hk
      exact e.elim (fun e2 => by have := h.bg; omega) (fun e2 => by have := h.bv k e2; omega))
  · exact q4.toBelow (fun k hk => hk.elim (fun e => e ▸ h.bg) (h.bv k)) hB
  · exact (q4.row (row_lt h11) (fun e => e.elim hne.1 hne.2)).trans h11
theorem PlM.add2 {W0 : World} (h0 : PlS B g gw most W0 n v l s A c xs) {r : Rep} {a : RepA} {ev : Int} (hev : raddE (xs.map (·.1)) r = ev) (h : PlM B g gw most W n (addL ev most (l.map (·.1)) r) (addS' ev s r) A c xs) (hB : B ≤ W.heap.size) (hr : r.Ok) (hR : RepAt W (r, a)) (hap : ∀ k, RepB (r, a) k → k < B) (hn : n < 200) {g11 : Nat} (h11 : row W g11 = some (repC (r, a))) (hne : g11 ≠ gw) :
    Calls Try.prog 16 #[.pointer (some ⟨gw, 0, none⟩), .agg (repC (r, a))] W fun e W' => e = .returned (.int .i64 ev) ∧ (∃ v' l' s' A' c' xs', PlS B g gw most W' (n + 1) v' l' s' A' c' xs') ∧ Below B W W' ∧ row W' g11 = some (repC (r, a)) := by
  have hlen := h0.len
  refine (radd_any gw most A c xs r a W h.rf hr hR (fun k hk e => by have := hap k hk; have := h0.bw; omega) (by omega)).mono ?_
  rintro e W' ⟨rfl, hc, hd⟩
  rw [hev] at hd ⊢
  obtain ⟨v', l', h1, h2, h3, h4, h5⟩ := h.an
  have hA' : AnAt W' (fun k => k = gw) g most (addS' ev s r) v' l' := h1.chg hc (fun e => h0.ne e) (fun k hk e => h3 (by rw [hk, e])) (fun k hk => hk)
  refine ⟨rfl, ?_, hc.toBelow (fun k hk => by rw [hk]; exact h0.bw) hB, (hc.row (row_lt h11) hne).trans h11⟩
  rcases hd with ⟨hz, hf⟩ | ⟨hz, A2, c2, hf, hA2⟩
  · have e1 : addS' ev s r = s := by unfold addS'; rw [if_neg hz]
    have e2 : addL ev most (l.map (·.1)) r = l.map (·.1) := by unfold addL; rw [if_neg hz]
    rw [e1] at hA'
    rw [e2] at h2
    exact ⟨v', l', s, A, c, xs, hA', hf, by rw [h2, h0.rel], h0.sum, h0.fit, h0.seq, h0.few.mono (by omega), h0.ne, h3, h0.bg, h0.bw, h4, h5, h0.rb, by omega⟩
  · have hsame : addE s (l.map (·.1)) r = ev := by
      rw [← hev]
      exact add_same h0.an.pos (by rw [h0.rel, List.length_map]) (by rw [h0.sum]; unfold sumX; rw [List.map_map]; rfl) r
    obtain ⟨g1, g2, g3⟩ := addE_zero (hsame.trans hz)
    have e1 : addS' ev s r = addS s (smOf r) := by unfold addS'; rw [if_pos hz]
    have e2 : addL ev most (l.map (·.1)) r = keepK most (l.map (·.1) ++ [r]) := by unfold addL; rw [if_pos hz]
    rw [e1] at hA'
    rw [e2, h0.rel] at h2
    have hkd := keepK_drop (xs.map (·.1)) r most h0.an.pos
    rw [List.length_map] at hkd
    have hseq : seqB (xs.map (·.1)) r = true := by
      have := seqB_drop (xs.map (·.1)) r most h0.an.pos
      rw [List.length_map, ← h0.rel, g2] at this
      exact this.symm
    refine ⟨v', l', addS s (smOf r), A2, c2, xs ++ [(r, a)], hA', hf, ?_, ?_, g3, ?_, ?_, h0.ne, h3, h0.bg, h0.bw, h4, fun _ x hx => ?_, fun x hx => ?_, by rw [List.length_append]; show xs.length + 1 ≤ n + 1; omega⟩
    · rw [h2, hkd]
      simp only [List.map_append, List.map_cons, List.map_nil, List.length_append, List.length_map]
      rfl
    · rw [h0.sum]; unfold sumX; rw [List.map_append]; show _ = totS (_ ++ [smOf r]); rw [totS_snoc]
    · rw [List.map_append]; exact h0.seq.push hseq
    · have := h0.few.add (smOf_few' r g1)
      exact this.mono (by omega)
    · have hw := hA2 x hx
      have hg := row_lt h1.row
      exact ⟨Nat.le_trans hB hw, fun e => by omega, fun e => by have := (h1.kept.lt _ e).2; omega⟩
    · rcases List.mem_append.1 hx with hx | hx
      · exact h0.rb x hx
      · rw [List.mem_singleton] at hx; subst hx; exact hap
end
end Go.Proofs.Ytnakkjgnjffkpaa
