/-
  A vault on a plate: heads, data in sectors, commits; wherever the power goes: the plain law.
-/
import Derived.Test.YtkkncijbedfdfaaPlate8
import Derived.Test.YtkkncijbedfdfaaCoderP
namespace Go.Proofs.Ytkkncijbedfdfaa
open Go.RowKit
set_option linter.unusedVariables false

/-- A record as it stands in a log. -/
def rawF (r : List Nat) : List Nat := formN r.length ++ r
theorem rawF_pos (r : List Nat) : 1 ≤ (rawF r).length := by
  unfold rawF
  have := formN_pos r.length
  rw [List.length_append]; omega
/-! ### Writes that are put, one by one, and synced -/
def putP : Ps → List (Nat × Sec) → Int × Ps
  | s, [] => s.sync
  | s, e :: r => if (s.write e).1 = 0 then putP (s.write e).2 r else s.write e
def commitP (s : Ps) (ws : List (Nat × Sec)) (h : Nat × Sec) : Int × Ps := if (putP s ws).1 = 0 then putP (putP s ws).2 [h] else putP s ws
theorem write_cases (s : Ps) (e : Nat × Sec) (hd : s.down = false) : ((s.write e).1 = 0 ∧ (s.write e).2.down = false ∧ (s.write e).2.pend = s.pend ++ [e] ∧ (s.write e).2.sure = s.sure) ∨ ((s.write e).1 = 280 ∧ (s.write e).2.down = true ∧ (s.write e).2.pend = s.pend ++ [e] ∧ (s.write e).2.sure = s.sure) := by
  unfold Ps.write Ps.power
  rw [hd]
  by_cases h : s.armed = true ∧ s.left ≤ 0
  · right; simp [h]
  · left; simp [h]
theorem sync_cases (s : Ps) (hd : s.down = false) : (s.sync.1 = 0 ∧ s.sync.2.down = false ∧ s.sync.2.pend = [] ∧ s.sync.2.sure = s.pend.foldl landS s.sure) ∨ (s.sync.1 = 280 ∧ s.sync.2.down = true ∧ s.sync.2.pend = s.pend ∧ s.sync.2.sure = s.sure) := by
  unfold Ps.sync Ps.power
  rw [hd]
  by_cases h : s.armed = true ∧ s.left ≤ 0
  · right; simp [h]
  · left; simp [h]
theorem putP_cases : ∀ (ws : List (Nat × Sec)) (s : Ps), s.down = false → ((putP s ws).1 = 0 ∧ (putP s ws).2.down = false ∧ (putP s ws).2.pend = [] ∧ (putP s ws).2.sure = (s.pend ++ ws).foldl landS s.sure) ∨ ((putP s ws).1 = 280 ∧ (putP s ws).2.down = true ∧ (putP s ws).2.sure = s.sure ∧ ∃ ws1 ws2, ws = ws1 ++ ws2 ∧ (putP s ws).2.pend = s.pend ++ ws1 ∧ (ws ≠ [] → ws1 ≠ []))
  | [], s, hd => by
    rcases sync_cases s hd with ⟨h1, h2, h3, h4⟩ | ⟨h1, h2, h3, h4⟩
    · left; exact ⟨h1, h2, h3, by rw [List.append_nil]; exact h4⟩
    · right; exact ⟨h1, h2, h4, [], [], rfl, by rw [List.append_nil]; exact h3, fun h => (h rfl).elim⟩
  | e :: r, s, hd => by
    rcases write_cases s e hd with ⟨h1, h2, h3, h4⟩ | ⟨h1, h2, h3, h4⟩
    · have e1 : putP s (e :: r) = putP (s.write e).2 r := by rw [putP, if_pos h1]
      rw [e1]
      rcases putP_cases r (s.write e).2 h2 with ⟨g1, g2, g3, g4⟩ | ⟨g1, g2, g3, ws1, ws2, g4, g5, g6⟩
      · left; exact ⟨g1, g2, g3, by rw [g4, h3, h4, List.append_assoc]; rfl⟩
      · right; exact ⟨g1, g2, by rw [g3, h4], e :: ws1, ws2, by rw [g4]; rfl, by rw [g5, h3, List.append_assoc]; rfl, fun _ => by simp⟩
    · have e1 : putP s (e :: r) = s.write e := by rw [putP, if_neg (by rw [h1]; decide)]
      rw [e1]
      right; exact ⟨h1, h2, h4, [e], r, rfl, h3, fun _ => by simp⟩
/-- What a commit leaves: all of it; a part of the pieces pending; or the pieces, and the head pending. -/
theorem commitP_cases (s : Ps) (ws : List (Nat × Sec)) (h : Nat × Sec) (hd : s.down = false) (hp : s.pend = []) :
    ((commitP s ws h).1 = 0 ∧ (commitP s ws h).2.down = false ∧ (commitP s ws h).2.pend = [] ∧ (commitP s ws h).2.sure = landS (ws.foldl landS s.sure) h) ∨
    ((commitP s ws h).1 = 280 ∧ (commitP s ws h).2.down = true ∧ (commitP s ws h).2.sure = s.sure ∧ ∃ ws1 ws2, ws = ws1 ++ ws2 ∧ (commitP s ws h).2.pend = ws1) ∨
    ((commitP s ws h).1 = 280 ∧ (commitP s ws h).2.down = true ∧ (commitP s ws h).2.sure = ws.foldl landS s.sure ∧ (commitP s ws h).2.pend = [h]) := by
  rcases putP_cases ws s hd with ⟨h1, h2, h3, h4⟩ | ⟨h1, h2, h3, ws1, ws2, h4, h5, _⟩
  · have e1 : commitP s ws h = putP (putP s ws).2 [h] := by unfold commitP; rw [if_pos h1]
    rw [e1]
    rw [hp, List.nil_append] at h4
    rcases putP_cases [h] (putP s ws).2 h2 with ⟨g1, g2, g3, g4⟩ | ⟨g1, g2, g3, x1, x2, g4, g5, g6⟩
    · left; exact ⟨g1, g2, g3, by rw [g4, h3, h4]; rfl⟩
    · right; right
      refine ⟨g1, g2, by rw [g3, h4], ?_⟩
      rw [g5, h3]
      cases x1 with
      | nil => exact absurd rfl (g6 (by simp))
      | cons a x1 =>
        simp only [List.cons_append, List.cons.injEq] at g4
        obtain ⟨rfl, g4⟩ := g4
        have : x1 = [] := by
          have := congrArg List.length g4
          simp at this
          exact List.eq_nil_of_length_eq_zero (by omega)
        rw [this]; rfl
  · have e1 : commitP s ws h = putP s ws := by unfold commitP; rw [if_neg (by rw [h1]; decide)]
    rw [e1]
    right; left; exact ⟨h1, h2, h3, ws1, ws2, h4, by rw [h5, hp]; rfl⟩
/-- What lands of pending writes: some of them, in their order. -/
theorem upL_some (keep : List Bool) : ∀ (P : List (Nat × Sec)) (k : Nat) (S : List Sec) (Q : List Sec → Prop), Q S → (∀ T e, e ∈ P → Q T → Q (landS T e)) → Q (upL keep k S P)
  | [], _, _, _, h, _ => h
  | e :: r, k, S, Q, h, hs => by
    rw [upL]
    refine upL_some keep r (k + 1) _ Q ?_ (fun T x hx => hs T x (List.mem_cons_of_mem _ hx))
    split
    · exact hs S e (List.mem_cons_self ..) h
    · exact h
theorem fold_some : ∀ (P : List (Nat × Sec)) (S : List Sec) (Q : List Sec → Prop), Q S → (∀ T e, e ∈ P → Q T → Q (landS T e)) → Q (P.foldl landS S)
  | [], _, _, h, _ => h
  | e :: r, S, Q, h, hs => fold_some r _ Q (hs S e (List.mem_cons_self ..) h) (fun T x hx => hs T x (List.mem_cons_of_mem _ hx))
/-! ### Heads -/
def secs (n : Nat) : Nat := (n + 63) / 64
def lit (n : Nat) : Nat → List Nat
  | 0 => []
  | k + 1 => n % 256 :: lit (n / 256) k
def numB : List Nat → Nat
  | [] => 0
  | x :: r => x + 256 * numB r
theorem lit_len : ∀ (k n : Nat), (lit n k).length = k
  | 0, _ => rfl
  | k + 1, n => by rw [lit, List.length_cons, lit_len k]
theorem numB_lit : ∀ (k n : Nat), n < 256 ^ k → numB (lit n k) = n
  | 0, n, h => by
    have : n = 0 := by rw [Nat.pow_zero] at h; omega
    rw [this]; rfl
  | k + 1, n, h => by
    rw [lit, numB, numB_lit k (n / 256) (by rw [Nat.pow_succ] at h; exact Nat.div_lt_of_lt_mul (by rw [Nat.mul_comm]; exact h))]
    omega
theorem lit_lt : ∀ (k n : Nat), ∀ x ∈ lit n k, x < 256
  | 0, _, x, h => by rw [lit] at h; exact (List.not_mem_nil h).elim
  | k + 1, n, x, h => by
    rw [lit] at h
    rcases List.mem_cons.1 h with rfl | h
    · exact Nat.mod_lt _ (by decide)
    · exact lit_lt k _ x h
structure Hd where
  gen : Nat
  area : Nat
  snap : Nat
  log : Nat
  all : Nat
structure Hd.Ok (room : Nat) (h : Hd) : Prop where
  gen : 1 ≤ h.gen ∧ h.gen < 18446744073709551615
  area : h.area ≤ 1
  fits : secs h.snap + secs h.log ≤ room
  room : room ≤ 100000
  all : h.all ≤ h.log
def formH (h : Hd) : List Nat := 66 :: 86 :: (lit h.gen 8 ++ h.area % 256 :: (lit h.snap 4 ++ (lit h.log 4 ++ (lit h.all 4 ++ List.replicate 41 0))))
theorem formH_len (h : Hd) : (formH h).length = 64 := by
  unfold formH
  simp [lit_len]
def headS (h : Hd) : Sec := ⟨formH h, formH_len h⟩
theorem formH_gen (h : Hd) : ((formH h).drop 2).take 8 = lit h.gen 8 := by
  unfold formH
  rw [List.drop_succ_cons, List.drop_succ_cons, List.drop_zero, List.take_append_of_le_length (by rw [lit_len]; exact Nat.le_refl _), List.take_of_length_le (by rw [lit_len]; exact Nat.le_refl _)]
theorem drop_app {α : Type} (l m : List α) (n : Nat) (h : l.length = n) : (l ++ m).drop n = m := by subst h; exact List.drop_left ..
theorem take_app {α : Type} (l m : List α) (n : Nat) (h : l.length = n) : (l ++ m).take n = l := by subst h; exact List.take_left ..
theorem formH_area (h : Hd) (ha : h.area ≤ 1) : (formH h).getD 10 0 = h.area := by
  have h1 : (formH h).drop 10 = h.area % 256 :: (lit h.snap 4 ++ (lit h.log 4 ++ (lit h.all 4 ++ List.replicate 41 0))) := by
    unfold formH
    rw [show 10 = 8 + 1 + 1 from rfl, List.drop_succ_cons, List.drop_succ_cons, drop_app _ _ 8 (lit_len 8 _)]
  have h2 : (formH h)[10]? = some (h.area % 256) := by
    have := congrArg (fun l : List Nat => l[0]?) h1
    simpa [List.getElem?_drop] using this
  rw [List.getD_eq_getElem?_getD, h2]
  show h.area % 256 = h.area
  omega
theorem formH_tail (h : Hd) : (formH h).drop 11 = lit h.snap 4 ++ (lit h.log 4 ++ (lit h.all 4 ++ List.replicate 41 0)) := by
  unfold formH
  rw [show 11 = 9 + 1 + 1 from rfl, List.drop_succ_cons, List.drop_succ_cons, show 9 = 8 + 1 from rfl, ← List.drop_drop, drop_app _ _ 8 (lit_len 8 _), List.drop_succ_cons, List.drop_zero]
theorem formH_snap (h : Hd) : ((formH h).drop 11).take 4 = lit h.snap 4 := by
  rw [formH_tail, take_app _ _ 4 (lit_len 4 _)]
theorem formH_log (h : Hd) : ((formH h).drop 15).take 4 = lit h.log 4 := by
  rw [show 15 = 11 + 4 from rfl, ← List.drop_drop, formH_tail, drop_app _ _ 4 (lit_len 4 _), take_app _ _ 4 (lit_len 4 _)]
theorem formH_all (h : Hd) : ((formH h).drop 19).take 4 = lit h.all 4 := by
  rw [show 19 = 11 + 8 from rfl, ← List.drop_drop, formH_tail, show 8 = 4 + 4 from rfl, ← List.drop_drop, drop_app _ _ 4 (lit_len 4 _), drop_app _ _ 4 (lit_len 4 _), take_app _ _ 4 (lit_len 4 _)]
theorem secs_le {n r : Nat} (h : secs n ≤ r) : n ≤ 64 * r := by unfold secs at h; omega
theorem Hd.Ok.bounds {room : Nat} {h : Hd} (ho : h.Ok room) : h.snap < 4294967296 ∧ h.log < 4294967296 ∧ h.all < 4294967296 := by
  have h1 := ho.fits
  have h2 := ho.room
  have h3 := ho.all
  have h4 := secs_le (n := h.snap) (r := room) (by omega)
  have h5 := secs_le (n := h.log) (r := room) (by omega)
  omega
theorem formH_inj {room : Nat} {h k : Hd} (ho : h.Ok room) (ko : k.Ok room) (e : formH h = formH k) : h = k := by
  obtain ⟨b1, b2, b3⟩ := ho.bounds
  obtain ⟨c1, c2, c3⟩ := ko.bounds
  have e1 : h.gen = k.gen := by
    have := congrArg (fun l => numB ((l.drop 2).take 8)) e
    simp only [formH_gen] at this
    rwa [numB_lit 8 _ (by have := ho.gen.2; omega), numB_lit 8 _ (by have := ko.gen.2; omega)] at this
  have e2 : h.area = k.area := by
    have := congrArg (fun l => l.getD 10 0) e
    simp only [formH_area _ ho.area, formH_area _ ko.area] at this
    exact this
  have e3 : h.snap = k.snap := by
    have := congrArg (fun l => numB ((l.drop 11).take 4)) e
    simp only [formH_snap] at this
    rwa [numB_lit 4 _ (by omega), numB_lit 4 _ (by omega)] at this
  have e4 : h.log = k.log := by
    have := congrArg (fun l => numB ((l.drop 15).take 4)) e
    simp only [formH_log] at this
    rwa [numB_lit 4 _ (by omega), numB_lit 4 _ (by omega)] at this
  have e5 : h.all = k.all := by
    have := congrArg (fun l => numB ((l.drop 19).take 4)) e
    simp only [formH_all] at this
    rwa [numB_lit 4 _ (by omega), numB_lit 4 _ (by omega)] at this
  cases h; cases k; simp only at e1 e2 e3 e4 e5; rw [e1, e2, e3, e4, e5]
/-! ### Data in sectors -/
def DataAt (S : List Sec) (o : Nat) (bs : List Nat) : Prop := ∀ i, i < bs.length → ∃ d, S[o + i / 64]? = some d ∧ d.1.getD (i % 64) 0 = bs.getD i 0
def chunkL (bs : List Nat) (i : Nat) : List Nat := ((bs.drop (i * 64)).take 64) ++ List.replicate (64 - ((bs.drop (i * 64)).take 64).length) 0
theorem chunkL_len (bs : List Nat) (i : Nat) : (chunkL bs i).length = 64 := by
  unfold chunkL
  rw [List.length_append, List.length_replicate]
  have : ((bs.drop (i * 64)).take 64).length ≤ 64 := List.length_take_le ..
  omega
def chunk (bs : List Nat) (i : Nat) : Sec := ⟨chunkL bs i, chunkL_len bs i⟩
theorem chunk_get (bs : List Nat) (i j : Nat) (hj : j < 64) (h : i * 64 + j < bs.length) : (chunk bs i).1.getD j 0 = bs.getD (i * 64 + j) 0 := by
  show (chunkL bs i).getD j 0 = _
  unfold chunkL
  rw [List.getD_eq_getElem?_getD, List.getD_eq_getElem?_getD, List.getElem?_append_left (by rw [List.length_take, List.length_drop]; omega), List.getElem?_take_of_lt hj, List.getElem?_drop]
def pieces (o : Nat) (bs : List Nat) : List (Nat × Sec) := (List.range (secs bs.length)).map fun i => (o + i, chunk bs i)
theorem land_other {S : List Sec} {e : Nat × Sec} {p : Nat} (h : p ≠ e.1) : (landS S e)[p]? = S[p]? := by
  unfold landS; rw [List.getElem?_set_ne (Ne.symm h)]
theorem land_here {S : List Sec} {e : Nat × Sec} (h : e.1 < S.length) : (landS S e)[e.1]? = some e.2 := by
  unfold landS; rw [List.getElem?_set_self h]
theorem land_len {S : List Sec} {e : Nat × Sec} : (landS S e).length = S.length := List.length_set ..
theorem fold_len : ∀ (P : List (Nat × Sec)) (S : List Sec), (P.foldl landS S).length = S.length
  | [], _ => rfl
  | e :: r, S => by rw [List.foldl_cons, fold_len r, land_len]
theorem fold_other : ∀ (P : List (Nat × Sec)) (S : List Sec) (p : Nat), (∀ e ∈ P, p ≠ e.1) → (P.foldl landS S)[p]? = S[p]?
  | [], _, _, _ => rfl
  | e :: r, S, p, h => by rw [List.foldl_cons, fold_other r _ p (fun x hx => h x (List.mem_cons_of_mem _ hx)), land_other (h e (List.mem_cons_self ..))]
theorem fold_range (o : Nat) (f : Nat → Sec) (S : List Sec) : ∀ n, o + n ≤ S.length → ∀ k, k < n → (((List.range n).map fun i => (o + i, f i)).foldl landS S)[o + k]? = some (f k)
  | 0, _, k, h => by omega
  | n + 1, hl, k, h => by
    rw [List.range_succ, List.map_append, List.foldl_append]
    show (landS _ (o + n, f n))[o + k]? = _
    by_cases hk : k = n
    · subst hk
      exact land_here (e := (o + k, f k)) (by rw [fold_len]; show o + k < S.length; omega)
    · rw [land_other (e := (o + n, f n)) (by show o + k ≠ o + n; omega)]
      exact fold_range o f S n (by omega) k (by omega)
theorem pieces_data {S : List Sec} {o : Nat} {bs : List Nat} (h : o + secs bs.length ≤ S.length) : DataAt ((pieces o bs).foldl landS S) o bs := fun i hi => by
  have hk : i / 64 < secs bs.length := by unfold secs; omega
  refine ⟨chunk bs (i / 64), fold_range o _ S _ h _ hk, ?_⟩
  rw [chunk_get bs (i / 64) (i % 64) (Nat.mod_lt _ (by decide)) (by omega), show i / 64 * 64 + i % 64 = i by omega]
theorem DataAt.land {S : List Sec} {o : Nat} {bs : List Nat} (h : DataAt S o bs) (e : Nat × Sec) (he : ∀ i, i < bs.length → o + i / 64 = e.1 → e.2.1.getD (i % 64) 0 = bs.getD i 0) (hl : e.1 < S.length) : DataAt (landS S e) o bs := fun i hi => by
  by_cases hp : o + i / 64 = e.1
  · exact ⟨e.2, by rw [hp]; exact land_here hl, he i hi hp⟩
  · obtain ⟨d, h1, h2⟩ := h i hi
    exact ⟨d, by rw [land_other hp]; exact h1, h2⟩
theorem DataAt.far {S : List Sec} {o : Nat} {bs : List Nat} (h : DataAt S o bs) (e : Nat × Sec) (he : e.1 < o ∨ o + secs bs.length ≤ e.1) : DataAt (landS S e) o bs := fun i hi => by
  obtain ⟨d, h1, h2⟩ := h i hi
  exact ⟨d, by rw [land_other (by unfold secs at he; omega)]; exact h1, h2⟩
/-! ### What a plate holds -/
structure Vt where
  hd : Hd
  snap : List Nat
  log : List Nat
  recs : List (List Nat)
def begA (room a : Nat) : Nat := 2 + a * room
def logL (l : List (List Nat)) : List Nat := l.flatMap rawF
theorem logL_len : ∀ l : List (List Nat), l.length ≤ (logL l).length
  | [] => Nat.le_refl _
  | r :: l => by
    have h1 := logL_len l
    have h2 := rawF_pos r
    unfold logL at h1 ⊢
    rw [List.flatMap_cons, List.length_append, List.length_cons]
    omega
structure Inv (S : List Sec) (room : Nat) (v : Vt) : Prop where
  ok : v.hd.Ok room
  len : 2 + 2 * room ≤ S.length
  here : S[v.hd.gen % 2]? = some (headS v.hd)
  there : S[(v.hd.gen + 1) % 2]? = some zSec ∨ ∃ h' : Hd, h'.Ok room ∧ S[(v.hd.gen + 1) % 2]? = some (headS h') ∧ h'.gen < v.hd.gen
  snap : v.hd.snap = v.snap.length
  log : v.hd.log = v.log.length
  all : v.hd.all = v.recs.length
  logE : v.log = logL v.recs
  dsnap : DataAt S (begA room v.hd.area) v.snap
  dlog : DataAt S (begA room v.hd.area + secs v.snap.length) v.log
theorem area_cases {a : Nat} (h : a ≤ 1) : a = 0 ∨ a = 1 := by omega
theorem Inv.land {S : List Sec} {room : Nat} {v : Vt} (h : Inv S room v) (e : Nat × Sec) (hp : 2 ≤ e.1) (h1 : e.1 < begA room v.hd.area ∨ begA room v.hd.area + secs v.snap.length ≤ e.1) (h2 : ∀ i, i < v.log.length → begA room v.hd.area + secs v.snap.length + i / 64 = e.1 → e.2.1.getD (i % 64) 0 = v.log.getD i 0) (hl : e.1 < S.length) : Inv (landS S e) room v := by
  have hn : ∀ k, (landS S e)[k % 2]? = S[k % 2]? := fun k => land_other (by omega)
  exact ⟨h.ok, by rw [land_len]; exact h.len, by rw [hn]; exact h.here, by rw [hn]; exact h.there, h.snap, h.log, h.all, h.logE, h.dsnap.far e h1, h.dlog.land e h2 hl⟩
def appW (room : Nat) (v : Vt) (more : List Nat) : List (Nat × Sec) := pieces (begA room v.hd.area + secs v.snap.length + v.log.length / 64) ((v.log ++ more).drop (v.log.length / 64 * 64))
def appV (v : Vt) (r : List Nat) : Vt := ⟨⟨v.hd.gen + 1, v.hd.area, v.hd.snap, (v.log ++ rawF r).length, v.hd.all + 1⟩, v.snap, v.log ++ rawF r, v.recs ++ [r]⟩
theorem mem_pieces {o : Nat} {bs : List Nat} {e : Nat × Sec} (h : e ∈ pieces o bs) : ∃ i, i < secs bs.length ∧ e = (o + i, chunk bs i) := by
  unfold pieces at h
  obtain ⟨i, hi, rfl⟩ := List.mem_map.1 h
  exact ⟨i, List.mem_range.1 hi, rfl⟩
theorem app_part {room : Nat} {v : Vt} {more : List Nat} (hfit : secs v.snap.length + secs (v.log ++ more).length ≤ room) {T : List Sec} {e : Nat × Sec} (he : e ∈ appW room v more) (h : Inv T room v) : Inv (landS T e) room v := by
  obtain ⟨i, hi, rfl⟩ := mem_pieces he
  rw [List.length_drop] at hi
  have hlen : v.log.length ≤ (v.log ++ more).length := by rw [List.length_append]; omega
  have ha : begA room v.hd.area + room ≤ 2 + 2 * room := by
    unfold begA
    rcases area_cases h.ok.area with q | q <;> rw [q] <;> omega
  have hb : 2 ≤ begA room v.hd.area := by unfold begA; omega
  have hs : v.log.length / 64 + secs ((v.log ++ more).length - v.log.length / 64 * 64) = secs (v.log ++ more).length := by unfold secs; omega
  have hl := h.len
  refine h.land _ (by show 2 ≤ _; omega) (.inr (by show _ ≤ _ + i; omega)) (fun t ht hq => ?_) (by show _ + i < _; omega)
  have hq' : begA room v.hd.area + secs v.snap.length + t / 64 = begA room v.hd.area + secs v.snap.length + v.log.length / 64 + i := hq
  have hti : t / 64 = v.log.length / 64 + i := by omega
  show (chunk _ i).1.getD (t % 64) 0 = _
  rw [chunk_get _ _ _ (Nat.mod_lt _ (by decide)) (by rw [List.length_drop]; omega), List.getD_eq_getElem?_getD, List.getElem?_drop, show v.log.length / 64 * 64 + (i * 64 + t % 64) = t by omega, List.getElem?_append_left ht, List.getD_eq_getElem?_getD]
theorem app_done {room : Nat} {v : Vt} {r : List Nat} {S : List Sec} (hfit : secs v.snap.length + secs (v.log ++ rawF r).length ≤ room) (hg : v.hd.gen + 1 < 18446744073709551615) (h : Inv S room v) :
    Inv (landS ((appW room v (rawF r)).foldl landS S) ((v.hd.gen + 1) % 2, headS (appV v r).hd)) room (appV v r) := by
  have hF := fold_some (appW room v (rawF r)) S (fun T => Inv T room v) h (fun T e he hT => app_part hfit he hT)
  have hlen : v.log.length ≤ (v.log ++ rawF r).length := by rw [List.length_append]; omega
  have ha : begA room v.hd.area + room ≤ 2 + 2 * room := by
    unfold begA
    rcases area_cases h.ok.area with q | q <;> rw [q] <;> omega
  have hb : 2 ≤ begA room v.hd.area := by unfold begA; omega
  have hs : v.log.length / 64 + secs ((v.log ++ rawF r).length - v.log.length / 64 * 64) = secs (v.log ++ rawF r).length := by unfold secs; omega
  have hSl : ((appW room v (rawF r)).foldl landS S).length = S.length := fold_len _ _
  have hl := h.len
  have hd : DataAt ((appW room v (rawF r)).foldl landS S) (begA room v.hd.area + secs v.snap.length) (v.log ++ rawF r) := by
    intro t ht
    by_cases hq : t / 64 < v.log.length / 64
    · obtain ⟨d, q1, q2⟩ := h.dlog t (by omega)
      refine ⟨d, ?_, by rw [q2, List.getD_eq_getElem?_getD, List.getD_eq_getElem?_getD, List.getElem?_append_left (by omega)]⟩
      rw [fold_other _ _ _ (fun e he => ?_)]
      · exact q1
      · obtain ⟨i, hi, rfl⟩ := mem_pieces he
        show _ ≠ _ + i
        omega
    · have hp := pieces_data (S := S) (o := begA room v.hd.area + secs v.snap.length + v.log.length / 64) (bs := (v.log ++ rawF r).drop (v.log.length / 64 * 64)) (by rw [List.length_drop]; omega)
      obtain ⟨d, q1, q2⟩ := hp (t - v.log.length / 64 * 64) (by rw [List.length_drop]; omega)
      refine ⟨d, ?_, ?_⟩
      · rw [← q1, show begA room v.hd.area + secs v.snap.length + v.log.length / 64 + (t - v.log.length / 64 * 64) / 64 = begA room v.hd.area + secs v.snap.length + t / 64 by omega]; rfl
      · rw [show (t - v.log.length / 64 * 64) % 64 = t % 64 by omega] at q2
        rw [q2, List.getD_eq_getElem?_getD, List.getElem?_drop, show v.log.length / 64 * 64 + (t - v.log.length / 64 * 64) = t by omega, List.getD_eq_getElem?_getD]
  have hal := logL_len v.recs
  have hp1 : 1 ≤ (rawF r).length := rawF_pos r
  have hall := h.all
  have hle := h.logE
  refine ⟨⟨⟨by show 1 ≤ v.hd.gen + 1; omega, hg⟩, h.ok.area, by show secs v.hd.snap + secs _ ≤ room; rw [h.snap]; exact hfit, h.ok.room, ?_⟩, by rw [land_len, hSl]; exact h.len, ?_, ?_, h.snap, rfl, ?_, ?_, ?_, ?_⟩
  · show v.hd.all + 1 ≤ (v.log ++ rawF r).length
    rw [List.length_append, hall, hle]; omega
  · show (landS _ ((v.hd.gen + 1) % 2, _))[(v.hd.gen + 1) % 2]? = _
    exact land_here (e := ((v.hd.gen + 1) % 2, headS (appV v r).hd)) (by show (v.hd.gen + 1) % 2 < _; rw [hSl]; omega)
  · refine .inr ⟨v.hd, h.ok, ?_, by show v.hd.gen < v.hd.gen + 1; omega⟩
    show (landS _ ((v.hd.gen + 1) % 2, _))[(v.hd.gen + 1 + 1) % 2]? = _
    rw [land_other (e := ((v.hd.gen + 1) % 2, headS (appV v r).hd)) (by show (v.hd.gen + 1 + 1) % 2 ≠ (v.hd.gen + 1) % 2; omega), show (v.hd.gen + 1 + 1) % 2 = v.hd.gen % 2 by omega]
    exact hF.here
  · show v.hd.all + 1 = (v.recs ++ [r]).length
    rw [List.length_append, h.all]; rfl
  · show v.log ++ rawF r = logL (v.recs ++ [r])
    unfold logL
    rw [List.flatMap_append, h.logE]
    simp [logL]
  · exact hF.dsnap.far _ (.inl (by show (v.hd.gen + 1) % 2 < begA room v.hd.area; omega))
  · exact hd.far _ (.inl (by show (v.hd.gen + 1) % 2 < begA room v.hd.area + secs v.snap.length; omega))
def cmpW (room area : Nat) (snap : List Nat) : List (Nat × Sec) := pieces (begA room area) snap
def cmpV (gen area : Nat) (snap : List Nat) : Vt := ⟨⟨gen, area, snap.length, 0, 0⟩, snap, [], []⟩
theorem cmp_part {room : Nat} {v : Vt} {snap : List Nat} (hfit : secs snap.length ≤ room) {T : List Sec} {e : Nat × Sec} (he : e ∈ cmpW room (1 - v.hd.area) snap) (h : Inv T room v) : Inv (landS T e) room v := by
  obtain ⟨i, hi, rfl⟩ := mem_pieces he
  have hl := h.len
  have hf := h.ok.fits
  rw [h.snap, h.log] at hf
  have hq : begA room (1 - v.hd.area) + i < begA room v.hd.area ∨ begA room v.hd.area + secs v.snap.length + secs v.log.length ≤ begA room (1 - v.hd.area) + i := by
    unfold begA
    rcases area_cases h.ok.area with q | q <;> rw [q] <;> omega
  have hb : begA room (1 - v.hd.area) + room ≤ 2 + 2 * room ∧ 2 ≤ begA room (1 - v.hd.area) := by
    unfold begA
    rcases area_cases h.ok.area with q | q <;> rw [q] <;> omega
  refine h.land _ (by show 2 ≤ _ + i; omega) ?_ (fun t ht hq2 => ?_) (by show _ + i < _; omega)
  · show _ + i < _ ∨ _ ≤ _ + i
    omega
  · have hq2' : begA room v.hd.area + secs v.snap.length + t / 64 = begA room (1 - v.hd.area) + i := hq2
    have : t / 64 < secs v.log.length := by unfold secs; omega
    omega
theorem cmp_new {room gen area : Nat} {snap : List Nat} {S : List Sec} (hfit : secs snap.length ≤ room) (hr : room ≤ 100000) (ha : area ≤ 1) (hg : 1 ≤ gen ∧ gen < 18446744073709551615) (hl : 2 + 2 * room ≤ S.length)
    (ho : S[(gen + 1) % 2]? = some zSec ∨ ∃ h' : Hd, h'.Ok room ∧ S[(gen + 1) % 2]? = some (headS h') ∧ h'.gen < gen) :
    Inv (landS ((cmpW room area snap).foldl landS S) (gen % 2, headS (cmpV gen area snap).hd)) room (cmpV gen area snap) := by
  have hb : begA room area + room ≤ 2 + 2 * room ∧ 2 ≤ begA room area := by
    unfold begA
    rcases area_cases ha with q | q <;> rw [q] <;> omega
  have hSl : ((cmpW room area snap).foldl landS S).length = S.length := fold_len _ _
  have hn : ∀ k, ((cmpW room area snap).foldl landS S)[k % 2]? = S[k % 2]? := fun k => fold_other _ _ _ (fun e he => by
    obtain ⟨i, hi, rfl⟩ := mem_pieces he
    show k % 2 ≠ _ + i
    omega)
  refine ⟨⟨hg, ha, by show secs snap.length + secs 0 ≤ room; unfold secs at hfit ⊢; omega, hr, Nat.le_refl _⟩, by rw [land_len, hSl]; exact hl, ?_, ?_, rfl, rfl, rfl, rfl, ?_, ?_⟩
  · show (landS _ (gen % 2, _))[gen % 2]? = _
    exact land_here (e := (gen % 2, headS (cmpV gen area snap).hd)) (by show gen % 2 < _; rw [hSl]; omega)
  · show (landS _ (gen % 2, _))[(gen + 1) % 2]? = _ ∨ ∃ h' : Hd, h'.Ok room ∧ (landS _ (gen % 2, _))[(gen + 1) % 2]? = _ ∧ _
    rw [land_other (e := (gen % 2, headS (cmpV gen area snap).hd)) (by show (gen + 1) % 2 ≠ gen % 2; omega), hn]
    exact ho
  · have hp := pieces_data (S := S) (o := begA room area) (bs := snap) (by omega)
    exact DataAt.far hp _ (.inl (by show gen % 2 < begA room area; omega))
  · intro i hi
    exact absurd hi (Nat.not_lt_zero _)
structure Fresh (S : List Sec) (room : Nat) : Prop where
  len : 2 + 2 * room ≤ S.length
  z0 : S[0]? = some zSec
  z1 : S[1]? = some zSec
theorem fresh_part {room area : Nat} {snap : List Nat} {T : List Sec} {e : Nat × Sec} (he : e ∈ cmpW room area snap) (h : Fresh T room) : Fresh (landS T e) room := by
  obtain ⟨i, hi, rfl⟩ := mem_pieces he
  have hb : 2 ≤ begA room area := by unfold begA; omega
  exact ⟨by rw [land_len]; exact h.len, by rw [land_other (by show 0 ≠ _ + i; omega)]; exact h.z0, by rw [land_other (by show 1 ≠ _ + i; omega)]; exact h.z1⟩
/-- Whatever lands: what was, or what a commit makes. -/
theorem crash {A B : List Sec → Prop} (s : Ps) (ws : List (Nat × Sec)) (h : Nat × Sec) (hd : s.down = false) (hp : s.pend = []) (hA : A s.sure) (hpart : ∀ T e, e ∈ ws → A T → A (landS T e)) (hB : B (landS (ws.foldl landS s.sure) h)) :
    ((commitP s ws h).1 = 0 ∧ (commitP s ws h).2.down = false ∧ (commitP s ws h).2.pend = [] ∧ B (commitP s ws h).2.sure) ∨
    ((commitP s ws h).1 = 280 ∧ (commitP s ws h).2.down = true ∧ (A (commitP s ws h).2.up.sure ∨ B (commitP s ws h).2.up.sure)) := by
  rcases commitP_cases s ws h hd hp with ⟨h1, h2, h3, h4⟩ | ⟨h1, h2, h3, ws1, ws2, h4, h5⟩ | ⟨h1, h2, h3, h4⟩
  · left; exact ⟨h1, h2, h3, by rw [h4]; exact hB⟩
  · right
    refine ⟨h1, h2, .inl ?_⟩
    unfold Ps.up
    show A (upL _ 0 _ _)
    rw [h3, h5]
    exact upL_some _ _ _ _ A hA (fun T e he => hpart T e (by rw [h4]; exact List.mem_append_left _ he))
  · right
    refine ⟨h1, h2, ?_⟩
    unfold Ps.up
    show A (upL _ 0 _ _) ∨ B (upL _ 0 _ _)
    rw [h3, h4, upL, upL]
    split
    · exact .inr hB
    · exact .inl (fold_some ws s.sure A hA hpart)
/-! ### What is read of sectors -/
theorem flat64_len (f : Nat → Sec) : ∀ k, ((List.range k).flatMap fun j => (f j).1).length = k * 64
  | 0 => rfl
  | k + 1 => by
    rw [List.range_succ, List.flatMap_append, List.length_append, flat64_len f k]
    simp [(f k).2]
    omega
theorem flat64_get (f : Nat → Sec) : ∀ k i, i < k * 64 → ((List.range k).flatMap fun j => (f j).1)[i]? = some ((f (i / 64)).1.getD (i % 64) 0)
  | 0, i, h => by omega
  | k + 1, i, h => by
    rw [List.range_succ, List.flatMap_append]
    by_cases hi : i < k * 64
    · rw [List.getElem?_append_left (by rw [flat64_len]; exact hi)]
      exact flat64_get f k i hi
    · rw [List.getElem?_append_right (by rw [flat64_len]; omega), flat64_len]
      have hk : i / 64 = k := by omega
      have hj : i - k * 64 = i % 64 := by omega
      have hl : i % 64 < (f k).1.length := by rw [(f k).2]; omega
      rw [hk, hj]
      simp only [List.flatMap_cons, List.flatMap_nil, List.append_nil]
      rw [List.getD_eq_getElem?_getD, List.getElem?_eq_getElem hl]
      rfl
/-- The sector at a place, as it is sure. -/
def secAt (S : List Sec) (p : Nat) : Sec := S.getD p zSec
theorem secAt_of {S : List Sec} {p : Nat} {d : Sec} (h : S[p]? = some d) : secAt S p = d := by unfold secAt; rw [List.getD_eq_getElem?_getD, h]; rfl
def flatS (S : List Sec) (o k : Nat) : List Nat := (List.range k).flatMap fun j => (secAt S (o + j)).1
theorem read_data {S : List Sec} {o : Nat} {bs : List Nat} (h : DataAt S o bs) : (flatS S o (secs bs.length)).take bs.length = bs := by
  refine List.ext_getElem? fun i => ?_
  by_cases hi : i < bs.length
  · rw [List.getElem?_take_of_lt hi]
    unfold flatS
    rw [flat64_get (fun j => secAt S (o + j)) _ i (by unfold secs; omega)]
    obtain ⟨d, h1, h2⟩ := h i hi
    rw [secAt_of h1, h2, List.getD_eq_getElem?_getD, List.getElem?_eq_getElem hi]
    rfl
  · rw [List.getElem?_eq_none (by rw [List.length_take]; omega), List.getElem?_eq_none (by omega)]
/-! ### A plate that is not armed -/
theorem write_calm {s : Ps} {e : Nat × Sec} (hd : s.down = false) (ha : s.armed = false) : (s.write e).1 = 0 ∧ (s.write e).2.down = false ∧ (s.write e).2.armed = false := by
  unfold Ps.write Ps.power
  rw [hd]
  simp [ha]
theorem sync_calm {s : Ps} (hd : s.down = false) (ha : s.armed = false) : s.sync.1 = 0 ∧ s.sync.2.down = false ∧ s.sync.2.armed = false := by
  unfold Ps.sync Ps.power
  rw [hd]
  simp [ha]
theorem putP_calm : ∀ (ws : List (Nat × Sec)) (s : Ps), s.down = false → s.armed = false → (putP s ws).1 = 0 ∧ (putP s ws).2.down = false ∧ (putP s ws).2.armed = false
  | [], s, hd, ha => sync_calm hd ha
  | e :: r, s, hd, ha => by
    obtain ⟨h1, h2, h3⟩ := write_calm (e := e) hd ha
    rw [putP, if_pos h1]
    exact putP_calm r _ h2 h3
theorem commitP_calm {s : Ps} {ws : List (Nat × Sec)} {h : Nat × Sec} (hd : s.down = false) (ha : s.armed = false) : (commitP s ws h).1 = 0 ∧ (commitP s ws h).2.armed = false := by
  obtain ⟨h1, h2, h3⟩ := putP_calm ws s hd ha
  unfold commitP
  rw [if_pos h1]
  obtain ⟨g1, g2, g3⟩ := putP_calm [h] _ h2 h3
  exact ⟨g1, g3⟩
/-- The head that counts. -/
theorem Inv.slots {S : List Sec} {room : Nat} {v : Vt} (h : Inv S room v) : (v.hd.gen % 2 = 0 ∧ S[0]? = some (headS v.hd) ∧ (S[1]? = some zSec ∨ ∃ h' : Hd, h'.Ok room ∧ S[1]? = some (headS h') ∧ h'.gen < v.hd.gen)) ∨ (v.hd.gen % 2 = 1 ∧ S[1]? = some (headS v.hd) ∧ (S[0]? = some zSec ∨ ∃ h' : Hd, h'.Ok room ∧ S[0]? = some (headS h') ∧ h'.gen < v.hd.gen)) := by
  have h1 := h.here
  have h2 := h.there
  rcases (show v.hd.gen % 2 = 0 ∨ v.hd.gen % 2 = 1 by omega) with q | q
  · left
    rw [q] at h1
    rw [show (v.hd.gen + 1) % 2 = 1 by omega] at h2
    exact ⟨q, h1, h2⟩
  · right
    rw [q] at h1
    rw [show (v.hd.gen + 1) % 2 = 0 by omega] at h2
    exact ⟨q, h1, h2⟩
end Go.Proofs.Ytkkncijbedfdfaa
