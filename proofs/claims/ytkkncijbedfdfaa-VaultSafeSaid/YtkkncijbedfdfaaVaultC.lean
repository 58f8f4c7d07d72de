/-
  A log's records are read as they were written: the plain law.
-/
import Derived.Test.YtkkncijbedfdfaaBackP
import Derived.Test.YtkkncijbedfdfaaVaultL
namespace Go.Proofs.Ytkkncijbedfdfaa
open Go.RowKit
set_option linter.unusedVariables false

/-- A record stands at a place of a log: it is read whole. -/
theorem raw_rec {t : Rd} {b r : List Nat} (he : t.e = 0) (hb : b.length ≤ 16384) (hd : t.xs.drop t.at_ = rawF b ++ r) : t.raw 16384 = (b, ⟨t.xs, t.at_ + (rawF b).length, 0⟩) := by
  have hd' : t.xs.drop t.at_ = (formN b.length ++ (b ++ r)).take (formN b.length ++ (b ++ r)).length := by
    rw [List.take_of_length_le (Nat.le_refl _), hd]; unfold rawF; rw [List.append_assoc]
  have hn := num_there (M := 16384) he (by omega) hb hd' (by rw [List.length_append]; omega)
  have hd2 := drop_more hd' (by rw [List.length_append]; omega)
  have hlen : t.xs.length - (t.at_ + (formN b.length).length) = ((b ++ r).take ((formN b.length ++ (b ++ r)).length - (formN b.length).length)).length := by rw [← hd2, List.length_drop]
  have hL : (formN b.length ++ (b ++ r)).length - (formN b.length).length = (b ++ r).length := by rw [List.length_append]; omega
  rw [hL, List.take_of_length_le (Nat.le_refl _)] at hd2 hlen
  rw [List.length_append] at hlen
  have hi : t.int (16384 : Int) = t.num 16384 := int_nat t 16384
  unfold Rd.raw
  rw [if_pos he, hi, hn]
  simp only [if_true]
  rw [if_neg (by omega), hd2, List.take_left]
  unfold rawF
  rw [List.length_append, Nat.add_assoc]
theorem logL_succ {l : List (List Nat)} {j : Nat} {b : List Nat} (h : l[j]? = some b) : logL (l.take (j + 1)) = logL (l.take j) ++ rawF b := by
  obtain ⟨hl, he⟩ := List.getElem?_eq_some_iff.1 h
  rw [List.take_succ_eq_append_getElem hl, he]
  unfold logL
  rw [List.flatMap_append]
  simp
theorem logL_split {l : List (List Nat)} {j : Nat} {b : List Nat} (h : l[j]? = some b) : (logL l).drop (logL (l.take j)).length = rawF b ++ logL (l.drop (j + 1)) := by
  obtain ⟨hl, he⟩ := List.getElem?_eq_some_iff.1 h
  have h1 : logL l = logL (l.take j) ++ (rawF b ++ logL (l.drop (j + 1))) := by
    have h2 : l = l.take j ++ (b :: l.drop (j + 1)) := by
      rw [← he, ← List.drop_eq_getElem_cons hl, List.take_append_drop]
    conv => lhs; rw [h2]
    unfold logL
    rw [List.flatMap_append, List.flatMap_cons]
  rw [h1, List.drop_left]
end Go.Proofs.Ytkkncijbedfdfaa
