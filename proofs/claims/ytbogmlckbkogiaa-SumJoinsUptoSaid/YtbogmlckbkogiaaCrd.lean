/- Bytes with their sum behind them: program and reference make the same row. Conditions: rows below 2^47 - 4 bytes. -/
import Derived.Test.YtbogmlckbkogiaaCrc
import Derived.Test.YtbogmlckbkogiaaPMooringref04Append
import Derived.Test.YtbogmlckbkogiaaPSumAppend
import Derived.Test.YtbogmlckbkogiaaHSum
namespace Go.Proofs.Ytbogmlckbkogiaa.Crc
open Go.RowKit Go.Proofs.YtbogmlckbkogiaaW.PrintWords Go.Proofs.Ytbogmlckbkogiaa.Leaf Go.Proofs.Ytbogmlckbkogiaa.P Go.Proofs.Ytbogmlckbkogiaa.Gf Go.Proofs.Ytbogmlckbkogiaa.H
/-- A sum's four bytes. -/
def four (s : W32) : List Int := [ofW s % 256, ofW s / 256 % 256, ofW s / 65536 % 256, ofW s / 16777216 % 256]
/-- Bytes with their sum behind them. -/
def appB (L : List B) : List Int := ofL L ++ four (sumB L)
theorem appB_length (L : List B) : (appB L).length = L.length + 4 := by unfold appB four; rw [List.length_append, ofL_length]; rfl
theorem sumAppend_eq (L : List B) (hs : L.length + 4 < 140737488355328) : sum_Append.f (ofL L) = some (appB L) := by
  unfold sum_Append.f slices_Clone_byte_byte.f
  rw [sumOf_eq, ofL_length, if_pos (by omega)]
  simp only [Option.bind_some]
  rw [if_pos (by rw [ofL_length]; exact hs)]
  rfl
theorem refAppend (L : List B) (hs : L.length + 4 < 140737488355328) : Ev (fun k => mooringref04_Append.f k (ofL L)) (appB L) := by
  unfold mooringref04_Append.f
  refine Ev.bind (refOf L (by omega)) ?_
  simp only [Option.bind_some, List.length_nil, Nat.zero_add, ofL_length, List.nil_append]
  simp only [show (L.length < 140737488355328) = True from eq_true (by omega), if_true, List.length_cons, List.length_nil, Nat.zero_add, Nat.reduceAdd, show (L.length + 4 < 140737488355328) = True from eq_true hs]
  exact Ev.now _
theorem awake4 : mooringlaw04_awake.f = some true := by decide +kernel
theorem take_ofL (L : List B) (n : Nat) : (ofL L).take n = ofL (L.take n) := by unfold ofL; rw [List.map_take]
/-- What Strip answers. -/
def stripB (L : List B) : List Int × Bool :=
  if L.length < 4 then ([], false) else
  if (strOfNums (appB (L.take (L.length - 4)))).toList = (strOfNums (ofL L)).toList then (ofL (L.take (L.length - 4)), true) else ([], false)
theorem strip_eq (L : List B) (hs : L.length < 140737488355328) : sum_Strip.f (ofL L) = some (stripB L) := by
  unfold sum_Strip.f stripB
  rw [ofL_length]
  by_cases h4 : L.length < 4
  · rw [if_pos h4, if_pos h4]
  · rw [if_neg h4, if_neg h4, take_ofL, sumAppend_eq _ (by rw [List.length_take]; omega), Option.bind_some]
    by_cases h : (strOfNums (appB (L.take (L.length - 4)))).toList = (strOfNums (ofL L)).toList
    · rw [if_pos h, if_pos h]
      unfold slices_Clone_byte_byte.f
      rw [if_pos (by rw [ofL_length, List.length_take]; omega)]
      rfl
    · rw [if_neg h, if_neg h]
end Go.Proofs.Ytbogmlckbkogiaa.Crc
