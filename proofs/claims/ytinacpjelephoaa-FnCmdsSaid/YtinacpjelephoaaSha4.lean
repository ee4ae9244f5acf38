/-
  Sha and Short in the program as the plain function shaL. Conditions: a string of at most 2^40 bytes; the table of constants lies at its place.
-/
import Derived.Test.YtinacpjelephoaaSha2
import Derived.Test.YtinacpjelephoaaRegF
import Derived.Test.YtinacpjelephoaaNumC
namespace Go.Proofs.Ytinacpjelephoaa
open Go.RowKit









theorem run_isAgg_u32 (w : World) : (isAgg 85).run Try.prog w = .ok false w := by
  unfold Go.isAgg
  simp [Sem.run_bind, run_underlying Try.underlying85, Result.andThen]
theorem run_sizeOf_u32 (w : World) : (sizeOf 85).run Try.prog w = .ok 1 w := by
  have h0 : (Try.prog.info? 85).map (fun i => i.size) = some 1 := by kernel_rfl
  obtain ⟨i, hi, hz⟩ := Option.map_eq_some_iff.1 h0
  unfold sizeOf typeInfo Go.program
  simp only [Sem.run_bind, Sem.run, Result.andThen, hi, hz, Sem.run_pure]






theorem fixed8 (n : Nat) (hn : n < 72057594037927936) : fixedL 8 n = 0 :: fixedL 7 n := by
  have h := fixedL_top 7 n
  rw [Nat.mod_eq_of_lt (show n < 256 ^ (7 + 1) by omega), Nat.mod_eq_of_lt (show n < 256 ^ 7 by omega), Nat.div_eq_of_lt (show n < 256 ^ 7 by omega)] at h
  exact h
theorem fixed7_of (n : Nat) (x : Int) (hx : x = (n : Int)) (hn : n < 72057594037927936) : fixedF x 7 = fixedL 7 n := by
  rw [hx]
  exact fixedF_nat (width := 7) (by omega) (by omega) (by omega)
theorem fixed4_of (n : Nat) (hn : n < 4294967296) : fixedF (n : Int) 4 = fixedL 4 n := fixedF_nat (width := 4) (by omega) (by omega) (by omega)
theorem padL_eq (l : List UInt8) (Z : Nat) (hZ : Z = shaZ l.length) (hl : l.length ≤ 1099511627776) : l ++ [128] ++ List.replicate (Z + 1) 0 ++ fixedL 7 (8 * l.length) = padL l := by
  rw [padL, fixed8 _ (by omega), hZ, List.replicate_succ', List.append_assoc, List.append_assoc, List.append_assoc]
  simp
theorem outL_snoc (l : List Nat) (j : Nat) (hj : j < l.length) : outL (l.take j) ++ fixedL 4 (l.getD j 0) = outL (l.take (j + 1)) := by
  rw [List.take_succ_eq_append_getElem hj, outL, outL, List.flatMap_append, List.getD_eq_getElem?_getD, List.getElem?_eq_getElem hj]
  simp















































































































































































































def shortL (l : List UInt8) : List UInt8 := (shaL l).take 8



















end Go.Proofs.Ytinacpjelephoaa
