/- The keys of the seed 5. -/
import Derived.Test.YtbkgfndojlhdoaaDoorDK0
import Derived.Test.YtbkgfndojlhdoaaDoorDK1
import Derived.Test.YtbkgfndojlhdoaaDoorDK2
namespace Go.Proofs.YtbkgfndojlhdoaaDoor
set_option linter.unusedSimpArgs false
set_option linter.unusedVariables false
open Go Go.PL Go.RowKit

def s5L : List UInt8 := 5 :: List.replicate 15 0
theorem leaf_0 : leafF s5L 0 = bytesW [1674300918, 4173054103, 1280360358, 2491011641] := (short_W _ 1 [83886080, 0, 0, 0, 16646272, 0, 0, 0, 0, 0, 0, 0, 0, 0, 0, 152] (by decide +kernel) (by decide) (by decide)).trans (congrArg bytesW (by decide +kernel))
theorem leaf_1 : leafF s5L 1 = bytesW [2018225579, 147720239, 3994688949, 1977592873] := (short_W _ 1 [83886080, 0, 0, 0, 33423488, 0, 0, 0, 0, 0, 0, 0, 0, 0, 0, 152] (by decide +kernel) (by decide) (by decide)).trans (congrArg bytesW (by decide +kernel))
theorem node_00 : nodeF s5L 0 0 = bytesW [2102879758, 1341705426, 8164416, 3214025445] := by rw [nodeF, leaf_0]; exact pub_k0
theorem node_01 : nodeF s5L 0 1 = bytesW [974444291, 790107754, 2268839584, 3187431869] := by rw [nodeF, leaf_1]; exact pub_k1
theorem node_10 : nodeF s5L 1 0 = bytesW [128572059, 2140762194, 728050529, 4144368984] := by
  rw [nodeF, show 2 * 0 = 0 from rfl, show 0 + 1 = 1 from rfl, node_00, node_01]
  exact (short_W _ 1 [24991590, 240122060, 3523247252, 1086296610, 3845788887, 53418006, 1787247550, 2696805465, 3179282432, 0, 0, 0, 0, 0, 0, 264] (by decide +kernel) (by decide) (by decide)).trans (congrArg bytesW (by decide +kernel))
theorem bad_10 : joinedF (nodeF s5L 0 0) (recF [110] (signF (leafF s5L 1) [109])) = bytesW [4227984392, 2233333087, 3990615685, 578457946] := by
  rw [leaf_1, rec_n, node_00]
  exact (short_W _ 1 [24991590, 240122060, 3523247252, 1086296610, 3848957564, 35681782, 1576181552, 1796108387, 914358272, 0, 0, 0, 0, 0, 0, 264] (by decide +kernel) (by decide) (by decide)).trans (congrArg bytesW (by decide +kernel))
theorem path_11 : pathF s5L 1 1 = [nodeF s5L 0 0] := rfl
theorem alive_bad : rootF (1 : Nat) (1 : Nat) [110] (signF (leafF s5L 1) [109]) (pathF s5L 1 1) ≠ nodeF s5L 1 0 := by
  have h : rootF (1 : Nat) (1 : Nat) [110] (signF (leafF s5L 1) [109]) (pathF s5L 1 1) = upF (recF [110] (signF (leafF s5L 1) [109])) 1 (pathF s5L 1 1) (pathF s5L 1 1).length := if_pos (check_sign (by decide) (by decide))
  rw [h, pathF_length, upF, upF, path_11]
  have e : stepU (recF [110] (signF (leafF s5L 1) [109])) (1 / 2 ^ 0) ([nodeF s5L 0 0].getD 0 []) = joinedF (nodeF s5L 0 0) (recF [110] (signF (leafF s5L 1) [109])) := if_neg (by decide)
  rw [e, bad_10, node_10]
  decide +kernel

end Go.Proofs.YtbkgfndojlhdoaaDoor
