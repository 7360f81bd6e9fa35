/- The keys of the seed 1 2 3. -/
import Derived.Test.YtbkgfndojlhdoaaDoorDQ0
import Derived.Test.YtbkgfndojlhdoaaDoorDQ1
import Derived.Test.YtbkgfndojlhdoaaDoorDQ2
import Derived.Test.YtbkgfndojlhdoaaDoorDQ3
namespace Go.Proofs.YtbkgfndojlhdoaaDoor
set_option linter.unusedSimpArgs false
set_option linter.unusedVariables false
open Go Go.PL Go.RowKit
def s3L : List UInt8 := [1, 2, 3] ++ List.replicate 13 0
theorem lf_0 : leafF s3L 0 = bytesW [2520661103, 1990393362, 1630567538, 3063340968] := (short_W _ 1 [16909056, 0, 0, 0, 16646272, 0, 0, 0, 0, 0, 0, 0, 0, 0, 0, 152] (by decide +kernel) (by decide) (by decide)).trans (congrArg bytesW (by decide +kernel))
theorem nd_0 : nodeF s3L 0 0 = bytesW [3093347960, 77441575, 3970929873, 3157494100] := by rw [nodeF, lf_0]; exact pub_q0
theorem lf_1 : leafF s3L 1 = bytesW [3952265021, 2968362013, 2128139623, 1113027478] := (short_W _ 1 [16909056, 0, 0, 0, 33423488, 0, 0, 0, 0, 0, 0, 0, 0, 0, 0, 152] (by decide +kernel) (by decide) (by decide)).trans (congrArg bytesW (by decide +kernel))
theorem nd_1 : nodeF s3L 0 1 = bytesW [1874032410, 93272142, 2528771161, 1915694635] := by rw [nodeF, lf_1]; exact pub_q1
theorem lf_2 : leafF s3L 2 = bytesW [1215754961, 2685806233, 3940111871, 3067988362] := (short_W _ 1 [16909056, 0, 0, 0, 50200704, 0, 0, 0, 0, 0, 0, 0, 0, 0, 0, 152] (by decide +kernel) (by decide) (by decide)).trans (congrArg bytesW (by decide +kernel))
theorem nd_2 : nodeF s3L 0 2 = bytesW [2014865523, 245198641, 609946923, 3836229749] := by rw [nodeF, lf_2]; exact pub_q2
theorem lf_3 : leafF s3L 3 = bytesW [3114208515, 4210813386, 2361704101, 448995648] := (short_W _ 1 [16909056, 0, 0, 0, 66977920, 0, 0, 0, 0, 0, 0, 0, 0, 0, 0, 152] (by decide +kernel) (by decide) (by decide)).trans (congrArg bytesW (by decide +kernel))
theorem nd_3 : nodeF s3L 0 3 = bytesW [937074143, 1093224949, 4290349963, 233520684] := by rw [nodeF, lf_3]; exact pub_q3
theorem nd_10 : nodeF s3L 1 0 = bytesW [3304180634, 3310135441, 3788964646, 2926667483] := by
  rw [nodeF, show 2 * 0 = 0 from rfl, show 0 + 1 = 1 from rfl, nd_0, nd_1]
  exact (short_W _ 1 [28860606, 2013568426, 669822868, 3518772105, 1416606583, 436571960, 1318500860, 1500655406, 729808896, 0, 0, 0, 0, 0, 0, 264] (by decide +kernel) (by decide) (by decide)).trans (congrArg bytesW (by decide +kernel))
theorem nd_11 : nodeF s3L 1 1 = bytesW [1002909738, 4247907371, 1321971256, 4144420365] := by
  rw [nodeF, show 2 * 1 = 2 from rfl, show 2 + 1 = 3 from rfl, nd_2, nd_3]
  exact (short_W _ 1 [24647784, 1930337647, 824466189, 736405560, 1966594717, 3745589577, 4127177099, 2332945214, 746586112, 0, 0, 0, 0, 0, 0, 264] (by decide +kernel) (by decide) (by decide)).trans (congrArg bytesW (by decide +kernel))
theorem nd_20 : nodeF s3L 2 0 = bytesW [1692718112, 4219049839, 464146918, 3803931200] := by
  rw [nodeF, show 2 * 0 = 0 from rfl, show 0 + 1 = 1 from rfl, nd_10, nd_11]
  exact (short_W _ 1 [29684171, 2596621480, 2447496963, 648966502, 3678127920, 721236460, 726584238, 955713238, 226492416, 0, 0, 0, 0, 0, 0, 264] (by decide +kernel) (by decide) (by decide)).trans (congrArg bytesW (by decide +kernel))
theorem jn_32 : joinedF (nodeF s3L 0 3) (nodeF s3L 0 2) = bytesW [3826824740, 3120648001, 2246140138, 915309024] := by
  rw [nd_3, nd_2]
  exact (short_W _ 1 [20437661, 3745589577, 4127177099, 2332945214, 746068072, 1930337647, 824466189, 736405560, 1971322880, 0, 0, 0, 0, 0, 0, 264] (by decide +kernel) (by decide) (by decide)).trans (congrArg bytesW (by decide +kernel))
theorem jn_bad : joinedF (nodeF s3L 1 0) (joinedF (nodeF s3L 0 3) (nodeF s3L 0 2)) = bytesW [3529689967, 1968708883, 3099874588, 2010426547] := by
  rw [nd_10, jn_32]
  exact (short_W _ 1 [29684171, 2596621480, 2447496963, 648966502, 3689158838, 616169807, 1099293024, 3929443969, 3766484992, 0, 0, 0, 0, 0, 0, 264] (by decide +kernel) (by decide) (by decide)).trans (congrArg bytesW (by decide +kernel))
theorem path_22 : pathF s3L 2 2 = [nodeF s3L 0 3, nodeF s3L 1 0] := rfl
theorem up_bad : upF (nodeF s3L 0 2) 3 (pathF s3L 2 2) 2 ≠ nodeF s3L 2 0 := by
  rw [upF, upF, upF, path_22]
  have e1 : stepU (nodeF s3L 0 2) (3 / 2 ^ 0) ([nodeF s3L 0 3, nodeF s3L 1 0].getD 0 []) = joinedF (nodeF s3L 0 3) (nodeF s3L 0 2) := if_neg (by decide)
  rw [e1]
  have e2 : stepU (joinedF (nodeF s3L 0 3) (nodeF s3L 0 2)) (3 / 2 ^ 1) ([nodeF s3L 0 3, nodeF s3L 1 0].getD 1 []) = joinedF (nodeF s3L 1 0) (joinedF (nodeF s3L 0 3) (nodeF s3L 0 2)) := if_neg (by decide)
  rw [e2, jn_bad, nd_20]
  decide +kernel

end Go.Proofs.YtbkgfndojlhdoaaDoor
