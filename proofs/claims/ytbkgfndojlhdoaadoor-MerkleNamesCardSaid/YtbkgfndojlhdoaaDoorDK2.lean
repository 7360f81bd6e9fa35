/- What another message recovers, computed. -/
import Derived.Test.YtbkgfndojlhdoaaDoorLP
namespace Go.Proofs.YtbkgfndojlhdoaaDoor
set_option linter.unusedSimpArgs false
set_option linter.unusedVariables false
open Go Go.PL Go.RowKit

def tabR : List (List Nat) := [[1703239887, 1449677231, 1873046825, 3108789454], [1056676116, 3191672958, 1566858658, 293465609], [4290263912, 3348604567, 3178116407, 1836555403], [3036288204, 3715243700, 1299787867, 3756816396], [1893459115, 48620612, 297769241, 2944587158], [2654607912, 160715365, 3850274216, 873131090], [3364104251, 2925810944, 2958533242, 919699609], [345799633, 3887786874, 1798302062, 3077131736], [3949938646, 3274710076, 502379860, 1376854679], [2315142948, 2698347840, 2220708306, 1627862385], [3698141730, 3316363846, 989658730, 33644008], [3631567038, 1365483232, 4146708476, 1079490338], [1768265551, 576517163, 1255879027, 4006824289], [3825650563, 453487238, 3702146358, 1015138066], [317926573, 444957532, 322599017, 2857381001], [1408025888, 4290116934, 2548949548, 3071923113], [1189834056, 3125519328, 3476751619, 3330633394], [1407178158, 3764992870, 1448421512, 1559708471], [1517588677, 786439613, 1339805681, 111025137], [1793960098, 4287028640, 1248192289, 3600934116], [509383654, 4049348022, 1997729711, 2149083207], [1159912248, 2567020670, 4151247455, 2513760629], [2921361130, 3615507356, 4098260134, 2439707301], [3567050214, 718991010, 3917034608, 2389323151], [617423892, 566212032, 3430927771, 235779698], [3035370830, 2031636732, 3795862667, 3321252330], [4139306658, 1473006920, 2609365581, 3909386745], [4033663048, 78516108, 1997552168, 1371927897], [1410410534, 2801548361, 4148852717, 1154323550], [1179095346, 382330266, 1703862090, 1791095760], [468388626, 3236120262, 2243937018, 225210732], [1867742122, 900730740, 1116349329, 3730619739], [20034083, 903631254, 1048009648, 1903583875], [2076980230, 3452391919, 957799738, 1981487981], [463049471, 2392665138, 2980605465, 539519158]]
def dmL : List Nat := [6, 2, 12, 6, 6, 10, 7, 10, 5, 13, 13, 7, 0, 12, 3, 1, 4, 6, 6, 1, 8, 0, 6, 3, 12, 3, 4, 4, 14, 5, 3, 1, 1, 1, 15]
def dnL : List Nat := [1, 11, 1, 6, 11, 1, 13, 15, 5, 3, 8, 11, 10, 1, 2, 13, 12, 3, 15, 9, 7, 14, 13, 11, 11, 8, 5, 12, 10, 10, 7, 0, 0, 13, 13]
theorem m_digs : digsF (shortF [109]) = dmL := by
  rw [show shortF [109] = bytesW [1657170554, 1574374449, 1180794979, 3276072241] from (short_W _ 1 [1837105152, 0, 0, 0, 0, 0, 0, 0, 0, 0, 0, 0, 0, 0, 0, 8] (by decide +kernel) (by decide) (by decide)).trans (congrArg bytesW (by decide +kernel))]; decide +kernel
theorem n_digs : digsF (shortF [110]) = dnL := by
  rw [show shortF [110] = bytesW [454472159, 1401659693, 3287908059, 3093080688] from (short_W _ 1 [1853882368, 0, 0, 0, 0, 0, 0, 0, 0, 0, 0, 0, 0, 0, 0, 8] (by decide +kernel) (by decide) (by decide)).trans (congrArg bytesW (by decide +kernel))]; decide +kernel
theorem dig_m (i : Nat) : dig [109] i = dmL.getD i 0 := congrArg (fun l : List Nat => l.getD i 0) m_digs
theorem dig_n (i : Nat) : dig [110] i = dnL.getD i 0 := congrArg (fun l : List Nat => l.getD i 0) n_digs
def recN (i : Nat) : List Nat := climbN (chainN [2018225579, 147720239, 3994688949, 1977592873] i (dmL.getD i 0)) i (dnL.getD i 0) (15 - dnL.getD i 0)
theorem tabR_0 : ((List.range' 0 5).all fun i => decide (recN i = tabR.getD i [])) = true := by decide +kernel
theorem tabR_1 : ((List.range' 5 5).all fun i => decide (recN i = tabR.getD i [])) = true := by decide +kernel
theorem tabR_2 : ((List.range' 10 5).all fun i => decide (recN i = tabR.getD i [])) = true := by decide +kernel
theorem tabR_3 : ((List.range' 15 5).all fun i => decide (recN i = tabR.getD i [])) = true := by decide +kernel
theorem tabR_4 : ((List.range' 20 5).all fun i => decide (recN i = tabR.getD i [])) = true := by decide +kernel
theorem tabR_5 : ((List.range' 25 5).all fun i => decide (recN i = tabR.getD i [])) = true := by decide +kernel
theorem tabR_6 : ((List.range' 30 5).all fun i => decide (recN i = tabR.getD i [])) = true := by decide +kernel
theorem tabR_all (i : Nat) (hi : i < 35) : recN i = tabR.getD i [] := tab_groupG recN tabR (fun a ha => by
  match a, ha with
  | 0, _ => exact tabR_0
  | 1, _ => exact tabR_1
  | 2, _ => exact tabR_2
  | 3, _ => exact tabR_3
  | 4, _ => exact tabR_4
  | 5, _ => exact tabR_5
  | 6, _ => exact tabR_6
  | n + 7, h => omega) i hi
theorem rec_n : recF [110] (signF (bytesW [2018225579, 147720239, 3994688949, 1977592873]) [109]) = bytesW [1785625602, 544601693, 4070518891, 242246454] := by
  have h1 : recF [110] (signF (bytesW [2018225579, 147720239, 3994688949, 1977592873]) [109]) = shortF (accF (recE [110] (signF (bytesW [2018225579, 147720239, 3994688949, 1977592873]) [109])) 35) := if_pos (signF_length _ _)
  rw [h1]
  exact rec_W0 _ (v4_of _ (by decide)) [109] [110] tabR (fun i hi => by rw [dig_m, dig_n]; exact tabR_all i hi) 35 rfl _ (by decide +kernel)

end Go.Proofs.YtbkgfndojlhdoaaDoor
