/- Lists of numbers as lists of values. -/
import Derived.Test.YtoaeklbenmlooaaPLT
namespace Go.PL
set_option linter.unusedSimpArgs false
set_option linter.unusedVariables false
open Go Go.RowKit
/-- Cells that can be read from an address on. -/
def CellsAt (r : Rd) (a : Addr) (cs : List Value) : Prop := ∀ j v, cs[j]? = some v → r (a.add j) = some v
theorem CellsAt.at_ {r : Rd} {b : Nat} {cs : List Value} (h : CellsAt r ⟨b, 0, none⟩ cs) {j : Nat} {v : Value} (hj : cs[j]? = some v) : r ⟨b, j, none⟩ = some v := by
  have := h j v hj
  rwa [add_lit, Nat.zero_add] at this
theorem CellsAt.mono {r r' : Rd} (hr : ∀ a v, r a = some v → r' a = some v) {a : Addr} {cs : List Value} (h : CellsAt r a cs) : CellsAt r' a cs := fun j v hj => hr _ _ (h j v hj)
theorem getD_map_some {α : Type} (f : α → Value) (xs : List α) (d : α) {i : Nat} (h : i < xs.length) : (xs.map f)[i]? = some (f (xs.getD i d)) := by simp [h]
theorem put_map {α : Type} (f : α → Value) (xs : List α) (a : α) {i : Nat} (h : i < xs.length) : (xs.map f).take i ++ [f a] ++ (xs.map f).drop (i + [f a].length) = (xs.set i a).map f := by
  rw [List.map_set]
  simp only [List.length_singleton, List.append_assoc, List.singleton_append]
  rw [List.set_eq_take_append_cons_drop, if_pos (by simpa using h)]


def v8s (xs : List UInt8) : List Value := xs.map fun x => .int .u8 (x.toNat : Int)
@[simp] theorem v8s_length (xs : List UInt8) : (v8s xs).length = xs.length := by simp [v8s]
theorem v8s_get {xs : List UInt8} {i : Nat} (h : i < xs.length) : (v8s xs)[i]? = some ((fun x : UInt8 => (.int .u8 (x.toNat : Int) : Value)) (xs.getD i 0)) := getD_map_some _ xs 0 h
theorem v8s_put {xs : List UInt8} {i : Nat} (x : UInt8) (h : i < xs.length) : (v8s xs).take i ++ [.int .u8 (x.toNat : Int)] ++ (v8s xs).drop (i + [(.int .u8 (x.toNat : Int) : Value)].length) = v8s (xs.set i x) := put_map (fun x : UInt8 => (.int .u8 (x.toNat : Int) : Value)) xs x h
theorem v8s_set {xs : List UInt8} {i : Nat} (x : UInt8) : (v8s xs).set i (.int .u8 (x.toNat : Int)) = v8s (xs.set i x) := by simp [v8s, List.map_set]
theorem v8s_append (xs ys : List UInt8) : v8s (xs ++ ys) = v8s xs ++ v8s ys := by simp [v8s]
theorem v8s_take (xs : List UInt8) (n : Nat) : (v8s xs).take n = v8s (xs.take n) := by simp [v8s, List.map_take]
theorem v8s_drop (xs : List UInt8) (n : Nat) : (v8s xs).drop n = v8s (xs.drop n) := by simp [v8s, List.map_drop]
theorem v8s_one (xs : List UInt8) : ∀ u ∈ v8s xs, u.oneCell' = true := by
  intro u hu; simp only [v8s, List.mem_map] at hu; obtain ⟨x, _, rfl⟩ := hu; rfl
theorem v8s_inj {xs ys : List UInt8} (h : v8s xs = v8s ys) : xs = ys := by
  have hf : ∀ x y : UInt8, ((.int .u8 (x.toNat : Int)) : Value) = (fun x : UInt8 => (.int .u8 (x.toNat : Int) : Value)) y → x = y := by
    intro x y h
    simp at h; first | exact h | exact UInt8.toNat_inj.1 (by omega)
  exact List.map_inj_right hf |>.1 h


def v16s (xs : List UInt16) : List Value := xs.map fun x => .int .u16 (x.toNat : Int)
@[simp] theorem v16s_length (xs : List UInt16) : (v16s xs).length = xs.length := by simp [v16s]
theorem v16s_get {xs : List UInt16} {i : Nat} (h : i < xs.length) : (v16s xs)[i]? = some ((fun x : UInt16 => (.int .u16 (x.toNat : Int) : Value)) (xs.getD i 0)) := getD_map_some _ xs 0 h
theorem v16s_put {xs : List UInt16} {i : Nat} (x : UInt16) (h : i < xs.length) : (v16s xs).take i ++ [.int .u16 (x.toNat : Int)] ++ (v16s xs).drop (i + [(.int .u16 (x.toNat : Int) : Value)].length) = v16s (xs.set i x) := put_map (fun x : UInt16 => (.int .u16 (x.toNat : Int) : Value)) xs x h
theorem v16s_set {xs : List UInt16} {i : Nat} (x : UInt16) : (v16s xs).set i (.int .u16 (x.toNat : Int)) = v16s (xs.set i x) := by simp [v16s, List.map_set]
theorem v16s_append (xs ys : List UInt16) : v16s (xs ++ ys) = v16s xs ++ v16s ys := by simp [v16s]
theorem v16s_take (xs : List UInt16) (n : Nat) : (v16s xs).take n = v16s (xs.take n) := by simp [v16s, List.map_take]
theorem v16s_drop (xs : List UInt16) (n : Nat) : (v16s xs).drop n = v16s (xs.drop n) := by simp [v16s, List.map_drop]
theorem v16s_one (xs : List UInt16) : ∀ u ∈ v16s xs, u.oneCell' = true := by
  intro u hu; simp only [v16s, List.mem_map] at hu; obtain ⟨x, _, rfl⟩ := hu; rfl
theorem v16s_inj {xs ys : List UInt16} (h : v16s xs = v16s ys) : xs = ys := by
  have hf : ∀ x y : UInt16, ((.int .u16 (x.toNat : Int)) : Value) = (fun x : UInt16 => (.int .u16 (x.toNat : Int) : Value)) y → x = y := by
    intro x y h
    simp at h; first | exact h | exact UInt16.toNat_inj.1 (by omega)
  exact List.map_inj_right hf |>.1 h


def v32s (xs : List UInt32) : List Value := xs.map fun x => .int .u32 (x.toNat : Int)
@[simp] theorem v32s_length (xs : List UInt32) : (v32s xs).length = xs.length := by simp [v32s]
theorem v32s_get {xs : List UInt32} {i : Nat} (h : i < xs.length) : (v32s xs)[i]? = some ((fun x : UInt32 => (.int .u32 (x.toNat : Int) : Value)) (xs.getD i 0)) := getD_map_some _ xs 0 h
theorem v32s_put {xs : List UInt32} {i : Nat} (x : UInt32) (h : i < xs.length) : (v32s xs).take i ++ [.int .u32 (x.toNat : Int)] ++ (v32s xs).drop (i + [(.int .u32 (x.toNat : Int) : Value)].length) = v32s (xs.set i x) := put_map (fun x : UInt32 => (.int .u32 (x.toNat : Int) : Value)) xs x h
theorem v32s_set {xs : List UInt32} {i : Nat} (x : UInt32) : (v32s xs).set i (.int .u32 (x.toNat : Int)) = v32s (xs.set i x) := by simp [v32s, List.map_set]
theorem v32s_append (xs ys : List UInt32) : v32s (xs ++ ys) = v32s xs ++ v32s ys := by simp [v32s]
theorem v32s_take (xs : List UInt32) (n : Nat) : (v32s xs).take n = v32s (xs.take n) := by simp [v32s, List.map_take]
theorem v32s_drop (xs : List UInt32) (n : Nat) : (v32s xs).drop n = v32s (xs.drop n) := by simp [v32s, List.map_drop]
theorem v32s_one (xs : List UInt32) : ∀ u ∈ v32s xs, u.oneCell' = true := by
  intro u hu; simp only [v32s, List.mem_map] at hu; obtain ⟨x, _, rfl⟩ := hu; rfl
theorem v32s_inj {xs ys : List UInt32} (h : v32s xs = v32s ys) : xs = ys := by
  have hf : ∀ x y : UInt32, ((.int .u32 (x.toNat : Int)) : Value) = (fun x : UInt32 => (.int .u32 (x.toNat : Int) : Value)) y → x = y := by
    intro x y h
    simp at h; first | exact h | exact UInt32.toNat_inj.1 (by omega)
  exact List.map_inj_right hf |>.1 h


def v64s (xs : List UInt64) : List Value := xs.map fun x => .int .u64 (x.toNat : Int)
@[simp] theorem v64s_length (xs : List UInt64) : (v64s xs).length = xs.length := by simp [v64s]
theorem v64s_get {xs : List UInt64} {i : Nat} (h : i < xs.length) : (v64s xs)[i]? = some ((fun x : UInt64 => (.int .u64 (x.toNat : Int) : Value)) (xs.getD i 0)) := getD_map_some _ xs 0 h
theorem v64s_put {xs : List UInt64} {i : Nat} (x : UInt64) (h : i < xs.length) : (v64s xs).take i ++ [.int .u64 (x.toNat : Int)] ++ (v64s xs).drop (i + [(.int .u64 (x.toNat : Int) : Value)].length) = v64s (xs.set i x) := put_map (fun x : UInt64 => (.int .u64 (x.toNat : Int) : Value)) xs x h
theorem v64s_set {xs : List UInt64} {i : Nat} (x : UInt64) : (v64s xs).set i (.int .u64 (x.toNat : Int)) = v64s (xs.set i x) := by simp [v64s, List.map_set]
theorem v64s_append (xs ys : List UInt64) : v64s (xs ++ ys) = v64s xs ++ v64s ys := by simp [v64s]
theorem v64s_take (xs : List UInt64) (n : Nat) : (v64s xs).take n = v64s (xs.take n) := by simp [v64s, List.map_take]
theorem v64s_drop (xs : List UInt64) (n : Nat) : (v64s xs).drop n = v64s (xs.drop n) := by simp [v64s, List.map_drop]
theorem v64s_one (xs : List UInt64) : ∀ u ∈ v64s xs, u.oneCell' = true := by
  intro u hu; simp only [v64s, List.mem_map] at hu; obtain ⟨x, _, rfl⟩ := hu; rfl
theorem v64s_inj {xs ys : List UInt64} (h : v64s xs = v64s ys) : xs = ys := by
  have hf : ∀ x y : UInt64, ((.int .u64 (x.toNat : Int)) : Value) = (fun x : UInt64 => (.int .u64 (x.toNat : Int) : Value)) y → x = y := by
    intro x y h
    simp at h; first | exact h | exact UInt64.toNat_inj.1 (by omega)
  exact List.map_inj_right hf |>.1 h


def vis (xs : List Int) : List Value := xs.map fun x => .int .i64 x
@[simp] theorem vis_length (xs : List Int) : (vis xs).length = xs.length := by simp [vis]
theorem vis_get {xs : List Int} {i : Nat} (h : i < xs.length) : (vis xs)[i]? = some ((fun x : Int => (.int .i64 x : Value)) (xs.getD i 0)) := getD_map_some _ xs 0 h
theorem vis_put {xs : List Int} {i : Nat} (x : Int) (h : i < xs.length) : (vis xs).take i ++ [.int .i64 x] ++ (vis xs).drop (i + [(.int .i64 x : Value)].length) = vis (xs.set i x) := put_map (fun x : Int => (.int .i64 x : Value)) xs x h
theorem vis_set {xs : List Int} {i : Nat} (x : Int) : (vis xs).set i (.int .i64 x) = vis (xs.set i x) := by simp [vis, List.map_set]
theorem vis_append (xs ys : List Int) : vis (xs ++ ys) = vis xs ++ vis ys := by simp [vis]
theorem vis_take (xs : List Int) (n : Nat) : (vis xs).take n = vis (xs.take n) := by simp [vis, List.map_take]
theorem vis_drop (xs : List Int) (n : Nat) : (vis xs).drop n = vis (xs.drop n) := by simp [vis, List.map_drop]
theorem vis_one (xs : List Int) : ∀ u ∈ vis xs, u.oneCell' = true := by
  intro u hu; simp only [vis, List.mem_map] at hu; obtain ⟨x, _, rfl⟩ := hu; rfl
theorem vis_inj {xs ys : List Int} (h : vis xs = vis ys) : xs = ys := by
  have hf : ∀ x y : Int, ((.int .i64 x) : Value) = (fun x : Int => (.int .i64 x : Value)) y → x = y := by
    intro x y h
    simpa using h
  exact List.map_inj_right hf |>.1 h


def vbs (xs : List Bool) : List Value := xs.map fun x => .bool x
@[simp] theorem vbs_length (xs : List Bool) : (vbs xs).length = xs.length := by simp [vbs]
theorem vbs_get {xs : List Bool} {i : Nat} (h : i < xs.length) : (vbs xs)[i]? = some ((fun x : Bool => (.bool x : Value)) (xs.getD i false)) := getD_map_some _ xs false h
theorem vbs_put {xs : List Bool} {i : Nat} (x : Bool) (h : i < xs.length) : (vbs xs).take i ++ [.bool x] ++ (vbs xs).drop (i + [(.bool x : Value)].length) = vbs (xs.set i x) := put_map (fun x : Bool => (.bool x : Value)) xs x h
theorem vbs_set {xs : List Bool} {i : Nat} (x : Bool) : (vbs xs).set i (.bool x) = vbs (xs.set i x) := by simp [vbs, List.map_set]
theorem vbs_append (xs ys : List Bool) : vbs (xs ++ ys) = vbs xs ++ vbs ys := by simp [vbs]
theorem vbs_take (xs : List Bool) (n : Nat) : (vbs xs).take n = vbs (xs.take n) := by simp [vbs, List.map_take]
theorem vbs_drop (xs : List Bool) (n : Nat) : (vbs xs).drop n = vbs (xs.drop n) := by simp [vbs, List.map_drop]
theorem vbs_one (xs : List Bool) : ∀ u ∈ vbs xs, u.oneCell' = true := by
  intro u hu; simp only [vbs, List.mem_map] at hu; obtain ⟨x, _, rfl⟩ := hu; rfl
theorem vbs_inj {xs ys : List Bool} (h : vbs xs = vbs ys) : xs = ys := by
  have hf : ∀ x y : Bool, ((.bool x) : Value) = (fun x : Bool => (.bool x : Value)) y → x = y := by
    intro x y h
    simpa using h
  exact List.map_inj_right hf |>.1 h

end Go.PL