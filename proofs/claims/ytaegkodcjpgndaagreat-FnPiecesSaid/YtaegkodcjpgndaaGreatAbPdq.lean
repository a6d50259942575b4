/- My own layer: sorting: what Go's pattern-defeating quicksort does, told once for every kind of element; models that dec.py prints are instances of these by their own form. -/
import Derived.Test.YtaegkodcjpgndaaGreatAbTot
namespace Go.Ab.Pdq
set_option linter.unusedVariables false
set_option linter.unusedSimpArgs false
set_option maxRecDepth 100000
set_option linter.unusedVariables false
noncomputable def insertionSort_L1 {α : Type} (a : Int) (cmp : α → α → Option (Int)) : Int × (List α) → Option (Lp (Int × (List α)) ((List α)))
 | (v1, data2) =>
  (if (decide (a < v1)) = true then (idx data2 v1).bind fun e2 =>
  (idx data2 (w64 (v1 - 1))).bind fun e3 =>
  (cmp e2 e3).bind fun r1 =>
  some (decide (r1 < 0)) else some false).bind fun (v2 : Bool) =>
  if v2 = true then
   (idx data2 (w64 (v1 - 1))).bind fun e8 =>
   (idx data2 v1).bind fun e9 =>
   (idx data2 v1).bind fun e10 =>
   (idx (data2.set v1.toNat e8) (w64 (v1 - 1))).bind fun e11 =>
   some (.nx ((w64 (v1 - 1)), ((data2.set v1.toNat e8).set (w64 (v1 - 1)).toNat e9)))
  else
   some (.dn data2)
noncomputable def insertionSort_L2 {α : Type} (a : Int) (b : Int) (cmp : α → α → Option (Int)) : Int × (List α) → Option (Lp (Int × (List α)) ((List α)))
 | (v, data1) =>
  if (decide (v < b)) = true then
   (iter (insertionSort_L1 a cmp) (v, data1)).bind fun (data3 : List α) =>
   some (.nx ((w64 (v + 1)), data3))
  else
   some (.dn data1)
noncomputable def insertionSort {α : Type} (data : List α) (a : Int) (b : Int) (cmp : α → α → Option (Int)) : Option ((List α)) :=
 iter (insertionSort_L2 a b cmp) ((w64 (a + 1)), data)
noncomputable def siftDown_L1 {α : Type} (hi : Int) (first : Int) (cmp : α → α → Option (Int)) : Int × (List α) → Option (Lp (Int × (List α)) ((List α)))
 | (v, data1) =>
  if (decide (hi ≤ (w64 ((w64 (2 * v)) + 1)))) = true then
   some (.dn data1)
  else
   ((if (decide ((w64 ((w64 ((w64 (2 * v)) + 1)) + 1)) < hi)) = true then (idx data1 (w64 (first + (w64 ((w64 (2 * v)) + 1))))).bind fun e3 =>
   (idx data1 (w64 ((w64 (first + (w64 ((w64 (2 * v)) + 1)))) + 1))).bind fun e4 =>
   (cmp e3 e4).bind fun r2 =>
   some (decide (r2 < 0)) else some false).bind fun (v2 : Bool) =>
   if v2 = true then
    some (w64 ((w64 ((w64 (2 * v)) + 1)) + 1))
   else
    some (w64 ((w64 (2 * v)) + 1))).bind fun (v1 : Int) =>
   (idx data1 (w64 (first + v))).bind fun e7 =>
   (idx data1 (w64 (first + v1))).bind fun e8 =>
   (cmp e7 e8).bind fun r4 =>
   if (!(decide (r4 < 0))) = true then
    some (.dn data1)
   else
    (idx data1 (w64 (first + v1))).bind fun e14 =>
    (idx data1 (w64 (first + v))).bind fun e15 =>
    (idx data1 (w64 (first + v))).bind fun e16 =>
    (idx (data1.set (w64 (first + v)).toNat e14) (w64 (first + v1))).bind fun e17 =>
    some (.nx (v1, ((data1.set (w64 (first + v)).toNat e14).set (w64 (first + v1)).toNat e15)))
noncomputable def siftDown {α : Type} (data : List α) (lo : Int) (hi : Int) (first : Int) (cmp : α → α → Option (Int)) : Option ((List α)) :=
 iter (siftDown_L1 hi first cmp) (lo, data)
noncomputable def heapSort_L1 {α : Type} (a : Int) (b : Int) (cmp : α → α → Option (Int)) : Int × (List α) → Option (Lp (Int × (List α)) ((List α)))
 | (v, data1) =>
  if (decide (0 ≤ v)) = true then
   (siftDown data1 v (w64 (b - a)) a cmp).bind fun r =>
   some (.nx ((w64 (v - 1)), r))
  else
   some (.dn data1)
noncomputable def heapSort_L2 {α : Type} (a : Int) (cmp : α → α → Option (Int)) : Int × (List α) → Option (Lp (Int × (List α)) ((List α)))
 | (v1, data3) =>
  if (decide (0 ≤ v1)) = true then
   (idx data3 (w64 (a + v1))).bind fun e4 =>
   (idx data3 a).bind fun e5 =>
   (idx data3 a).bind fun e6 =>
   (idx (data3.set a.toNat e4) (w64 (a + v1))).bind fun e7 =>
   (siftDown ((data3.set a.toNat e4).set (w64 (a + v1)).toNat e5) 0 v1 a cmp).bind fun r1 =>
   some (.nx ((w64 (v1 - 1)), r1))
  else
   some (.dn data3)
noncomputable def heapSort {α : Type} (data : List α) (a : Int) (b : Int) (cmp : α → α → Option (Int)) : Option ((List α)) :=
 (chk ((2 : Int) ≠ 0)).bind fun u =>
 (iter (heapSort_L1 a b cmp) ((w64 ((w64 ((w64 (b - a)) - 1)).tdiv 2)), data)).bind fun (data2 : List α) =>
 iter (heapSort_L2 a cmp) ((w64 ((w64 (b - a)) - 1)), data2)
noncomputable def order2 {α : Type} (data : List α) (a : Int) (b : Int) (swaps : Int) (cmp : α → α → Option (Int)) : Option (Int × Int × Int) :=
 (idx data b).bind fun e2 =>
 (idx data a).bind fun e3 =>
 (cmp e2 e3).bind fun r1 =>
 if (decide (r1 < 0)) = true then
  some (b, a, (w64 (swaps + 1)))
 else
  some (a, b, swaps)
noncomputable def median {α : Type} (data : List α) (a : Int) (b : Int) (c : Int) (swaps : Int) (cmp : α → α → Option (Int)) : Option (Int × Int) :=
 (order2 data a b swaps cmp).bind fun r =>
 (order2 data r.2.1 c r.2.2 cmp).bind fun r1 =>
 (order2 data r.1 r1.1 r1.2.2 cmp).bind fun r2 =>
 some (r2.2.1, r2.2.2)
noncomputable def medianAdjacent {α : Type} (data : List α) (a : Int) (swaps : Int) (cmp : α → α → Option (Int)) : Option (Int × Int) :=
 (median data (w64 (a - 1)) a (w64 (a + 1)) swaps cmp).bind fun r =>
 some (r.1, r.2)
noncomputable def choosePivot {α : Type} (data : List α) (a : Int) (b : Int) (cmp : α → α → Option (Int)) : Option (Int × Int) :=
 (chk ((4 : Int) ≠ 0)).bind fun u =>
 (chk ((4 : Int) ≠ 0)).bind fun u1 =>
 (chk ((4 : Int) ≠ 0)).bind fun u2 =>
 (if (decide (8 ≤ (w64 (b - a)))) = true then
  (if (decide (50 ≤ (w64 (b - a)))) = true then
   (medianAdjacent data (w64 (a + (w64 ((w64 ((w64 (b - a)).tdiv 4)) * 1)))) 0 cmp).bind fun r =>
   (medianAdjacent data (w64 (a + (w64 ((w64 ((w64 (b - a)).tdiv 4)) * 2)))) r.2 cmp).bind fun r1 =>
   (medianAdjacent data (w64 (a + (w64 ((w64 ((w64 (b - a)).tdiv 4)) * 3)))) r1.2 cmp).bind fun r2 =>
   some (r.1, r1.1, r2.1, r2.2)
  else
   some ((w64 (a + (w64 ((w64 ((w64 (b - a)).tdiv 4)) * 1)))), (w64 (a + (w64 ((w64 ((w64 (b - a)).tdiv 4)) * 2)))), (w64 (a + (w64 ((w64 ((w64 (b - a)).tdiv 4)) * 3)))), (0 : Int))).bind fun ((v2, v3, v4, v5) : Int × Int × Int × Int) =>
  (median data v2 v3 v4 v5 cmp).bind fun r3 =>
  some (r3.1, r3.2)
 else
  some ((w64 (a + (w64 ((w64 ((w64 (b - a)).tdiv 4)) * 2)))), (0 : Int))).bind fun ((v, v1) : Int × Int) =>
 if (v1 == 0) = true then
  some (v, 1)
 else
  if (v1 == 12) = true then
   some (v, 2)
  else
   some (v, 0)
noncomputable def reverseRange_L1 {α : Type} : Int × Int × (List α) → Option (Lp (Int × Int × (List α)) ((List α)))
 | (v, v1, data1) =>
  if (decide (v < v1)) = true then
   (idx data1 v1).bind fun e4 =>
   (idx data1 v).bind fun e5 =>
   (idx data1 v).bind fun e6 =>
   (idx (data1.set v.toNat e4) v1).bind fun e7 =>
   some (.nx ((w64 (v + 1)), (w64 (v1 - 1)), ((data1.set v.toNat e4).set v1.toNat e5)))
  else
   some (.dn data1)
noncomputable def reverseRange {α : Type} (data : List α) (a : Int) (b : Int) (cmp : α → α → Option (Int)) : Option ((List α)) :=
 iter (reverseRange_L1) (a, (w64 (b - 1)), data)
noncomputable def partialInsertionSort_L1 {α : Type} (b : Int) (cmp : α → α → Option (Int)) (data1 : List α) : Int → Option (Lp (Int) (Int))
 | v3 =>
  (if (decide (v3 < b)) = true then (idx data1 v3).bind fun e2 =>
  (idx data1 (w64 (v3 - 1))).bind fun e3 =>
  (cmp e2 e3).bind fun r1 =>
  some (!(decide (r1 < 0))) else some false).bind fun (v4 : Bool) =>
  if v4 = true then
   some (.nx (w64 (v3 + 1)))
  else
   some (.dn v3)
noncomputable def partialInsertionSort_L2 {α : Type} (cmp : α → α → Option (Int)) : Int × (List α) → Option (Lp (Int × (List α)) ((List α)))
 | (v6, data4) =>
  if (decide (1 ≤ v6)) = true then
   (idx data4 v6).bind fun e18 =>
   (idx data4 (w64 (v6 - 1))).bind fun e19 =>
   (cmp e18 e19).bind fun r7 =>
   if (!(decide (r7 < 0))) = true then
    some (.dn data4)
   else
    (idx data4 (w64 (v6 - 1))).bind fun e24 =>
    (idx data4 v6).bind fun e25 =>
    (idx data4 v6).bind fun e26 =>
    (idx (data4.set v6.toNat e24) (w64 (v6 - 1))).bind fun e27 =>
    some (.nx ((w64 (v6 - 1)), ((data4.set v6.toNat e24).set (w64 (v6 - 1)).toNat e25)))
  else
   some (.dn data4)
noncomputable def partialInsertionSort_L3 {α : Type} (b : Int) (cmp : α → α → Option (Int)) : Int × (List α) → Option (Lp (Int × (List α)) ((List α)))
 | (v7, data6) =>
  if (decide (v7 < b)) = true then
   (idx data6 v7).bind fun e30 =>
   (idx data6 (w64 (v7 - 1))).bind fun e31 =>
   (cmp e30 e31).bind fun r9 =>
   if (!(decide (r9 < 0))) = true then
    some (.dn data6)
   else
    (idx data6 (w64 (v7 - 1))).bind fun e36 =>
    (idx data6 v7).bind fun e37 =>
    (idx data6 v7).bind fun e38 =>
    (idx (data6.set v7.toNat e36) (w64 (v7 - 1))).bind fun e39 =>
    some (.nx ((w64 (v7 + 1)), ((data6.set v7.toNat e36).set (w64 (v7 - 1)).toNat e37)))
  else
   some (.dn data6)
noncomputable def partialInsertionSort_L4 {α : Type} (a : Int) (b : Int) (cmp : α → α → Option (Int)) : Int × Int × (List α) → Option (Lp (Int × Int × (List α)) (Fl (Bool × (List α)) ((List α))))
 | (v, v1, data1) =>
  if (decide (v1 < 5)) = true then
   flb ((iter (partialInsertionSort_L1 b cmp data1) v).bind fun (v5 : Int) =>
   if (v5 == b) = true then
    some (.ret (.dn (.ret (true, data1))))
   else
    if (decide ((w64 (b - a)) < 50)) = true then
     some (.ret (.dn (.ret (false, data1))))
    else
     (idx data1 (w64 (v5 - 1))).bind fun e12 =>
     (idx data1 v5).bind fun e13 =>
     (idx data1 v5).bind fun e14 =>
     (idx (data1.set v5.toNat e12) (w64 (v5 - 1))).bind fun e15 =>
     (if (decide (2 ≤ (w64 (v5 - a)))) = true then
      (iter (partialInsertionSort_L2 cmp) ((w64 (v5 - 1)), ((data1.set v5.toNat e12).set (w64 (v5 - 1)).toNat e13))).bind fun (data5 : List α) =>
      some data5
     else
      some ((data1.set v5.toNat e12).set (w64 (v5 - 1)).toNat e13)).bind fun (data3 : List α) =>
     if (decide (2 ≤ (w64 (b - v5)))) = true then
      (iter (partialInsertionSort_L3 b cmp) ((w64 (v5 + 1)), data3)).bind fun (data7 : List α) =>
      some (.go (v5, data7))
     else
      some (.go (v5, data3))) fun ((v2, data2) : Int × (List α)) =>
   some (.nx (v2, (w64 (v1 + 1)), data2))
  else
   some (.dn (.go data1))
noncomputable def partialInsertionSort {α : Type} (data : List α) (a : Int) (b : Int) (cmp : α → α → Option (Int)) : Option (Bool × (List α)) :=
 flb (iter (partialInsertionSort_L4 a b cmp) ((w64 (a + 1)), (0 : Int), data)) fun (data8 : List α) =>
 some (false, data8)
noncomputable def partitionEqual_L1 {α : Type} (a : Int) (cmp : α → α → Option (Int)) (v1 : Int) (data1 : List α) : Int → Option (Lp (Int) (Int))
 | v2 =>
  (if (decide (v2 ≤ v1)) = true then (idx data1 a).bind fun e10 =>
  (idx data1 v2).bind fun e11 =>
  (cmp e10 e11).bind fun r1 =>
  some (!(decide (r1 < 0))) else some false).bind fun (v3 : Bool) =>
  if v3 = true then
   some (.nx (w64 (v2 + 1)))
  else
   some (.dn v2)
noncomputable def partitionEqual_L2 {α : Type} (a : Int) (cmp : α → α → Option (Int)) (data1 : List α) (v4 : Int) : Int → Option (Lp (Int) (Int))
 | v5 =>
  (if (decide (v4 ≤ v5)) = true then (idx data1 a).bind fun e14 =>
  (idx data1 v5).bind fun e15 =>
  (cmp e14 e15).bind fun r3 =>
  some (decide (r3 < 0)) else some false).bind fun (v6 : Bool) =>
  if v6 = true then
   some (.nx (w64 (v5 - 1)))
  else
   some (.dn v5)
noncomputable def partitionEqual_L3 {α : Type} (a : Int) (cmp : α → α → Option (Int)) : Int × Int × (List α) → Option (Lp (Int × Int × (List α)) (Int × (List α)))
 | (v, v1, data1) =>
  (iter (partitionEqual_L1 a cmp v1 data1) v).bind fun (v4 : Int) =>
  (iter (partitionEqual_L2 a cmp data1 v4) v1).bind fun (v7 : Int) =>
  if (decide (v7 < v4)) = true then
   some (.dn (v4, data1))
  else
   (idx data1 v7).bind fun e20 =>
   (idx data1 v4).bind fun e21 =>
   (idx data1 v4).bind fun e22 =>
   (idx (data1.set v4.toNat e20) v7).bind fun e23 =>
   some (.nx ((w64 (v4 + 1)), (w64 (v7 - 1)), ((data1.set v4.toNat e20).set v7.toNat e21)))
noncomputable def partitionEqual {α : Type} (data : List α) (a : Int) (b : Int) (pivot : Int) (cmp : α → α → Option (Int)) : Option (Int × (List α)) :=
 (idx data pivot).bind fun e4 =>
 (idx data a).bind fun e5 =>
 (idx data a).bind fun e6 =>
 (idx (data.set a.toNat e4) pivot).bind fun e7 =>
 (iter (partitionEqual_L3 a cmp) ((w64 (a + 1)), (w64 (b - 1)), ((data.set a.toNat e4).set pivot.toNat e5))).bind fun ((v8, data2) : Int × (List α)) =>
 some (v8, data2)
noncomputable def partition_L1 {α : Type} (data : List α) (a : Int) (b : Int) (pivot : Int) (cmp : α → α → Option (Int)) (e4 : α) (e5 : α) : Int → Option (Lp (Int) (Int))
 | v =>
  (if (decide (v ≤ (w64 (b - 1)))) = true then (idx ((data.set a.toNat e4).set pivot.toNat e5) v).bind fun e10 =>
  (idx ((data.set a.toNat e4).set pivot.toNat e5) a).bind fun e11 =>
  (cmp e10 e11).bind fun r1 =>
  some (decide (r1 < 0)) else some false).bind fun (v1 : Bool) =>
  if v1 = true then
   some (.nx (w64 (v + 1)))
  else
   some (.dn v)
noncomputable def partition_L2 {α : Type} (data : List α) (a : Int) (pivot : Int) (cmp : α → α → Option (Int)) (e4 : α) (e5 : α) (v2 : Int) : Int → Option (Lp (Int) (Int))
 | v3 =>
  (if (decide (v2 ≤ v3)) = true then (idx ((data.set a.toNat e4).set pivot.toNat e5) v3).bind fun e14 =>
  (idx ((data.set a.toNat e4).set pivot.toNat e5) a).bind fun e15 =>
  (cmp e14 e15).bind fun r3 =>
  some (!(decide (r3 < 0))) else some false).bind fun (v4 : Bool) =>
  if v4 = true then
   some (.nx (w64 (v3 - 1)))
  else
   some (.dn v3)
noncomputable def partition_L3 {α : Type} (a : Int) (cmp : α → α → Option (Int)) (v7 : Int) (data1 : List α) : Int → Option (Lp (Int) (Int))
 | v8 =>
  (if (decide (v8 ≤ v7)) = true then (idx data1 v8).bind fun e34 =>
  (idx data1 a).bind fun e35 =>
  (cmp e34 e35).bind fun r5 =>
  some (decide (r5 < 0)) else some false).bind fun (v9 : Bool) =>
  if v9 = true then
   some (.nx (w64 (v8 + 1)))
  else
   some (.dn v8)
noncomputable def partition_L4 {α : Type} (a : Int) (cmp : α → α → Option (Int)) (data1 : List α) (v10 : Int) : Int → Option (Lp (Int) (Int))
 | v11 =>
  (if (decide (v10 ≤ v11)) = true then (idx data1 v11).bind fun e38 =>
  (idx data1 a).bind fun e39 =>
  (cmp e38 e39).bind fun r7 =>
  some (!(decide (r7 < 0))) else some false).bind fun (v12 : Bool) =>
  if v12 = true then
   some (.nx (w64 (v11 - 1)))
  else
   some (.dn v11)
noncomputable def partition_L5 {α : Type} (a : Int) (cmp : α → α → Option (Int)) : Int × Int × (List α) → Option (Lp (Int × Int × (List α)) (Int × (List α)))
 | (v6, v7, data1) =>
  (iter (partition_L3 a cmp v7 data1) v6).bind fun (v10 : Int) =>
  (iter (partition_L4 a cmp data1 v10) v7).bind fun (v13 : Int) =>
  if (decide (v13 < v10)) = true then
   some (.dn (v13, data1))
  else
   (idx data1 v13).bind fun e44 =>
   (idx data1 v10).bind fun e45 =>
   (idx data1 v10).bind fun e46 =>
   (idx (data1.set v10.toNat e44) v13).bind fun e47 =>
   some (.nx ((w64 (v10 + 1)), (w64 (v13 - 1)), ((data1.set v10.toNat e44).set v13.toNat e45)))
noncomputable def partition {α : Type} (data : List α) (a : Int) (b : Int) (pivot : Int) (cmp : α → α → Option (Int)) : Option (Int × Bool × (List α)) :=
 (idx data pivot).bind fun e4 =>
 (idx data a).bind fun e5 =>
 (idx data a).bind fun e6 =>
 (idx (data.set a.toNat e4) pivot).bind fun e7 =>
 (iter (partition_L1 data a b pivot cmp e4 e5) (w64 (a + 1))).bind fun (v2 : Int) =>
 (iter (partition_L2 data a pivot cmp e4 e5 v2) (w64 (b - 1))).bind fun (v5 : Int) =>
 if (decide (v5 < v2)) = true then
  (idx ((data.set a.toNat e4).set pivot.toNat e5) a).bind fun e20 =>
  (idx ((data.set a.toNat e4).set pivot.toNat e5) v5).bind fun e21 =>
  (idx ((data.set a.toNat e4).set pivot.toNat e5) v5).bind fun e22 =>
  (idx (((data.set a.toNat e4).set pivot.toNat e5).set v5.toNat e20) a).bind fun e23 =>
  some (v5, true, ((((data.set a.toNat e4).set pivot.toNat e5).set v5.toNat e20).set a.toNat e21))
 else
  (idx ((data.set a.toNat e4).set pivot.toNat e5) v5).bind fun e28 =>
  (idx ((data.set a.toNat e4).set pivot.toNat e5) v2).bind fun e29 =>
  (idx ((data.set a.toNat e4).set pivot.toNat e5) v2).bind fun e30 =>
  (idx (((data.set a.toNat e4).set pivot.toNat e5).set v2.toNat e28) v5).bind fun e31 =>
  (iter (partition_L5 a cmp) ((w64 (v2 + 1)), (w64 (v5 - 1)), ((((data.set a.toNat e4).set pivot.toNat e5).set v2.toNat e28).set v5.toNat e29))).bind fun ((v14, data2) : Int × (List α)) =>
  (idx data2 a).bind fun e52 =>
  (idx data2 v14).bind fun e53 =>
  (idx data2 v14).bind fun e54 =>
  (idx (data2.set v14.toNat e52) a).bind fun e55 =>
  some (v14, false, ((data2.set v14.toNat e52).set a.toNat e53))
noncomputable def breakPatterns_L1 {α : Type} (nxt : IK .u64 → Option (IK .u64 × IK .u64)) (a : Int) (b : Int) (r : (IK .u64)) : Int × (List α) × Int → Option (Lp (Int × (List α) × Int) ((List α)))
 | (v, data1, v1) =>
  (chk ((4 : Int) ≠ 0)).bind fun u1 =>
  if (decide (v ≤ (w64 ((w64 (a + (w64 ((w64 ((w64 (b - a)).tdiv 4)) * 2)))) + 1)))) = true then
   (nxt (⟨v1⟩ : IK .u64)).bind fun r1 =>
   (if (decide ((w64 (b - a)) ≤ (w64 ((IntKind.u64.wrap ((BitVec.ofInt (IntKind.u64).bits r1.1.v &&& BitVec.ofInt (IntKind.u64).bits (IntKind.u64.wrap (r.v - 1))).toNat : Int)))))) = true then
    some (w64 ((w64 ((IntKind.u64.wrap ((BitVec.ofInt (IntKind.u64).bits r1.1.v &&& BitVec.ofInt (IntKind.u64).bits (IntKind.u64.wrap (r.v - 1))).toNat : Int)))) - (w64 (b - a))))
   else
    some (w64 ((IntKind.u64.wrap ((BitVec.ofInt (IntKind.u64).bits r1.1.v &&& BitVec.ofInt (IntKind.u64).bits (IntKind.u64.wrap (r.v - 1))).toNat : Int))))).bind fun (v2 : Int) =>
   (idx data1 (w64 (a + v2))).bind fun e4 =>
   (idx data1 v).bind fun e5 =>
   (idx data1 v).bind fun e6 =>
   (idx (data1.set v.toNat e4) (w64 (a + v2))).bind fun e7 =>
   some (.nx ((w64 (v + 1)), ((data1.set v.toNat e4).set (w64 (a + v2)).toNat e5), r1.2.v))
  else
   some (.dn data1)
noncomputable def breakPatterns {α : Type} (npo : Int → Option (IK .u64)) (nxt : IK .u64 → Option (IK .u64 × IK .u64)) (data : List α) (a : Int) (b : Int) (cmp : α → α → Option (Int)) : Option ((List α)) :=
 if (decide (8 ≤ (w64 (b - a)))) = true then
  (npo (w64 (b - a))).bind fun r =>
  (chk ((4 : Int) ≠ 0)).bind fun u =>
  iter (breakPatterns_L1 nxt a b r) ((w64 ((w64 (a + (w64 ((w64 ((w64 (b - a)).tdiv 4)) * 2)))) - 1)), data, (IntKind.u64.wrap ((w64 (b - a)))))
 else
  some data
noncomputable def pdq_L1 {α : Type} (npo : Int → Option (IK .u64)) (nxt : IK .u64 → Option (IK .u64 × IK .u64)) (cmp : α → α → Option Int) (rec_ : (List α) → Int → Int → Int → Option ((List α))) : Int × Int × Int × Bool × Bool × (List α) → Option (Lp (Int × Int × Int × Bool × Bool × (List α)) ((List α)))
 | (a1, b1, limit1, mid, mid1, data1) =>
  if (decide ((w64 (b1 - a1)) ≤ 12)) = true then
   (insertionSort data1 a1 b1 cmp).bind fun r =>
   some (.dn r)
  else
   if (limit1 == 0) = true then
    (heapSort data1 a1 b1 cmp).bind fun r2 =>
    some (.dn r2)
   else
    (if (!mid) = true then
     (breakPatterns npo nxt data1 a1 b1 cmp).bind fun r4 =>
     some ((w64 (limit1 - 1)), r4)
    else
     some (limit1, data1)).bind fun ((limit2, data2) : Int × (List α)) =>
    (choosePivot data2 a1 b1 cmp).bind fun r5 =>
    (if (r5.2 == 2) = true then
     (reverseRange data2 a1 b1 cmp).bind fun r6 =>
     some ((w64 ((w64 (b1 - 1)) - (w64 (r5.1 - a1)))), (1 : Int), r6)
    else
     some (r5.1, r5.2, data2)).bind fun ((leftLen, rightLen, data3) : Int × Int × (List α)) =>
    flb ((if mid = true then if mid1 = true then some (rightLen == 1) else some false else some false).bind fun (v : Bool) =>
    if v = true then
     (partialInsertionSort data3 a1 b1 cmp).bind fun r7 =>
     if r7.1 = true then
      some (.ret (.dn r7.2))
     else
      some (.go r7.2)
    else
     some (.go data3)) fun (data4 : List α) =>
    (if (decide (0 < a1)) = true then (idx data4 (w64 (a1 - 1))).bind fun e6 =>
    (idx data4 leftLen).bind fun e7 =>
    (cmp e6 e7).bind fun r11 =>
    some (!(decide (r11 < 0))) else some false).bind fun (v1 : Bool) =>
    if v1 = true then
     (partitionEqual data4 a1 b1 leftLen cmp).bind fun r12 =>
     some (.nx (r12.1, b1, limit2, mid, mid1, r12.2))
    else
     (partition data4 a1 b1 leftLen cmp).bind fun r13 =>
     (chk ((8 : Int) ≠ 0)).bind fun u =>
     if (decide ((w64 (r13.1 - a1)) < (w64 (b1 - r13.1)))) = true then
      (rec_ r13.2.2 a1 r13.1 limit2).bind fun r14 =>
      some (.nx ((w64 (r13.1 + 1)), b1, limit2, (decide ((w64 ((w64 (b1 - a1)).tdiv 8)) ≤ (w64 (r13.1 - a1)))), r13.2.1, r14))
     else
      (rec_ r13.2.2 (w64 (r13.1 + 1)) b1 limit2).bind fun r15 =>
      some (.nx (a1, r13.1, limit2, (decide ((w64 ((w64 (b1 - a1)).tdiv 8)) ≤ (w64 (b1 - r13.1)))), r13.2.1, r15))
noncomputable def pdq_F {α : Type} (npo : Int → Option (IK .u64)) (nxt : IK .u64 → Option (IK .u64 × IK .u64)) (cmp : α → α → Option Int) (rec_ : (List α) → Int → Int → Int → Option ((List α))) (data : List α) (a : Int) (b : Int) (limit : Int) : Option ((List α)) :=
 iter (pdq_L1 npo nxt cmp rec_) (a, b, limit, true, true, data)
noncomputable def pdq_k {α : Type} (npo : Int → Option (IK .u64)) (nxt : IK .u64 → Option (IK .u64 × IK .u64)) (cmp : α → α → Option Int) : Nat → (List α) → Int → Int → Int → Option ((List α))
 | 0 => fun _ _ _ _ => none
 | n + 1 => pdq_F npo nxt cmp (pdq_k npo nxt cmp n)
noncomputable def pdq {α : Type} (npo : Int → Option (IK .u64)) (nxt : IK .u64 → Option (IK .u64 × IK .u64)) (cmp : α → α → Option Int) (data : List α) (a : Int) (b : Int) (limit : Int) : Option ((List α)) := pdq_k npo nxt cmp 4294967296 data a b limit
end Go.Ab.Pdq
