/- The laid world, its sentinels' type found once: the search through all types' names in pieces. No condition. -/
import Derived.Test.YtaiopdbghclmeaaGreatDoorEvRwa
namespace Go.Proofs.YtaiopdbghclmeaaGreatDoor
open Go Go.Ev Go.ChangeShapes Go.WideShapes Go.ChangeAt Go.RowKit
noncomputable def isErr (u : Nat) : Bool := Tryz.prog.typeName? 3 u == some "*errors.errorString"
set_option maxRecDepth 100000 in
theorem noErr0 : ((List.range' 0 64).all fun v => !isErr v) = true := by kernel_rfl
set_option maxRecDepth 100000 in
theorem noErr64 : ((List.range' 64 64).all fun v => !isErr v) = true := by kernel_rfl
set_option maxRecDepth 100000 in
theorem noErr128 : ((List.range' 128 64).all fun v => !isErr v) = true := by kernel_rfl
set_option maxRecDepth 100000 in
theorem noErr192 : ((List.range' 192 64).all fun v => !isErr v) = true := by kernel_rfl
set_option maxRecDepth 100000 in
theorem noErr256 : ((List.range' 256 64).all fun v => !isErr v) = true := by kernel_rfl
set_option maxRecDepth 100000 in
theorem noErr320 : ((List.range' 320 64).all fun v => !isErr v) = true := by kernel_rfl
set_option maxRecDepth 100000 in
theorem noErr384 : ((List.range' 384 64).all fun v => !isErr v) = true := by kernel_rfl
set_option maxRecDepth 100000 in
theorem noErr448 : ((List.range' 448 64).all fun v => !isErr v) = true := by kernel_rfl
set_option maxRecDepth 100000 in
theorem noErr512 : ((List.range' 512 64).all fun v => !isErr v) = true := by kernel_rfl
set_option maxRecDepth 100000 in
theorem noErr576 : ((List.range' 576 64).all fun v => !isErr v) = true := by kernel_rfl
set_option maxRecDepth 100000 in
theorem noErr640 : ((List.range' 640 64).all fun v => !isErr v) = true := by kernel_rfl
set_option maxRecDepth 100000 in
theorem noErr704 : ((List.range' 704 57).all fun v => !isErr v) = true := by kernel_rfl
set_option maxRecDepth 100000 in
theorem yesErr : isErr 761 = true := by kernel_rfl
theorem noErr (j : Nat) (h : j < 761) : isErr j = false := by
  have key : ∀ a k : Nat, ((List.range' a k).all fun v => !isErr v) = true → a ≤ j → j < a + k → isErr j = false := fun a k h1 h2 h3 => by
    have := List.all_eq_true.1 h1 j (List.mem_range'_1.2 ⟨h2, h3⟩)
    simpa using this
  rcases Nat.lt_or_ge j 64 with h0 | h0
  · exact key _ _ noErr0 (by omega) (by omega)
  rcases Nat.lt_or_ge j 128 with h64 | h64
  · exact key _ _ noErr64 (by omega) (by omega)
  rcases Nat.lt_or_ge j 192 with h128 | h128
  · exact key _ _ noErr128 (by omega) (by omega)
  rcases Nat.lt_or_ge j 256 with h192 | h192
  · exact key _ _ noErr192 (by omega) (by omega)
  rcases Nat.lt_or_ge j 320 with h256 | h256
  · exact key _ _ noErr256 (by omega) (by omega)
  rcases Nat.lt_or_ge j 384 with h320 | h320
  · exact key _ _ noErr320 (by omega) (by omega)
  rcases Nat.lt_or_ge j 448 with h384 | h384
  · exact key _ _ noErr384 (by omega) (by omega)
  rcases Nat.lt_or_ge j 512 with h448 | h448
  · exact key _ _ noErr448 (by omega) (by omega)
  rcases Nat.lt_or_ge j 576 with h512 | h512
  · exact key _ _ noErr512 (by omega) (by omega)
  rcases Nat.lt_or_ge j 640 with h576 | h576
  · exact key _ _ noErr576 (by omega) (by omega)
  rcases Nat.lt_or_ge j 704 with h640 | h640
  · exact key _ _ noErr640 (by omega) (by omega)
  exact key _ _ noErr704 (by omega) (by omega)
set_option maxRecDepth 100000 in
theorem types_gt : 761 < Tryz.prog.types.size := of_decide_eq_true (by kernel_rfl)
theorem found : ((List.range Tryz.prog.types.size).find? fun u => Tryz.prog.typeName? 3 u == some "*errors.errorString") = some 761 := by
  rw [List.find?_range_eq_some]
  exact ⟨yesErr, List.mem_range.2 types_gt, fun j hj => by
    have := noErr j hj
    unfold isErr at this
    rw [this]
    rfl⟩
/-- a datum laid, a sentinel's type given -/
noncomputable def layE (t n : Nat) : DataW Unit → Option (List Value × List Obj)
  | .iface name d => if name = "*errors.errorString" then (match Tryz.prog.underlying t with
    | some (.interface _) => (match d.lay Tryz.prog 761 n with
      | some x => (match Lay.pack Tryz.prog 761 x.1 with
        | some v => some ([.iface 761 v], x.2)
        | none => none)
      | none => none)
    | _ => none) else DataW.lay Tryz.prog t n (.iface name d)
  | d => DataW.lay Tryz.prog t n d
theorem layE_eq (t n : Nat) (d : DataW Unit) : layE t n d = DataW.lay Tryz.prog t n d := by
  cases d with
  | iface name d =>
    by_cases h : name = "*errors.errorString"
    · subst h
      rw [DataW.lay, found]
      rw [layE, if_pos rfl]
      generalize Tryz.prog.underlying t = u
      generalize ho : DataW.lay Tryz.prog 761 n d = o
      cases u with
      | none => rfl
      | some y =>
        cases y with
        | interface m =>
          simp only [ho]
          cases o with
          | none => rfl
          | some x =>
            simp only []
            generalize Lay.pack Tryz.prog 761 x.1 = v
            cases v <;> rfl
        | _ => rfl
    · rw [layE, if_neg h]
  | _ => rfl
noncomputable def layListE (n : Nat) : List (String × DataW Unit) → Option (List (Nat × List Value) × List Obj)
  | [] => some ([], [])
  | x :: r => ((Tryz.prog.globalNamed x.1).bind fun g => (Tryz.prog.globals[g]?).bind fun gl => (layE gl.type n x.2).bind fun y => (layListE (n + y.2.length) r).bind fun z => some ((g, y.1) :: z.1, y.2 ++ z.2))
theorem layListE_eq : ∀ (l : List (String × DataW Unit)) (n : Nat), Lay.layList Tryz.prog n l = layListE n l
  | [], _ => rfl
  | x :: r, n => by
    unfold Lay.layList layListE
    cases hg : Tryz.prog.globalNamed x.1 with
    | none => rfl
    | some g =>
      simp only [Option.bind_some]
      cases hl : Tryz.prog.globals[g]? with
      | none => rfl
      | some gl =>
        simp only [Option.bind_some]
        rw [layE_eq]
        cases hy : DataW.lay Tryz.prog gl.type n x.2 with
        | none => rfl
        | some y =>
          simp only [Option.bind_some]
          rw [layListE_eq r]
          cases layListE (n + y.2.length) r <;> rfl
def layOf (w : World) (o : Option (List (Nat × List Value) × List Obj)) : World :=
  match o with
  | some y => { w with heap := ⟨Lay.setRows w.heap.toList y.1 ++ y.2⟩ }
  | none => w
theorem layVars_of (P : Program) (w : World) (l : List (String × DataW Unit)) (o : Option (List (Nat × List Value) × List Obj)) (h : Lay.layList P w.heap.size l = o) : w.layVars P l = layOf w o := by
  subst h
  unfold World.layVars layOf
  cases Lay.layList P w.heap.size l <;> rfl
def fitsOf (w : World) (o : Option (List (Nat × List Value) × List Obj)) : Bool :=
  match o with
  | some y => decide (y.1.map (·.1)).Nodup && (y.1.all fun r => Lay.isRow w.heap.toList[r.1]? && !([] : List Nat).contains r.1) && ([] : List Nat).all (· < w.heap.size)
  | none => false
theorem layFits_of (P : Program) (w : World) (l : List (String × DataW Unit)) (o : Option (List (Nat × List Value) × List Obj)) (h : Lay.layList P w.heap.size l = o) : w.layFits P l [] = fitsOf w o := by
  subst h
  unfold World.layFits fitsOf
  cases Lay.layList P w.heap.size l <;> rfl
def ifacesOf (P : Program) (w' : World) (o : Option (List (Nat × List Value) × List Obj)) : Bool :=
  match o with
  | some y => (y.1.all fun r => r.2.all (Lay.okV P w')) && y.2.all (Lay.okO P w')
  | none => false
theorem layIfaces_of (P : Program) (w w' : World) (l : List (String × DataW Unit)) (o : Option (List (Nat × List Value) × List Obj)) (h : Lay.layList P w.heap.size l = o) : w.layIfaces P l w' = ifacesOf P w' o := by
  subst h
  unfold World.layIfaces ifacesOf
  cases Lay.layList P w.heap.size l <;> rfl
/-- the laid world -/
noncomputable def laidW (os : Os) : World := layOf (World.holding Tryz.prog os ⟨#[], #[], []⟩) (layListE (World.holding Tryz.prog os ⟨#[], #[], []⟩).heap.size Rows.serviceNumbersRow.laid)
theorem laidW_eq (os : Os) : World.laidAll Tryz.prog os Rows.serviceNumbersRow.laid = laidW os := by
  unfold World.laidAll laidW
  exact layVars_of _ _ _ _ (layListE_eq _ _)
theorem laidW_os (os : Os) : (laidW os).os = os := by
  rw [← laidW_eq]
  exact World.laidAll_os _ _ _
theorem fitsE_eq (os : Os) (h : fitsOf (World.holding Tryz.prog os ⟨#[], #[], []⟩) (layListE (World.holding Tryz.prog os ⟨#[], #[], []⟩).heap.size Rows.serviceNumbersRow.laid) = true) : (World.holding Tryz.prog os ⟨#[], #[], []⟩).layFits Tryz.prog Rows.serviceNumbersRow.laid [] = true :=
  (layFits_of _ _ _ _ (layListE_eq _ _)).trans h
theorem ifacesE_eq (os : Os) (h : ifacesOf Tryz.prog (laidW os) (layListE (World.holding Tryz.prog os ⟨#[], #[], []⟩).heap.size Rows.serviceNumbersRow.laid) = true) : (World.holding Tryz.prog os ⟨#[], #[], []⟩).layIfaces Tryz.prog Rows.serviceNumbersRow.laid (laidW os) = true :=
  (layIfaces_of _ _ _ _ _ (layListE_eq _ _)).trans h
end Go.Proofs.YtaiopdbghclmeaaGreatDoor
