/- What is asked of all types, in pieces. No condition. -/
import Derived.Test.YtaiopdbghclmeaaGreatDoorEvCa
namespace Go.Proofs.YtaiopdbghclmeaaGreatDoor
open Go
set_option maxRecDepth 1000000 in
theorem types_is : Tryz.prog.types.size = 872 := by kernel_rfl
set_option maxRecDepth 1000000 in
theorem lo0 : ((List.range' (100 * 0) 100).all fun t => rowFine Tryz.prog t || decide (872 ≤ t)) = true := by kernel_rfl
set_option maxRecDepth 1000000 in
theorem lo1 : ((List.range' (100 * 1) 100).all fun t => rowFine Tryz.prog t || decide (872 ≤ t)) = true := by kernel_rfl
set_option maxRecDepth 1000000 in
theorem lo2 : ((List.range' (100 * 2) 100).all fun t => rowFine Tryz.prog t || decide (872 ≤ t)) = true := by kernel_rfl
set_option maxRecDepth 1000000 in
theorem lo3 : ((List.range' (100 * 3) 100).all fun t => rowFine Tryz.prog t || decide (872 ≤ t)) = true := by kernel_rfl
set_option maxRecDepth 1000000 in
theorem lo4 : ((List.range' (100 * 4) 100).all fun t => rowFine Tryz.prog t || decide (872 ≤ t)) = true := by kernel_rfl
set_option maxRecDepth 1000000 in
theorem lo5 : ((List.range' (100 * 5) 100).all fun t => rowFine Tryz.prog t || decide (872 ≤ t)) = true := by kernel_rfl
set_option maxRecDepth 1000000 in
theorem lo6 : ((List.range' (100 * 6) 100).all fun t => rowFine Tryz.prog t || decide (872 ≤ t)) = true := by kernel_rfl
set_option maxRecDepth 1000000 in
theorem lo7 : ((List.range' (100 * 7) 100).all fun t => rowFine Tryz.prog t || decide (872 ≤ t)) = true := by kernel_rfl
set_option maxRecDepth 1000000 in
theorem lo8 : ((List.range' (100 * 8) 100).all fun t => rowFine Tryz.prog t || decide (872 ≤ t)) = true := by kernel_rfl
set_option maxRecDepth 1000000 in
theorem lo_g : Tryz.prog.globals.all (fun g => decide (g.type < Tryz.prog.types.size)) = true := by kernel_rfl
set_option maxRecDepth 1000000 in
theorem lo_f : Tryz.prog.funcs.all (fun f => f.params.all fun t => decide (t < Tryz.prog.types.size)) = true := by kernel_rfl
theorem fact1 : laidOutB Tryz.prog = true := by
  have h : (List.range Tryz.prog.types.size).all (rowFine Tryz.prog) = true := by
    rw [types_is]
    refine range_all _ 100 9 872 (by decide) (fun c hc => ?_) (by decide)
    match c, hc with
    | 0, _ => exact lo0
    | 1, _ => exact lo1
    | 2, _ => exact lo2
    | 3, _ => exact lo3
    | 4, _ => exact lo4
    | 5, _ => exact lo5
    | 6, _ => exact lo6
    | 7, _ => exact lo7
    | 8, _ => exact lo8
    | _ + 9, hc => exact absurd hc (by omega)
  unfold laidOutB
  rw [h, lo_g, lo_f]
  rfl
noncomputable def mrq (t : Nat) : Bool := match Tryz.prog.underlying t with | some (.map _ e) => decide (e < 872) | _ => true
set_option maxRecDepth 1000000 in
theorem mr0 : ((List.range' (100 * 0) 100).all fun t => mrq t || decide (872 ≤ t)) = true := by kernel_rfl
set_option maxRecDepth 1000000 in
theorem mr1 : ((List.range' (100 * 1) 100).all fun t => mrq t || decide (872 ≤ t)) = true := by kernel_rfl
set_option maxRecDepth 1000000 in
theorem mr2 : ((List.range' (100 * 2) 100).all fun t => mrq t || decide (872 ≤ t)) = true := by kernel_rfl
set_option maxRecDepth 1000000 in
theorem mr3 : ((List.range' (100 * 3) 100).all fun t => mrq t || decide (872 ≤ t)) = true := by kernel_rfl
set_option maxRecDepth 1000000 in
theorem mr4 : ((List.range' (100 * 4) 100).all fun t => mrq t || decide (872 ≤ t)) = true := by kernel_rfl
set_option maxRecDepth 1000000 in
theorem mr5 : ((List.range' (100 * 5) 100).all fun t => mrq t || decide (872 ≤ t)) = true := by kernel_rfl
set_option maxRecDepth 1000000 in
theorem mr6 : ((List.range' (100 * 6) 100).all fun t => mrq t || decide (872 ≤ t)) = true := by kernel_rfl
set_option maxRecDepth 1000000 in
theorem mr7 : ((List.range' (100 * 7) 100).all fun t => mrq t || decide (872 ≤ t)) = true := by kernel_rfl
set_option maxRecDepth 1000000 in
theorem mr8 : ((List.range' (100 * 8) 100).all fun t => mrq t || decide (872 ≤ t)) = true := by kernel_rfl
theorem mr_all : (List.range 872).all mrq = true := by
  refine range_all _ 100 9 872 (by decide) (fun c hc => ?_) (by decide)
  match c, hc with
    | 0, _ => exact mr0
    | 1, _ => exact mr1
    | 2, _ => exact mr2
    | 3, _ => exact mr3
    | 4, _ => exact mr4
    | 5, _ => exact mr5
    | 6, _ => exact mr6
    | 7, _ => exact mr7
    | 8, _ => exact mr8
    | _ + 9, hc => exact absurd hc (by omega)
theorem fact2 : mapsRowed Tryz.prog = true := by
  unfold mapsRowed
  rw [types_is]
  refine Eq.trans (congrArg (List.all (List.range 872)) (funext fun t => ?_)) mr_all
  unfold mrq
  generalize Tryz.prog.underlying t = u
  cases u with
  | none => rfl
  | some d => cases d <;> rfl
end Go.Proofs.YtaiopdbghclmeaaGreatDoor
