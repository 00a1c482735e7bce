/- Part of the proof: what closed calls answer. -/
import Derived.Test.YthabpmmgijaiaaaGreatDoorHeada1
set_option linter.unusedSimpArgs false
set_option linter.unusedVariables false
section
/- Known answers of closed calls: the head. -/
set_option maxRecDepth 1000000
namespace Go.Dee.L.H
open Go.Proofs
def t35 : List (Nat × List FV × FV) := (14, y39, (.bool true)) :: t34
theorem tk35 : ∀ y ∈ t35, Known cx y.1 y.2.1 y.2.2 := fun y hy => (List.mem_cons.1 hy).elim (fun e => e ▸ h34) (tk34 y)
theorem h35 : Known cx 7 y40 y41 := known_of fol envOk (table_ok tk35) (n := 300) (h0 := Heap.empty) (by kernel_rfl)
def t36 : List (Nat × List FV × FV) := (7, y40, y41) :: t35
theorem tk36 : ∀ y ∈ t36, Known cx y.1 y.2.1 y.2.2 := fun y hy => (List.mem_cons.1 hy).elim (fun e => e ▸ h35) (tk35 y)
theorem h36 : Known cx 7 y42 y43 := known_of fol envOk (table_ok tk36) (n := 300) (h0 := Heap.empty) (by kernel_rfl)
def t37 : List (Nat × List FV × FV) := (7, y42, y43) :: t36
theorem tk37 : ∀ y ∈ t37, Known cx y.1 y.2.1 y.2.2 := fun y hy => (List.mem_cons.1 hy).elim (fun e => e ▸ h36) (tk36 y)
theorem h37 : Known cx 12 [(.slice 1 [(.int .u8 1)] (some 1))] y44 := known_of fol envOk (table_ok tk37) (n := 300) (h0 := Heap.empty) (by kernel_rfl)
def t38 : List (Nat × List FV × FV) := (12, [(.slice 1 [(.int .u8 1)] (some 1))], y44) :: t37
theorem tk38 : ∀ y ∈ t38, Known cx y.1 y.2.1 y.2.2 := fun y hy => (List.mem_cons.1 hy).elim (fun e => e ▸ h37) (tk37 y)
theorem h38 : Known cx 24 y45 y46 := known_of fol envOk (table_ok tk38) (n := 300) (h0 := Heap.empty) (by kernel_rfl)
def t39 : List (Nat × List FV × FV) := (24, y45, y46) :: t38
theorem tk39 : ∀ y ∈ t39, Known cx y.1 y.2.1 y.2.2 := fun y hy => (List.mem_cons.1 hy).elim (fun e => e ▸ h38) (tk38 y)
theorem h39 : Known cx 24 y47 y46 := known_of fol envOk (table_ok tk39) (n := 300) (h0 := Heap.empty) (by kernel_rfl)
def t40 : List (Nat × List FV × FV) := (24, y47, y46) :: t39
theorem tk40 : ∀ y ∈ t40, Known cx y.1 y.2.1 y.2.2 := fun y hy => (List.mem_cons.1 hy).elim (fun e => e ▸ h39) (tk39 y)
theorem h40 : Known cx 13 y48 (.bool true) := known_of fol envOk (table_ok tk40) (n := 300) (h0 := Heap.empty) (by kernel_rfl)
def t41 : List (Nat × List FV × FV) := (13, y48, (.bool true)) :: t40
theorem tk41 : ∀ y ∈ t41, Known cx y.1 y.2.1 y.2.2 := fun y hy => (List.mem_cons.1 hy).elim (fun e => e ▸ h40) (tk40 y)
theorem h41 : Known cx 8 y49 (.bool true) := known_of fol envOk (table_ok tk41) (n := 300) (h0 := Heap.empty) (by kernel_rfl)
def t42 : List (Nat × List FV × FV) := (8, y49, (.bool true)) :: t41
theorem tk42 : ∀ y ∈ t42, Known cx y.1 y.2.1 y.2.2 := fun y hy => (List.mem_cons.1 hy).elim (fun e => e ▸ h41) (tk41 y)
theorem h42 : Known cx 5 [] (.bool true) := known_of fol envOk (table_ok tk42) (n := 300) (h0 := Heap.empty) (by kernel_rfl)
def t43 : List (Nat × List FV × FV) := (5, [], (.bool true)) :: t42
theorem tk43 : ∀ y ∈ t43, Known cx y.1 y.2.1 y.2.2 := fun y hy => (List.mem_cons.1 hy).elim (fun e => e ▸ h42) (tk42 y)
end Go.Dee.L.H
end
