/- The evaluator laid by recursors alone (what the kernel runs fastest); tables of texts; small laws. -/
import Derived.Test.YtcjidlgmbjebjaaDoorEvD
import Derived.Handy
import Derived.WalkKit
set_option linter.unusedVariables false
set_option linter.unusedSimpArgs false
/- The evaluator once more, laid by recursors alone (what the kernel runs fastest); that it is the same. -/
namespace Go.Proofs.YtcjidlgmbjebjaaDoor.Ev
open Go
noncomputable section
def W_kindOp : { f // f = @Go.Proofs.YtcjidlgmbjebjaaDoor.Ev.kindOp } := ⟨_, by delta Go.Proofs.YtcjidlgmbjebjaaDoor.Ev.kindOp Go.Proofs.YtcjidlgmbjebjaaDoor.Ev.kindOp._sparseCasesOn_2 Go.Proofs.YtcjidlgmbjebjaaDoor.Ev.readOp._sparseCasesOn_3 Go.Proofs.YtcjidlgmbjebjaaDoor.Ev.kindOp._sparseCasesOn_1 Go.Proofs.YtcjidlgmbjebjaaDoor.Ev.readOp.match_3 Go.Proofs.YtcjidlgmbjebjaaDoor.Ev.kindOp.match_1 Go.Proofs.YtcjidlgmbjebjaaDoor.Ev.kindOp.match_2; rfl⟩
def R_kindOp := W_kindOp.1
theorem R_kindOp_eq : @Go.Proofs.YtcjidlgmbjebjaaDoor.Ev.kindOp = R_kindOp := W_kindOp.2.symm

def W_V_one : { f // f = @Go.Proofs.YtcjidlgmbjebjaaDoor.Ev.V.one } := ⟨_, by delta Go.Proofs.YtcjidlgmbjebjaaDoor.Ev.V.one Go.Proofs.YtcjidlgmbjebjaaDoor.Ev.V.one.match_1 Go.Proofs.YtcjidlgmbjebjaaDoor.Ev.V.one._sparseCasesOn_1; rfl⟩
def R_V_one := W_V_one.1
theorem R_V_one_eq : @Go.Proofs.YtcjidlgmbjebjaaDoor.Ev.V.one = R_V_one := W_V_one.2.symm

def R_allOne (l : List V) : Bool := List.rec (motive := fun _ => Bool) true (fun v _ ih => Bool.rec (motive := fun _ => Bool) false ih (R_V_one v)) l
theorem R_allOne_eq : @allOne = R_allOne := by
  funext l
  induction l with
  | nil => rfl
  | cons v r ih =>
    rw [allOne, ih, R_V_one_eq]
    show _ = Bool.rec (motive := fun _ => Bool) false (R_allOne r) (R_V_one v)
    cases R_V_one v <;> rfl

def W_constQ : { f // f = @Go.Proofs.YtcjidlgmbjebjaaDoor.Ev.constQ } := ⟨_, by delta Go.Proofs.YtcjidlgmbjebjaaDoor.Ev.constQ Go.Proofs.YtcjidlgmbjebjaaDoor.Ev.constQ._sparseCasesOn_1 Go.Proofs.YtcjidlgmbjebjaaDoor.Ev.constQ.match_1; rfl⟩
def R_constQ := W_constQ.1
theorem R_constQ_eq : @Go.Proofs.YtcjidlgmbjebjaaDoor.Ev.constQ = R_constQ := W_constQ.2.symm

def W_valQ : { f // f = @Go.Proofs.YtcjidlgmbjebjaaDoor.Ev.valQ } := ⟨_, by delta Go.Proofs.YtcjidlgmbjebjaaDoor.Ev.valQ Go.Proofs.YtcjidlgmbjebjaaDoor.Ev.valQ.match_1 Bool.casesOn Go.Proofs.YtcjidlgmbjebjaaDoor.Ev.valQ.match_2 Go.Operand.casesOn Option.getD Option.getD.match_1 Option.casesOn; simp only [R_constQ_eq]; rfl⟩
def R_valQ := W_valQ.1
theorem R_valQ_eq : @Go.Proofs.YtcjidlgmbjebjaaDoor.Ev.valQ = R_valQ := W_valQ.2.symm

def R_partsO (E : Env) (tm : T V) (l : List (Nat × Operand)) : Option (List (Nat × V)) :=
  List.rec (motive := fun _ => Option (List (Nat × V))) (some []) (fun x _ ih => Option.rec (motive := fun _ => Option (List (Nat × V))) none (fun v => Option.rec (motive := fun _ => Option (List (Nat × V))) none (fun l => some ((x.1, v) :: l)) ih) (R_valQ x.2 E tm)) l
theorem R_partsO_eq : @partsO = R_partsO := by
  funext E tm l
  induction l with
  | nil => rfl
  | cons x r ih =>
    rw [partsO, ih, ← valQ_eq, R_valQ_eq]
    kernel_rfl

def W_oneCells : { f // f = @Go.Proofs.YtcjidlgmbjebjaaDoor.Ev.oneCells } := ⟨_, by delta Go.Proofs.YtcjidlgmbjebjaaDoor.Ev.oneCells Go.Proofs.YtcjidlgmbjebjaaDoor.Ev.V.one.match_1 Go.Proofs.YtcjidlgmbjebjaaDoor.Ev.V.one._sparseCasesOn_1; rfl⟩
def R_oneCells := W_oneCells.1
theorem R_oneCells_eq : @Go.Proofs.YtcjidlgmbjebjaaDoor.Ev.oneCells = R_oneCells := W_oneCells.2.symm

def R_takeV {α : Type} (l : List α) : Nat → List α :=
  List.rec (motive := fun _ => Nat → List α) (fun _ => []) (fun x _ ih k => Bool.rec (motive := fun _ => List α) (x :: ih (Nat.sub k 1)) [] (Nat.beq k 0)) l
theorem R_takeV_eq : @takeV = @R_takeV := by
  funext α l
  induction l with
  | nil => rfl
  | cons x r ih =>
    funext k
    rw [takeV, ih]
    show _ = Bool.rec (motive := fun _ => List α) (x :: R_takeV r (Nat.sub k 1)) [] (Nat.beq k 0)
    cases Nat.beq k 0 <;> rfl

def R_dropV {α : Type} (l : List α) : Nat → List α :=
  List.rec (motive := fun _ => Nat → List α) (fun _ => []) (fun x r ih k => Bool.rec (motive := fun _ => List α) (ih (Nat.sub k 1)) (x :: r) (Nat.beq k 0)) l
theorem R_dropV_eq : @dropV = @R_dropV := by
  funext α l
  induction l with
  | nil => rfl
  | cons x r ih =>
    funext k
    rw [dropV, ih]
    show _ = Bool.rec (motive := fun _ => List α) (R_dropV r (Nat.sub k 1)) (x :: r) (Nat.beq k 0)
    cases Nat.beq k 0 <;> rfl

def R_listGet {α : Type} (l : List α) : Nat → Option α :=
  List.rec (motive := fun _ => Nat → Option α) (fun _ => none) (fun x _ ih k => Bool.rec (motive := fun _ => Option α) (ih (Nat.sub k 1)) (some x) (Nat.beq k 0)) l
theorem R_listGet_eq : @listGet = @R_listGet := by
  funext α l
  induction l with
  | nil => rfl
  | cons x r ih =>
    funext k
    rw [listGet, ih]
    show _ = Bool.rec (motive := fun _ => Option α) (R_listGet r (Nat.sub k 1)) (some x) (Nat.beq k 0)
    cases Nat.beq k 0 <;> rfl

def W_buildV : { f // f = @Go.Proofs.YtcjidlgmbjebjaaDoor.Ev.buildV } := ⟨_, by delta Go.Proofs.YtcjidlgmbjebjaaDoor.Ev.buildV Go.Proofs.YtcjidlgmbjebjaaDoor.Ev.aggD._sparseCasesOn_1 Go.Proofs.YtcjidlgmbjebjaaDoor.Ev.aggD.match_1 Option.bind Option.bind.match_1 Option.casesOn; simp only [R_oneCells_eq, R_listGet_eq]; rfl⟩
def R_buildV := W_buildV.1
theorem R_buildV_eq : @Go.Proofs.YtcjidlgmbjebjaaDoor.Ev.buildV = R_buildV := W_buildV.2.symm

def W_Cells_size : { f // f = @Go.Proofs.YtcjidlgmbjebjaaDoor.Ev.Cells.size } := ⟨_, by delta Go.Proofs.YtcjidlgmbjebjaaDoor.Ev.Cells.size Go.Proofs.YtcjidlgmbjebjaaDoor.Ev.Cells.casesOn Go.Proofs.YtcjidlgmbjebjaaDoor.Ev.Cells.size.match_1; rfl⟩
def R_Cells_size := W_Cells_size.1
theorem R_Cells_size_eq : @Go.Proofs.YtcjidlgmbjebjaaDoor.Ev.Cells.size = R_Cells_size := W_Cells_size.2.symm

def W_bv : { f // f = @Go.Proofs.YtcjidlgmbjebjaaDoor.Ev.bv } := ⟨_, by delta Go.Proofs.YtcjidlgmbjebjaaDoor.Ev.bv; rfl⟩
def R_bv := W_bv.1
theorem R_bv_eq : @Go.Proofs.YtcjidlgmbjebjaaDoor.Ev.bv = R_bv := W_bv.2.symm

def W_Cells_toList : { f // f = @Go.Proofs.YtcjidlgmbjebjaaDoor.Ev.Cells.toList } := ⟨_, by delta Go.Proofs.YtcjidlgmbjebjaaDoor.Ev.Cells.toList Go.Proofs.YtcjidlgmbjebjaaDoor.Ev.Cells.casesOn Go.Proofs.YtcjidlgmbjebjaaDoor.Ev.Cells.size.match_1; rfl⟩
def R_Cells_toList := W_Cells_toList.1
theorem R_Cells_toList_eq : @Go.Proofs.YtcjidlgmbjebjaaDoor.Ev.Cells.toList = R_Cells_toList := W_Cells_toList.2.symm

def W_cutB : { f // f = @Go.Proofs.YtcjidlgmbjebjaaDoor.Ev.cutB } := ⟨_, by delta Go.Proofs.YtcjidlgmbjebjaaDoor.Ev.cutB; rfl⟩
def R_cutB := W_cutB.1
theorem R_cutB_eq : @Go.Proofs.YtcjidlgmbjebjaaDoor.Ev.cutB = R_cutB := W_cutB.2.symm

def W_Cells_extract : { f // f = @Go.Proofs.YtcjidlgmbjebjaaDoor.Ev.Cells.extract } := ⟨_, by delta Go.Proofs.YtcjidlgmbjebjaaDoor.Ev.Cells.extract Go.Proofs.YtcjidlgmbjebjaaDoor.Ev.Cells.casesOn Go.Proofs.YtcjidlgmbjebjaaDoor.Ev.Cells.extract.match_1; simp only [R_takeV_eq, R_dropV_eq, R_cutB_eq]; rfl⟩
def R_Cells_extract := W_Cells_extract.1
theorem R_Cells_extract_eq : @Go.Proofs.YtcjidlgmbjebjaaDoor.Ev.Cells.extract = R_Cells_extract := W_Cells_extract.2.symm

def W_byteAt : { f // f = @Go.Proofs.YtcjidlgmbjebjaaDoor.Ev.byteAt } := ⟨_, by delta Go.Proofs.YtcjidlgmbjebjaaDoor.Ev.byteAt; rfl⟩
def R_byteAt := W_byteAt.1
theorem R_byteAt_eq : @Go.Proofs.YtcjidlgmbjebjaaDoor.Ev.byteAt = R_byteAt := W_byteAt.2.symm

def W_Cells_get : { f // f = @Go.Proofs.YtcjidlgmbjebjaaDoor.Ev.Cells.get } := ⟨_, by delta Go.Proofs.YtcjidlgmbjebjaaDoor.Ev.Cells.get Go.Proofs.YtcjidlgmbjebjaaDoor.Ev.Cells.get.match_1 Go.Proofs.YtcjidlgmbjebjaaDoor.Ev.Cells.casesOn Go.Proofs.YtcjidlgmbjebjaaDoor.Ev.allOne.match_1 Bool.casesOn; simp only [R_listGet_eq, R_bv_eq, R_byteAt_eq]; rfl⟩
def R_Cells_get := W_Cells_get.1
theorem R_Cells_get_eq : @Go.Proofs.YtcjidlgmbjebjaaDoor.Ev.Cells.get = R_Cells_get := W_Cells_get.2.symm

def W_loadVar : { f // f = @Go.Proofs.YtcjidlgmbjebjaaDoor.Ev.loadVar } := ⟨_, by delta Go.Proofs.YtcjidlgmbjebjaaDoor.Ev.loadVar Go.Proofs.YtcjidlgmbjebjaaDoor.Ev.loadVar.match_1 Go.Proofs.YtcjidlgmbjebjaaDoor.Ev.loadVar._sparseCasesOn_1 Go.Proofs.YtcjidlgmbjebjaaDoor.Ev.allOne.match_1 Bool.casesOn Option.bind Option.bind.match_1 Option.casesOn; simp only [R_Cells_size_eq, R_Cells_toList_eq, R_Cells_extract_eq, R_Cells_get_eq]; rfl⟩
def R_loadVar := W_loadVar.1
theorem R_loadVar_eq : @Go.Proofs.YtcjidlgmbjebjaaDoor.Ev.loadVar = R_loadVar := W_loadVar.2.symm

def W_nilCheckV : { f // f = @Go.Proofs.YtcjidlgmbjebjaaDoor.Ev.nilCheckV } := ⟨_, by delta Go.Proofs.YtcjidlgmbjebjaaDoor.Ev.nilCheckV Go.Proofs.YtcjidlgmbjebjaaDoor.Ev.nilCheckV._sparseCasesOn_1 Go.Proofs.YtcjidlgmbjebjaaDoor.Ev.nilCheckV._sparseCasesOn_2 Go.Proofs.YtcjidlgmbjebjaaDoor.Ev.nilCheckV.match_2 Go.Proofs.YtcjidlgmbjebjaaDoor.Ev.nilCheckV.match_1; rfl⟩
def R_nilCheckV := W_nilCheckV.1
theorem R_nilCheckV_eq : @Go.Proofs.YtcjidlgmbjebjaaDoor.Ev.nilCheckV = R_nilCheckV := W_nilCheckV.2.symm

def W_halfF : { f // f = @Go.Proofs.YtcjidlgmbjebjaaDoor.Ev.halfF } := ⟨_, by delta Go.Proofs.YtcjidlgmbjebjaaDoor.Ev.halfF Go.Proofs.YtcjidlgmbjebjaaDoor.Ev.halfF.match_1 Go.IntKind.casesOn; rfl⟩
def R_halfF := W_halfF.1
theorem R_halfF_eq : @Go.Proofs.YtcjidlgmbjebjaaDoor.Ev.halfF = R_halfF := W_halfF.2.symm

def W_fullF : { f // f = @Go.Proofs.YtcjidlgmbjebjaaDoor.Ev.fullF } := ⟨_, by delta Go.Proofs.YtcjidlgmbjebjaaDoor.Ev.fullF Go.Proofs.YtcjidlgmbjebjaaDoor.Ev.fullF.match_1 Go.IntKind.casesOn; rfl⟩
def R_fullF := W_fullF.1
theorem R_fullF_eq : @Go.Proofs.YtcjidlgmbjebjaaDoor.Ev.fullF = R_fullF := W_fullF.2.symm

def W_wrapF : { f // f = @Go.Proofs.YtcjidlgmbjebjaaDoor.Ev.wrapF } := ⟨_, by delta Go.Proofs.YtcjidlgmbjebjaaDoor.Ev.wrapF Int.casesOn Go.Proofs.YtcjidlgmbjebjaaDoor.Ev.wrapF.match_2 Go.Proofs.YtcjidlgmbjebjaaDoor.Ev.wrapF.match_1 Bool.casesOn Go.Proofs.YtcjidlgmbjebjaaDoor.Ev.ltF.match_1; simp only [R_halfF_eq, R_fullF_eq]; rfl⟩
def R_wrapF := W_wrapF.1
theorem R_wrapF_eq : @Go.Proofs.YtcjidlgmbjebjaaDoor.Ev.wrapF = R_wrapF := W_wrapF.2.symm

def W_shlF : { f // f = @Go.Proofs.YtcjidlgmbjebjaaDoor.Ev.shlF } := ⟨_, by delta Go.Proofs.YtcjidlgmbjebjaaDoor.Ev.shlF; simp only [R_wrapF_eq]; rfl⟩
def R_shlF := W_shlF.1
theorem R_shlF_eq : @Go.Proofs.YtcjidlgmbjebjaaDoor.Ev.shlF = R_shlF := W_shlF.2.symm

def W_minN : { f // f = @Go.Proofs.YtcjidlgmbjebjaaDoor.Ev.minN } := ⟨_, by delta Go.Proofs.YtcjidlgmbjebjaaDoor.Ev.minN Go.Proofs.YtcjidlgmbjebjaaDoor.Ev.wrapF.match_2 Bool.casesOn; rfl⟩
def R_minN := W_minN.1
theorem R_minN_eq : @Go.Proofs.YtcjidlgmbjebjaaDoor.Ev.minN = R_minN := W_minN.2.symm

def W_bitsN : { f // f = @Go.Proofs.YtcjidlgmbjebjaaDoor.Ev.bitsN } := ⟨_, by delta Go.Proofs.YtcjidlgmbjebjaaDoor.Ev.bitsN Go.Proofs.YtcjidlgmbjebjaaDoor.Ev.fullF.match_1 Go.IntKind.casesOn; rfl⟩
def R_bitsN := W_bitsN.1
theorem R_bitsN_eq : @Go.Proofs.YtcjidlgmbjebjaaDoor.Ev.bitsN = R_bitsN := W_bitsN.2.symm

def W_shrF : { f // f = @Go.Proofs.YtcjidlgmbjebjaaDoor.Ev.shrF } := ⟨_, by delta Go.Proofs.YtcjidlgmbjebjaaDoor.Ev.shrF Int.casesOn Go.Proofs.YtcjidlgmbjebjaaDoor.Ev.ltF.match_1; rfl⟩
def R_shrF := W_shrF.1
theorem R_shrF_eq : @Go.Proofs.YtcjidlgmbjebjaaDoor.Ev.shrF = R_shrF := W_shrF.2.symm

def W_shiftF : { f // f = @Go.Proofs.YtcjidlgmbjebjaaDoor.Ev.shiftF } := ⟨_, by delta Go.Proofs.YtcjidlgmbjebjaaDoor.Ev.shiftF Int.casesOn Go.Proofs.YtcjidlgmbjebjaaDoor.Ev.shiftF.match_1 Go.Proofs.YtcjidlgmbjebjaaDoor.Ev.ltF.match_1 Go.Proofs.YtcjidlgmbjebjaaDoor.Ev.shiftF._sparseCasesOn_1; simp only [R_shlF_eq, R_minN_eq, R_bitsN_eq, R_shrF_eq]; rfl⟩
def R_shiftF := W_shiftF.1
theorem R_shiftF_eq : @Go.Proofs.YtcjidlgmbjebjaaDoor.Ev.shiftF = R_shiftF := W_shiftF.2.symm

def W_eqF : { f // f = @Go.Proofs.YtcjidlgmbjebjaaDoor.Ev.eqF } := ⟨_, by delta Go.Proofs.YtcjidlgmbjebjaaDoor.Ev.eqF Int.casesOn Go.Proofs.YtcjidlgmbjebjaaDoor.Ev.ltF.match_1; rfl⟩
def R_eqF := W_eqF.1
theorem R_eqF_eq : @Go.Proofs.YtcjidlgmbjebjaaDoor.Ev.eqF = R_eqF := W_eqF.2.symm

def W_ltF : { f // f = @Go.Proofs.YtcjidlgmbjebjaaDoor.Ev.ltF } := ⟨_, by delta Go.Proofs.YtcjidlgmbjebjaaDoor.Ev.ltF Int.casesOn Go.Proofs.YtcjidlgmbjebjaaDoor.Ev.ltF.match_1; rfl⟩
def R_ltF := W_ltF.1
theorem R_ltF_eq : @Go.Proofs.YtcjidlgmbjebjaaDoor.Ev.ltF = R_ltF := W_ltF.2.symm

def W_cmpF : { f // f = @Go.Proofs.YtcjidlgmbjebjaaDoor.Ev.cmpF } := ⟨_, by delta Go.Proofs.YtcjidlgmbjebjaaDoor.Ev.cmpF Go.Proofs.YtcjidlgmbjebjaaDoor.Ev.cmpF.match_1 Go.Proofs.YtcjidlgmbjebjaaDoor.Ev.cmpF._sparseCasesOn_1; simp only [R_eqF_eq, R_ltF_eq]; rfl⟩
def R_cmpF := W_cmpF.1
theorem R_cmpF_eq : @Go.Proofs.YtcjidlgmbjebjaaDoor.Ev.cmpF = R_cmpF := W_cmpF.2.symm

def W_toU : { f // f = @Go.Proofs.YtcjidlgmbjebjaaDoor.Ev.toU } := ⟨_, by delta Go.Proofs.YtcjidlgmbjebjaaDoor.Ev.toU Int.casesOn Go.Proofs.YtcjidlgmbjebjaaDoor.Ev.ltF.match_1; simp only [R_fullF_eq]; rfl⟩
def R_toU := W_toU.1
theorem R_toU_eq : @Go.Proofs.YtcjidlgmbjebjaaDoor.Ev.toU = R_toU := W_toU.2.symm

def W_bitsF : { f // f = @Go.Proofs.YtcjidlgmbjebjaaDoor.Ev.bitsF } := ⟨_, by delta Go.Proofs.YtcjidlgmbjebjaaDoor.Ev.bitsF Go.Proofs.YtcjidlgmbjebjaaDoor.Ev.bitsF._sparseCasesOn_1 Go.Proofs.YtcjidlgmbjebjaaDoor.Ev.bitsF.match_1; simp only [R_wrapF_eq, R_toU_eq, R_fullF_eq]; rfl⟩
def R_bitsF := W_bitsF.1
theorem R_bitsF_eq : @Go.Proofs.YtcjidlgmbjebjaaDoor.Ev.bitsF = R_bitsF := W_bitsF.2.symm

def W_arithF : { f // f = @Go.Proofs.YtcjidlgmbjebjaaDoor.Ev.arithF } := ⟨_, by delta Go.Proofs.YtcjidlgmbjebjaaDoor.Ev.arithF Go.Proofs.YtcjidlgmbjebjaaDoor.Ev.wrapF.match_2 Go.Proofs.YtcjidlgmbjebjaaDoor.Ev.arithF.match_1 Go.Proofs.YtcjidlgmbjebjaaDoor.Ev.arithF._sparseCasesOn_1 Bool.casesOn; simp only [R_wrapF_eq, R_eqF_eq, R_bitsF_eq]; rfl⟩
def R_arithF := W_arithF.1
theorem R_arithF_eq : @Go.Proofs.YtcjidlgmbjebjaaDoor.Ev.arithF = R_arithF := W_arithF.2.symm

def W_intOp2 : { f // f = @Go.Proofs.YtcjidlgmbjebjaaDoor.Ev.intOp2 } := ⟨_, by delta Go.Proofs.YtcjidlgmbjebjaaDoor.Ev.intOp2 Option.casesOn Go.Proofs.YtcjidlgmbjebjaaDoor.Ev.wrapF.match_2 Bool.casesOn Go.Proofs.YtcjidlgmbjebjaaDoor.Ev.intOp2.match_1 Option.bind Option.bind.match_1; simp only [R_cmpF_eq, R_arithF_eq]; rfl⟩
def R_intOp2 := W_intOp2.1
theorem R_intOp2_eq : @Go.Proofs.YtcjidlgmbjebjaaDoor.Ev.intOp2 = R_intOp2 := W_intOp2.2.symm

def W_intOp : { f // f = @Go.Proofs.YtcjidlgmbjebjaaDoor.Ev.intOp } := ⟨_, by delta Go.Proofs.YtcjidlgmbjebjaaDoor.Ev.intOp Go.Proofs.YtcjidlgmbjebjaaDoor.Ev.shiftF.match_1 Go.Proofs.YtcjidlgmbjebjaaDoor.Ev.shiftF._sparseCasesOn_1 Option.bind Option.bind.match_1 Option.casesOn; simp only [R_shiftF_eq, R_intOp2_eq]; rfl⟩
def R_intOp := W_intOp.1
theorem R_intOp_eq : @Go.Proofs.YtcjidlgmbjebjaaDoor.Ev.intOp = R_intOp := W_intOp.2.symm

def W_glueB : { f // f = @Go.Proofs.YtcjidlgmbjebjaaDoor.Ev.glueB } := ⟨_, by delta Go.Proofs.YtcjidlgmbjebjaaDoor.Ev.glueB; rfl⟩
def R_glueB := W_glueB.1
theorem R_glueB_eq : @Go.Proofs.YtcjidlgmbjebjaaDoor.Ev.glueB = R_glueB := W_glueB.2.symm

def W_strOp : { f // f = @Go.Proofs.YtcjidlgmbjebjaaDoor.Ev.strOp } := ⟨_, by delta Go.Proofs.YtcjidlgmbjebjaaDoor.Ev.strOp Go.Proofs.YtcjidlgmbjebjaaDoor.Ev.strOp._sparseCasesOn_1 Go.Proofs.YtcjidlgmbjebjaaDoor.Ev.wrapF.match_2 Bool.casesOn Go.Proofs.YtcjidlgmbjebjaaDoor.Ev.strOp.match_1; simp only [R_glueB_eq]; rfl⟩
def R_strOp := W_strOp.1
theorem R_strOp_eq : @Go.Proofs.YtcjidlgmbjebjaaDoor.Ev.strOp = R_strOp := W_strOp.2.symm

def W_pinOp : { f // f = @Go.Proofs.YtcjidlgmbjebjaaDoor.Ev.pinOp } := ⟨_, by delta Go.Proofs.YtcjidlgmbjebjaaDoor.Ev.pinOp Go.Proofs.YtcjidlgmbjebjaaDoor.Ev.pinOp.match_1 Go.Proofs.YtcjidlgmbjebjaaDoor.Ev.pinOp._sparseCasesOn_1; rfl⟩
def R_pinOp := W_pinOp.1
theorem R_pinOp_eq : @Go.Proofs.YtcjidlgmbjebjaaDoor.Ev.pinOp = R_pinOp := W_pinOp.2.symm

def W_guardV : { f // f = @Go.Proofs.YtcjidlgmbjebjaaDoor.Ev.guardV } := ⟨_, by delta Go.Proofs.YtcjidlgmbjebjaaDoor.Ev.guardV Go.Proofs.YtcjidlgmbjebjaaDoor.Ev.guardV.match_2 Go.Proofs.YtcjidlgmbjebjaaDoor.Ev.guardV._sparseCasesOn_1 Go.Proofs.YtcjidlgmbjebjaaDoor.Ev.guardV.match_1 Option.casesOn Go.Proofs.YtcjidlgmbjebjaaDoor.Ev.wrapF.match_2 Go.Proofs.YtcjidlgmbjebjaaDoor.Ev.guardV._sparseCasesOn_5 Go.Proofs.YtcjidlgmbjebjaaDoor.Ev.guardV.match_3 Bool.casesOn Go.Proofs.YtcjidlgmbjebjaaDoor.Ev.guardV.match_4 Go.Proofs.YtcjidlgmbjebjaaDoor.Ev.guardV._sparseCasesOn_4 Go.Proofs.YtcjidlgmbjebjaaDoor.Ev.guardV.match_5 Go.Proofs.YtcjidlgmbjebjaaDoor.Ev.guardV._sparseCasesOn_3; rfl⟩
def R_guardV := W_guardV.1
theorem R_guardV_eq : @Go.Proofs.YtcjidlgmbjebjaaDoor.Ev.guardV = R_guardV := W_guardV.2.symm

def W_partV : { f // f = @Go.Proofs.YtcjidlgmbjebjaaDoor.Ev.partV } := ⟨_, by delta Go.Proofs.YtcjidlgmbjebjaaDoor.Ev.partV Go.Proofs.YtcjidlgmbjebjaaDoor.Ev.allOne.match_1 Bool.casesOn Option.bind Option.bind.match_1 Option.casesOn; simp only [R_takeV_eq, R_dropV_eq, R_listGet_eq]; rfl⟩
def R_partV := W_partV.1
theorem R_partV_eq : @Go.Proofs.YtcjidlgmbjebjaaDoor.Ev.partV = R_partV := W_partV.2.symm

def W_binOpV : { f // f = @Go.Proofs.YtcjidlgmbjebjaaDoor.Ev.binOpV } := ⟨_, by delta Go.Proofs.YtcjidlgmbjebjaaDoor.Ev.binOpV Go.Proofs.YtcjidlgmbjebjaaDoor.Ev.eqV.match_3 Go.Proofs.YtcjidlgmbjebjaaDoor.Ev.eqV._sparseCasesOn_3 Go.Proofs.YtcjidlgmbjebjaaDoor.Ev.wrapF.match_2 Go.Proofs.YtcjidlgmbjebjaaDoor.Ev.binOpV._sparseCasesOn_2 Go.Proofs.YtcjidlgmbjebjaaDoor.Ev.binOpV._sparseCasesOn_1 Bool.casesOn Go.Proofs.YtcjidlgmbjebjaaDoor.Ev.eqV.match_2 Go.Proofs.YtcjidlgmbjebjaaDoor.Ev.binOpV.match_1 Go.Proofs.YtcjidlgmbjebjaaDoor.Ev.eqV._sparseCasesOn_2 Go.Proofs.YtcjidlgmbjebjaaDoor.Ev.pinOp.match_1 Go.Proofs.YtcjidlgmbjebjaaDoor.Ev.binOpV.match_2 Go.Proofs.YtcjidlgmbjebjaaDoor.Ev.pinOp._sparseCasesOn_1 Option.bind Option.bind.match_1 Option.casesOn; simp only [R_intOp_eq, R_strOp_eq, R_pinOp_eq, R_guardV_eq]; rfl⟩
def R_binOpV := W_binOpV.1
theorem R_binOpV_eq : @Go.Proofs.YtcjidlgmbjebjaaDoor.Ev.binOpV = R_binOpV := W_binOpV.2.symm

def W_isConstO : { f // f = @Go.Proofs.YtcjidlgmbjebjaaDoor.Ev.isConstO } := ⟨_, by delta Go.Proofs.YtcjidlgmbjebjaaDoor.Ev.isConstO Go.Proofs.YtcjidlgmbjebjaaDoor.Ev.isConstO._sparseCasesOn_1 Go.Proofs.YtcjidlgmbjebjaaDoor.Ev.isConstO.match_1; rfl⟩
def R_isConstO := W_isConstO.1
theorem R_isConstO_eq : @Go.Proofs.YtcjidlgmbjebjaaDoor.Ev.isConstO = R_isConstO := W_isConstO.2.symm

def W_unOpV : { f // f = @Go.Proofs.YtcjidlgmbjebjaaDoor.Ev.unOpV } := ⟨_, by delta Go.Proofs.YtcjidlgmbjebjaaDoor.Ev.unOpV Go.Proofs.YtcjidlgmbjebjaaDoor.Ev.unOpV._sparseCasesOn_1 Go.Proofs.YtcjidlgmbjebjaaDoor.Ev.wrapF.match_2 Go.Proofs.YtcjidlgmbjebjaaDoor.Ev.eqV.match_1 Bool.casesOn Go.Proofs.YtcjidlgmbjebjaaDoor.Ev.eqV.match_2 Go.Proofs.YtcjidlgmbjebjaaDoor.Ev.eqV._sparseCasesOn_2 Go.Proofs.YtcjidlgmbjebjaaDoor.Ev.unOpV.match_1 Go.Proofs.YtcjidlgmbjebjaaDoor.Ev.eqV._sparseCasesOn_1 Option.bind Option.bind.match_1 Option.casesOn; simp only [R_wrapF_eq, R_bitsF_eq]; rfl⟩
def R_unOpV := W_unOpV.1
theorem R_unOpV_eq : @Go.Proofs.YtcjidlgmbjebjaaDoor.Ev.unOpV = R_unOpV := W_unOpV.2.symm

def W_isU8 : { f // f = @Go.Proofs.YtcjidlgmbjebjaaDoor.Ev.isU8 } := ⟨_, by delta Go.Proofs.YtcjidlgmbjebjaaDoor.Ev.isU8 Go.Proofs.YtcjidlgmbjebjaaDoor.Ev.isU8.match_1 Go.Proofs.YtcjidlgmbjebjaaDoor.Ev.isU8._sparseCasesOn_1 Go.Proofs.YtcjidlgmbjebjaaDoor.Ev.isU8._sparseCasesOn_2 Go.Proofs.YtcjidlgmbjebjaaDoor.Ev.isU8.match_3 Option.casesOn Go.Proofs.YtcjidlgmbjebjaaDoor.Ev.isU8.match_2; rfl⟩
def R_isU8 := W_isU8.1
theorem R_isU8_eq : @Go.Proofs.YtcjidlgmbjebjaaDoor.Ev.isU8 = R_isU8 := W_isU8.2.symm

def W_asByte : { f // f = @Go.Proofs.YtcjidlgmbjebjaaDoor.Ev.asByte } := ⟨_, by delta Go.Proofs.YtcjidlgmbjebjaaDoor.Ev.asByte Go.Proofs.YtcjidlgmbjebjaaDoor.Ev.asByte.match_1 Int.casesOn Go.Proofs.YtcjidlgmbjebjaaDoor.Ev.allOne.match_1 Bool.casesOn Go.Proofs.YtcjidlgmbjebjaaDoor.Ev.asByte._sparseCasesOn_2 Go.Proofs.YtcjidlgmbjebjaaDoor.Ev.asByte.match_2 Go.Proofs.YtcjidlgmbjebjaaDoor.Ev.asByte.match_3 Go.Proofs.YtcjidlgmbjebjaaDoor.Ev.asByte._sparseCasesOn_3; rfl⟩
def R_asByte := W_asByte.1
theorem R_asByte_eq : @Go.Proofs.YtcjidlgmbjebjaaDoor.Ev.asByte = R_asByte := W_asByte.2.symm

def W_strOfCells : { f // f = @Go.Proofs.YtcjidlgmbjebjaaDoor.Ev.strOfCells } := ⟨_, by delta Go.Proofs.YtcjidlgmbjebjaaDoor.Ev.strOfCells Go.Proofs.YtcjidlgmbjebjaaDoor.Ev.Cells.casesOn Go.Proofs.YtcjidlgmbjebjaaDoor.Ev.strOfCells.match_1 Option.bind Option.bind.match_1 Option.casesOn; simp only [R_cutB_eq]; rfl⟩
def R_strOfCells := W_strOfCells.1
theorem R_strOfCells_eq : @Go.Proofs.YtcjidlgmbjebjaaDoor.Ev.strOfCells = R_strOfCells := W_strOfCells.2.symm

def W_unsafeTo : { f // f = @Go.Proofs.YtcjidlgmbjebjaaDoor.Ev.unsafeTo } := ⟨_, by delta Go.Proofs.YtcjidlgmbjebjaaDoor.Ev.unsafeTo Go.Proofs.YtcjidlgmbjebjaaDoor.Ev.wrapF.match_2 Go.Proofs.YtcjidlgmbjebjaaDoor.Ev.convertV.match_1 Go.Proofs.YtcjidlgmbjebjaaDoor.Ev.convertV._sparseCasesOn_1 Bool.casesOn Go.Proofs.YtcjidlgmbjebjaaDoor.Ev.eqV.match_4 Go.Proofs.YtcjidlgmbjebjaaDoor.Ev.eqV._sparseCasesOn_4 Option.bind Option.bind.match_1 Option.casesOn; simp only [R_Cells_size_eq]; rfl⟩
def R_unsafeTo := W_unsafeTo.1
theorem R_unsafeTo_eq : @Go.Proofs.YtcjidlgmbjebjaaDoor.Ev.unsafeTo = R_unsafeTo := W_unsafeTo.2.symm

def W_liesV : { f // f = @Go.Proofs.YtcjidlgmbjebjaaDoor.Ev.liesV } := ⟨_, by delta Go.Proofs.YtcjidlgmbjebjaaDoor.Ev.liesV Go.Proofs.YtcjidlgmbjebjaaDoor.Ev.liesV.match_1 Option.casesOn Go.Proofs.YtcjidlgmbjebjaaDoor.Ev.liesV._sparseCasesOn_2 Go.Proofs.YtcjidlgmbjebjaaDoor.Ev.nilCheckM._sparseCasesOn_1 Go.Proofs.YtcjidlgmbjebjaaDoor.Ev.convertV._sparseCasesOn_1 Go.Proofs.YtcjidlgmbjebjaaDoor.Ev.liesV.match_2; simp only [R_Cells_size_eq]; rfl⟩
def R_liesV := W_liesV.1
theorem R_liesV_eq : @Go.Proofs.YtcjidlgmbjebjaaDoor.Ev.liesV = R_liesV := W_liesV.2.symm

def W_unsafeOf : { f // f = @Go.Proofs.YtcjidlgmbjebjaaDoor.Ev.unsafeOf } := ⟨_, by delta Go.Proofs.YtcjidlgmbjebjaaDoor.Ev.unsafeOf Go.Proofs.YtcjidlgmbjebjaaDoor.Ev.wrapF.match_2 Bool.casesOn Go.Proofs.YtcjidlgmbjebjaaDoor.Ev.eqV.match_4 Go.Proofs.YtcjidlgmbjebjaaDoor.Ev.eqV._sparseCasesOn_4; simp only [R_liesV_eq]; rfl⟩
def R_unsafeOf := W_unsafeOf.1
theorem R_unsafeOf_eq : @Go.Proofs.YtcjidlgmbjebjaaDoor.Ev.unsafeOf = R_unsafeOf := W_unsafeOf.2.symm

def W_convertR : { f // f = @Go.Proofs.YtcjidlgmbjebjaaDoor.Ev.convertR } := ⟨_, by delta Go.Proofs.YtcjidlgmbjebjaaDoor.Ev.convertR Go.Proofs.YtcjidlgmbjebjaaDoor.Ev.convertR.match_3 Go.Proofs.YtcjidlgmbjebjaaDoor.Ev.constV.match_5 Go.Proofs.YtcjidlgmbjebjaaDoor.Ev.convertR.match_8 Go.Proofs.YtcjidlgmbjebjaaDoor.Ev.convertR._sparseCasesOn_1 Go.Proofs.YtcjidlgmbjebjaaDoor.Ev.convertR.match_2 Go.Proofs.YtcjidlgmbjebjaaDoor.Ev.convertR.match_4 Go.Proofs.YtcjidlgmbjebjaaDoor.Ev.convertR._sparseCasesOn_3 Go.Proofs.YtcjidlgmbjebjaaDoor.Ev.convertR._sparseCasesOn_7 Bool.casesOn Go.Proofs.YtcjidlgmbjebjaaDoor.Ev.convertR._sparseCasesOn_4 Go.Proofs.YtcjidlgmbjebjaaDoor.Ev.convertR.match_5 Go.Proofs.YtcjidlgmbjebjaaDoor.Ev.convertR.match_6 Go.Proofs.YtcjidlgmbjebjaaDoor.Ev.convertR.match_9 Go.Proofs.YtcjidlgmbjebjaaDoor.Ev.convertR._sparseCasesOn_8 Go.Proofs.YtcjidlgmbjebjaaDoor.Ev.convertR._sparseCasesOn_9 Go.Proofs.YtcjidlgmbjebjaaDoor.Ev.convertR.match_1 Go.Proofs.YtcjidlgmbjebjaaDoor.Ev.convertR.match_7 Go.Proofs.YtcjidlgmbjebjaaDoor.Ev.convertR._sparseCasesOn_2 Go.Proofs.YtcjidlgmbjebjaaDoor.Ev.convertR._sparseCasesOn_6 Option.bind Option.bind.match_1 Option.casesOn; simp only [R_wrapF_eq, R_isU8_eq, R_Cells_size_eq, R_strOfCells_eq, R_Cells_extract_eq, R_unsafeTo_eq, R_unsafeOf_eq]; rfl⟩
def R_convertR := W_convertR.1
theorem R_convertR_eq : @Go.Proofs.YtcjidlgmbjebjaaDoor.Ev.convertR = R_convertR := W_convertR.2.symm

def W_makeIfaceV : { f // f = @Go.Proofs.YtcjidlgmbjebjaaDoor.Ev.makeIfaceV } := ⟨_, by delta Go.Proofs.YtcjidlgmbjebjaaDoor.Ev.makeIfaceV Go.Proofs.YtcjidlgmbjebjaaDoor.Ev.makeIfaceV.match_1 Go.Proofs.YtcjidlgmbjebjaaDoor.Ev.makeIfaceV._sparseCasesOn_1 Option.bind Option.bind.match_1 Option.casesOn; rfl⟩
def R_makeIfaceV := W_makeIfaceV.1
theorem R_makeIfaceV_eq : @Go.Proofs.YtcjidlgmbjebjaaDoor.Ev.makeIfaceV = R_makeIfaceV := W_makeIfaceV.2.symm

def R_valO (E : Env) (tm : T V) (x : Operand) : Option V := R_valQ x E tm
theorem R_valO_eq : @valO = R_valO := by funext E tm x; rw [← valQ_eq, R_valQ_eq]; rfl

def W_optO : { f // f = @Go.Proofs.YtcjidlgmbjebjaaDoor.Ev.optO } := ⟨_, by delta Go.Proofs.YtcjidlgmbjebjaaDoor.Ev.optO Option.casesOn Go.Proofs.YtcjidlgmbjebjaaDoor.Ev.optO.match_1 Option.bind Option.bind.match_1; simp only [R_valO_eq]; rfl⟩
def R_optO := W_optO.1
theorem R_optO_eq : @Go.Proofs.YtcjidlgmbjebjaaDoor.Ev.optO = R_optO := W_optO.2.symm

def W_inE : { f // f = @Go.Proofs.YtcjidlgmbjebjaaDoor.Ev.inE } := ⟨_, by delta Go.Proofs.YtcjidlgmbjebjaaDoor.Ev.inE Go.Proofs.YtcjidlgmbjebjaaDoor.Ev.asByte.match_1 Int.casesOn Go.Proofs.YtcjidlgmbjebjaaDoor.Ev.allOne.match_1 Bool.casesOn; rfl⟩
def R_inE := W_inE.1
theorem R_inE_eq : @Go.Proofs.YtcjidlgmbjebjaaDoor.Ev.inE = R_inE := W_inE.2.symm

def W_bnd : { f // f = @Go.Proofs.YtcjidlgmbjebjaaDoor.Ev.bnd } := ⟨_, by delta Go.Proofs.YtcjidlgmbjebjaaDoor.Ev.bnd Option.casesOn Go.Proofs.YtcjidlgmbjebjaaDoor.Ev.bnd.match_1 Go.Proofs.YtcjidlgmbjebjaaDoor.Ev.asByte.match_3 Go.Proofs.YtcjidlgmbjebjaaDoor.Ev.asByte._sparseCasesOn_3; simp only [R_inE_eq]; rfl⟩
def R_bnd := W_bnd.1
theorem R_bnd_eq : @Go.Proofs.YtcjidlgmbjebjaaDoor.Ev.bnd = R_bnd := W_bnd.2.symm

def W_sliceV : { f // f = @Go.Proofs.YtcjidlgmbjebjaaDoor.Ev.sliceV } := ⟨_, by delta Go.Proofs.YtcjidlgmbjebjaaDoor.Ev.sliceV Go.Proofs.YtcjidlgmbjebjaaDoor.Ev.loadVar.match_1 Go.Proofs.YtcjidlgmbjebjaaDoor.Ev.loadVar._sparseCasesOn_1 Go.Proofs.YtcjidlgmbjebjaaDoor.Ev.sliceV._sparseCasesOn_1 Option.casesOn Go.Proofs.YtcjidlgmbjebjaaDoor.Ev.sliceV.match_2 Go.Proofs.YtcjidlgmbjebjaaDoor.Ev.sliceV.match_5 Go.Proofs.YtcjidlgmbjebjaaDoor.Ev.fieldAddrV.match_1 Go.Proofs.YtcjidlgmbjebjaaDoor.Ev.sliceV.match_3 Go.Proofs.YtcjidlgmbjebjaaDoor.Ev.allOne.match_1 Bool.casesOn Go.Proofs.YtcjidlgmbjebjaaDoor.Ev.sliceV.match_4 Go.Proofs.YtcjidlgmbjebjaaDoor.Ev.sliceV._sparseCasesOn_4 Go.Proofs.YtcjidlgmbjebjaaDoor.Ev.sliceV._sparseCasesOn_5 Go.Proofs.YtcjidlgmbjebjaaDoor.Ev.fieldAddrV._sparseCasesOn_1 Go.Proofs.YtcjidlgmbjebjaaDoor.Ev.bnd.match_1 Go.Proofs.YtcjidlgmbjebjaaDoor.Ev.sliceV.match_1 Option.bind Option.bind.match_1; simp only [R_bnd_eq, R_cutB_eq]; rfl⟩
def R_sliceV := W_sliceV.1
theorem R_sliceV_eq : @Go.Proofs.YtcjidlgmbjebjaaDoor.Ev.sliceV = R_sliceV := W_sliceV.2.symm

def W_fieldAddrV : { f // f = @Go.Proofs.YtcjidlgmbjebjaaDoor.Ev.fieldAddrV } := ⟨_, by delta Go.Proofs.YtcjidlgmbjebjaaDoor.Ev.fieldAddrV Go.Proofs.YtcjidlgmbjebjaaDoor.Ev.fieldV._sparseCasesOn_1 Go.Proofs.YtcjidlgmbjebjaaDoor.Ev.fieldAddrV.match_1 Go.Proofs.YtcjidlgmbjebjaaDoor.Ev.allOne.match_1 Bool.casesOn Go.Proofs.YtcjidlgmbjebjaaDoor.Ev.fieldV.match_1 Go.Proofs.YtcjidlgmbjebjaaDoor.Ev.fieldAddrV._sparseCasesOn_1 Option.bind Option.bind.match_1 Option.casesOn; simp only [R_listGet_eq]; rfl⟩
def R_fieldAddrV := W_fieldAddrV.1
theorem R_fieldAddrV_eq : @Go.Proofs.YtcjidlgmbjebjaaDoor.Ev.fieldAddrV = R_fieldAddrV := W_fieldAddrV.2.symm

def W_fieldV : { f // f = @Go.Proofs.YtcjidlgmbjebjaaDoor.Ev.fieldV } := ⟨_, by delta Go.Proofs.YtcjidlgmbjebjaaDoor.Ev.fieldV Go.Proofs.YtcjidlgmbjebjaaDoor.Ev.fieldV._sparseCasesOn_1 Go.Proofs.YtcjidlgmbjebjaaDoor.Ev.fieldV.match_2 Go.Proofs.YtcjidlgmbjebjaaDoor.Ev.fieldV.match_1 Go.Proofs.YtcjidlgmbjebjaaDoor.Ev.fieldV._sparseCasesOn_2 Option.bind Option.bind.match_1 Option.casesOn; simp only [R_listGet_eq, R_partV_eq]; rfl⟩
def R_fieldV := W_fieldV.1
theorem R_fieldV_eq : @Go.Proofs.YtcjidlgmbjebjaaDoor.Ev.fieldV = R_fieldV := W_fieldV.2.symm

def W_inB : { f // f = @Go.Proofs.YtcjidlgmbjebjaaDoor.Ev.inB } := ⟨_, by delta Go.Proofs.YtcjidlgmbjebjaaDoor.Ev.inB Go.Proofs.YtcjidlgmbjebjaaDoor.Ev.asByte.match_1 Int.casesOn Go.Proofs.YtcjidlgmbjebjaaDoor.Ev.allOne.match_1 Bool.casesOn; rfl⟩
def R_inB := W_inB.1
theorem R_inB_eq : @Go.Proofs.YtcjidlgmbjebjaaDoor.Ev.inB = R_inB := W_inB.2.symm

def W_indexAddrV : { f // f = @Go.Proofs.YtcjidlgmbjebjaaDoor.Ev.indexAddrV } := ⟨_, by delta Go.Proofs.YtcjidlgmbjebjaaDoor.Ev.indexAddrV Go.Proofs.YtcjidlgmbjebjaaDoor.Ev.indexAddrV._sparseCasesOn_2 Go.Proofs.YtcjidlgmbjebjaaDoor.Ev.fieldAddrV.match_1 Go.Proofs.YtcjidlgmbjebjaaDoor.Ev.indexAddrV.match_2 Go.Proofs.YtcjidlgmbjebjaaDoor.Ev.indexAddrV.match_1 Go.Proofs.YtcjidlgmbjebjaaDoor.Ev.fieldAddrV._sparseCasesOn_1 Go.Proofs.YtcjidlgmbjebjaaDoor.Ev.indexAddrV._sparseCasesOn_1 Go.Proofs.YtcjidlgmbjebjaaDoor.Ev.asByte.match_3 Go.Proofs.YtcjidlgmbjebjaaDoor.Ev.asByte._sparseCasesOn_3 Option.bind Option.bind.match_1 Option.casesOn; simp only [R_inB_eq]; rfl⟩
def R_indexAddrV := W_indexAddrV.1
theorem R_indexAddrV_eq : @Go.Proofs.YtcjidlgmbjebjaaDoor.Ev.indexAddrV = R_indexAddrV := W_indexAddrV.2.symm

def W_indexV : { f // f = @Go.Proofs.YtcjidlgmbjebjaaDoor.Ev.indexV } := ⟨_, by delta Go.Proofs.YtcjidlgmbjebjaaDoor.Ev.indexV Go.Proofs.YtcjidlgmbjebjaaDoor.Ev.indexV.match_3 Go.Proofs.YtcjidlgmbjebjaaDoor.Ev.indexV.match_2 Go.Proofs.YtcjidlgmbjebjaaDoor.Ev.indexV._sparseCasesOn_1 Go.Proofs.YtcjidlgmbjebjaaDoor.Ev.indexV.match_1 Go.Proofs.YtcjidlgmbjebjaaDoor.Ev.indexV._sparseCasesOn_3 Go.Proofs.YtcjidlgmbjebjaaDoor.Ev.indexV._sparseCasesOn_2 Go.Proofs.YtcjidlgmbjebjaaDoor.Ev.asByte.match_3 Go.Proofs.YtcjidlgmbjebjaaDoor.Ev.asByte._sparseCasesOn_3 Option.bind Option.bind.match_1 Option.casesOn; simp only [R_inB_eq, R_bv_eq, R_byteAt_eq, R_partV_eq]; rfl⟩
def R_indexV := W_indexV.1
theorem R_indexV_eq : @Go.Proofs.YtcjidlgmbjebjaaDoor.Ev.indexV = R_indexV := W_indexV.2.symm

def W_failsV : { f // f = @Go.Proofs.YtcjidlgmbjebjaaDoor.Ev.failsV } := ⟨_, by delta Go.Proofs.YtcjidlgmbjebjaaDoor.Ev.failsV Go.Proofs.YtcjidlgmbjebjaaDoor.Ev.wrapF.match_2 Bool.casesOn Option.bind Option.bind.match_1 Option.casesOn; rfl⟩
def R_failsV := W_failsV.1
theorem R_failsV_eq : @Go.Proofs.YtcjidlgmbjebjaaDoor.Ev.failsV = R_failsV := W_failsV.2.symm

def W_holdsV : { f // f = @Go.Proofs.YtcjidlgmbjebjaaDoor.Ev.holdsV } := ⟨_, by delta Go.Proofs.YtcjidlgmbjebjaaDoor.Ev.holdsV Go.Proofs.YtcjidlgmbjebjaaDoor.Ev.wrapF.match_2 Bool.casesOn; rfl⟩
def R_holdsV := W_holdsV.1
theorem R_holdsV_eq : @Go.Proofs.YtcjidlgmbjebjaaDoor.Ev.holdsV = R_holdsV := W_holdsV.2.symm

def W_typeAssertV : { f // f = @Go.Proofs.YtcjidlgmbjebjaaDoor.Ev.typeAssertV } := ⟨_, by delta Go.Proofs.YtcjidlgmbjebjaaDoor.Ev.typeAssertV Go.Proofs.YtcjidlgmbjebjaaDoor.Ev.wrapF.match_2 Bool.casesOn Go.Proofs.YtcjidlgmbjebjaaDoor.Ev.eqV._sparseCasesOn_5 Go.Proofs.YtcjidlgmbjebjaaDoor.Ev.eqV.match_5 Go.Proofs.YtcjidlgmbjebjaaDoor.Ev.typeAssertV._sparseCasesOn_1 Go.Proofs.YtcjidlgmbjebjaaDoor.Ev.typeAssertV.match_1 Option.bind Option.bind.match_1 Option.casesOn; simp only [R_failsV_eq, R_holdsV_eq]; rfl⟩
def R_typeAssertV := W_typeAssertV.1
theorem R_typeAssertV_eq : @Go.Proofs.YtcjidlgmbjebjaaDoor.Ev.typeAssertV = R_typeAssertV := W_typeAssertV.2.symm

def W_extractV : { f // f = @Go.Proofs.YtcjidlgmbjebjaaDoor.Ev.extractV } := ⟨_, by delta Go.Proofs.YtcjidlgmbjebjaaDoor.Ev.extractV Go.Proofs.YtcjidlgmbjebjaaDoor.Ev.extractV.match_1 Go.Proofs.YtcjidlgmbjebjaaDoor.Ev.extractV._sparseCasesOn_1; simp only [R_listGet_eq]; rfl⟩
def R_extractV := W_extractV.1
theorem R_extractV_eq : @Go.Proofs.YtcjidlgmbjebjaaDoor.Ev.extractV = R_extractV := W_extractV.2.symm

def W_entryV : { f // f = @Go.Proofs.YtcjidlgmbjebjaaDoor.Ev.entryV } := ⟨_, by delta Go.Proofs.YtcjidlgmbjebjaaDoor.Ev.entryV Go.Proofs.YtcjidlgmbjebjaaDoor.Ev.lenV.match_3 Go.Proofs.YtcjidlgmbjebjaaDoor.Ev.nextMapV.match_1 Go.Proofs.YtcjidlgmbjebjaaDoor.Ev.nextStrV._sparseCasesOn_3 Option.casesOn Go.Proofs.YtcjidlgmbjebjaaDoor.Ev.wrapF.match_2 Go.Proofs.YtcjidlgmbjebjaaDoor.Ev.nextMapV._sparseCasesOn_2 Bool.casesOn Go.Proofs.YtcjidlgmbjebjaaDoor.Ev.nextStrV.match_3 Go.Proofs.YtcjidlgmbjebjaaDoor.Ev.nextMapV.match_2 Go.Proofs.YtcjidlgmbjebjaaDoor.Ev.lenV._sparseCasesOn_3 Option.bind Option.bind.match_1; simp only [R_listGet_eq]; rfl⟩
def R_entryV := W_entryV.1
theorem R_entryV_eq : @Go.Proofs.YtcjidlgmbjebjaaDoor.Ev.entryV = R_entryV := W_entryV.2.symm

def W_plainK : { f // f = @Go.Proofs.YtcjidlgmbjebjaaDoor.Ev.plainK } := ⟨_, by delta Go.Proofs.YtcjidlgmbjebjaaDoor.Ev.plainK Go.Proofs.YtcjidlgmbjebjaaDoor.Ev.plainK.match_1 Go.Proofs.YtcjidlgmbjebjaaDoor.Ev.plainK._sparseCasesOn_1; rfl⟩
def R_plainK := W_plainK.1
theorem R_plainK_eq : @Go.Proofs.YtcjidlgmbjebjaaDoor.Ev.plainK = R_plainK := W_plainK.2.symm

def W_mapOf : { f // f = @Go.Proofs.YtcjidlgmbjebjaaDoor.Ev.mapOf } := ⟨_, by delta Go.Proofs.YtcjidlgmbjebjaaDoor.Ev.mapOf Go.Proofs.YtcjidlgmbjebjaaDoor.Ev.eqV.match_9 Go.Proofs.YtcjidlgmbjebjaaDoor.Ev.lenV.match_3 Go.Proofs.YtcjidlgmbjebjaaDoor.Ev.wrapF.match_1 Go.Proofs.YtcjidlgmbjebjaaDoor.Ev.eqV._sparseCasesOn_9 Bool.casesOn Go.Proofs.YtcjidlgmbjebjaaDoor.Ev.mapOf._sparseCasesOn_1 Go.Proofs.YtcjidlgmbjebjaaDoor.Ev.mapOf.match_1 Go.Proofs.YtcjidlgmbjebjaaDoor.Ev.lenV._sparseCasesOn_3 Option.bind Option.bind.match_1 Option.casesOn; simp only [R_plainK_eq]; rfl⟩
def R_mapOf := W_mapOf.1
theorem R_mapOf_eq : @Go.Proofs.YtcjidlgmbjebjaaDoor.Ev.mapOf = R_mapOf := W_mapOf.2.symm

def W_sameV : { f // f = @Go.Proofs.YtcjidlgmbjebjaaDoor.Ev.sameV } := ⟨_, by delta Go.Proofs.YtcjidlgmbjebjaaDoor.Ev.sameV Go.Proofs.YtcjidlgmbjebjaaDoor.Ev.eqV.match_3 Go.Proofs.YtcjidlgmbjebjaaDoor.Ev.eqV._sparseCasesOn_3 Go.Proofs.YtcjidlgmbjebjaaDoor.Ev.wrapF.match_2 Go.Proofs.YtcjidlgmbjebjaaDoor.Ev.eqV.match_1 Go.Proofs.YtcjidlgmbjebjaaDoor.Ev.plainK.match_1 Go.Proofs.YtcjidlgmbjebjaaDoor.Ev.plainK._sparseCasesOn_1 Bool.casesOn Go.Proofs.YtcjidlgmbjebjaaDoor.Ev.eqV.match_2 Go.Proofs.YtcjidlgmbjebjaaDoor.Ev.eqV._sparseCasesOn_2 Go.Proofs.YtcjidlgmbjebjaaDoor.Ev.eqV._sparseCasesOn_1; simp only [R_eqF_eq]; rfl⟩
def R_sameV := W_sameV.1
theorem R_sameV_eq : @Go.Proofs.YtcjidlgmbjebjaaDoor.Ev.sameV = R_sameV := W_sameV.2.symm

def W_okV : { f // f = @Go.Proofs.YtcjidlgmbjebjaaDoor.Ev.okV } := ⟨_, by delta Go.Proofs.YtcjidlgmbjebjaaDoor.Ev.okV Go.Proofs.YtcjidlgmbjebjaaDoor.Ev.wrapF.match_2 Bool.casesOn; rfl⟩
def R_okV := W_okV.1
theorem R_okV_eq : @Go.Proofs.YtcjidlgmbjebjaaDoor.Ev.okV = R_okV := W_okV.2.symm

def W_lookupV : { f // f = @Go.Proofs.YtcjidlgmbjebjaaDoor.Ev.lookupV } := ⟨_, by delta Go.Proofs.YtcjidlgmbjebjaaDoor.Ev.lookupV Option.casesOn Go.Proofs.YtcjidlgmbjebjaaDoor.Ev.lookupV.match_1 Option.bind Option.bind.match_1; simp only [R_mapOf_eq, R_okV_eq]; rfl⟩
def R_lookupV := W_lookupV.1
theorem R_lookupV_eq : @Go.Proofs.YtcjidlgmbjebjaaDoor.Ev.lookupV = R_lookupV := W_lookupV.2.symm

def W_arrayAtV : { f // f = @Go.Proofs.YtcjidlgmbjebjaaDoor.Ev.arrayAtV } := ⟨_, by delta Go.Proofs.YtcjidlgmbjebjaaDoor.Ev.arrayAtV Go.Proofs.YtcjidlgmbjebjaaDoor.Ev.constV.match_5 Go.Proofs.YtcjidlgmbjebjaaDoor.Ev.arrayAtV.match_1 Go.Proofs.YtcjidlgmbjebjaaDoor.Ev.arrayAtV._sparseCasesOn_2 Bool.casesOn Go.Proofs.YtcjidlgmbjebjaaDoor.Ev.arrayAtV._sparseCasesOn_1 Go.Proofs.YtcjidlgmbjebjaaDoor.Ev.arrayAtV.match_2 Option.bind Option.bind.match_1 Option.casesOn; rfl⟩
def R_arrayAtV := W_arrayAtV.1
theorem R_arrayAtV_eq : @Go.Proofs.YtcjidlgmbjebjaaDoor.Ev.arrayAtV = R_arrayAtV := W_arrayAtV.2.symm

def W_fnPlain : { f // f = @Go.Proofs.YtcjidlgmbjebjaaDoor.Ev.fnPlain } := ⟨_, by delta Go.Proofs.YtcjidlgmbjebjaaDoor.Ev.fnPlain Go.Proofs.YtcjidlgmbjebjaaDoor.Ev.fnPlain.match_1 Go.Proofs.YtcjidlgmbjebjaaDoor.Ev.fnPlain._sparseCasesOn_1; rfl⟩
def R_fnPlain := W_fnPlain.1
theorem R_fnPlain_eq : @Go.Proofs.YtcjidlgmbjebjaaDoor.Ev.fnPlain = R_fnPlain := W_fnPlain.2.symm

def R_valsO (E : Env) (tm : T V) (l : List Operand) : Option (List V) :=
  List.rec (motive := fun _ => Option (List V)) (some []) (fun x _ ih => Option.rec (motive := fun _ => Option (List V)) none (fun v => Option.rec (motive := fun _ => Option (List V)) none (fun l => some (v :: l)) ih) (R_valQ x E tm)) l
theorem R_valsO_eq : @valsO = R_valsO := by
  funext E tm l
  induction l with
  | nil => rfl
  | cons x r ih =>
    rw [valsO, ih, ← valQ_eq, R_valQ_eq]
    kernel_rfl

def W_goI : { f // f = @Go.Proofs.YtcjidlgmbjebjaaDoor.Ev.goI } := ⟨_, by delta Go.Proofs.YtcjidlgmbjebjaaDoor.Ev.goI; rfl⟩
def R_goI := W_goI.1
theorem R_goI_eq : @Go.Proofs.YtcjidlgmbjebjaaDoor.Ev.goI = R_goI := W_goI.2.symm

def W_lenV : { f // f = @Go.Proofs.YtcjidlgmbjebjaaDoor.Ev.lenV } := ⟨_, by delta Go.Proofs.YtcjidlgmbjebjaaDoor.Ev.lenV Go.Proofs.YtcjidlgmbjebjaaDoor.Ev.eqV.match_9 Go.Proofs.YtcjidlgmbjebjaaDoor.Ev.eqV.match_3 Go.Proofs.YtcjidlgmbjebjaaDoor.Ev.lenV.match_3 Go.Proofs.YtcjidlgmbjebjaaDoor.Ev.lenV.match_2 Go.Proofs.YtcjidlgmbjebjaaDoor.Ev.eqV._sparseCasesOn_3 Go.Proofs.YtcjidlgmbjebjaaDoor.Ev.eqV._sparseCasesOn_9 Go.Proofs.YtcjidlgmbjebjaaDoor.Ev.lenV.match_1 Go.Proofs.YtcjidlgmbjebjaaDoor.Ev.lenV._sparseCasesOn_2 Go.Proofs.YtcjidlgmbjebjaaDoor.Ev.lenV._sparseCasesOn_4 Go.Proofs.YtcjidlgmbjebjaaDoor.Ev.lenV._sparseCasesOn_1 Go.Proofs.YtcjidlgmbjebjaaDoor.Ev.lenV.match_4 Go.Proofs.YtcjidlgmbjebjaaDoor.Ev.lenV._sparseCasesOn_3 Option.bind Option.bind.match_1 Option.casesOn; simp only [R_goI_eq]; rfl⟩
def R_lenV := W_lenV.1
theorem R_lenV_eq : @Go.Proofs.YtcjidlgmbjebjaaDoor.Ev.lenV = R_lenV := W_lenV.2.symm

def W_capV : { f // f = @Go.Proofs.YtcjidlgmbjebjaaDoor.Ev.capV } := ⟨_, by delta Go.Proofs.YtcjidlgmbjebjaaDoor.Ev.capV Go.Proofs.YtcjidlgmbjebjaaDoor.Ev.capV._sparseCasesOn_1 Go.Proofs.YtcjidlgmbjebjaaDoor.Ev.convertV.match_2 Go.Proofs.YtcjidlgmbjebjaaDoor.Ev.wrapF.match_2 Go.Proofs.YtcjidlgmbjebjaaDoor.Ev.wrapF.match_1 Go.Proofs.YtcjidlgmbjebjaaDoor.Ev.convertV.match_1 Go.Proofs.YtcjidlgmbjebjaaDoor.Ev.convertV._sparseCasesOn_1 Bool.casesOn Go.Proofs.YtcjidlgmbjebjaaDoor.Ev.convertV._sparseCasesOn_2 Go.Proofs.YtcjidlgmbjebjaaDoor.Ev.capV.match_1 Option.bind Option.bind.match_1 Option.casesOn; simp only [R_goI_eq, R_Cells_size_eq]; rfl⟩
def R_capV := W_capV.1
theorem R_capV_eq : @Go.Proofs.YtcjidlgmbjebjaaDoor.Ev.capV = R_capV := W_capV.2.symm

def W_foldV : { f // f = @Go.Proofs.YtcjidlgmbjebjaaDoor.Ev.foldV } := ⟨_, by delta Go.Proofs.YtcjidlgmbjebjaaDoor.Ev.foldV; rfl⟩
def R_foldV := W_foldV.1
theorem R_foldV_eq : @Go.Proofs.YtcjidlgmbjebjaaDoor.Ev.foldV = R_foldV := W_foldV.2.symm

def W_min2V : { f // f = @Go.Proofs.YtcjidlgmbjebjaaDoor.Ev.min2V } := ⟨_, by delta Go.Proofs.YtcjidlgmbjebjaaDoor.Ev.min2V Go.Proofs.YtcjidlgmbjebjaaDoor.Ev.min2V.match_1 Go.Proofs.YtcjidlgmbjebjaaDoor.Ev.wrapF.match_2 Bool.casesOn Go.Proofs.YtcjidlgmbjebjaaDoor.Ev.eqV._sparseCasesOn_2; simp only [R_ltF_eq]; rfl⟩
def R_min2V := W_min2V.1
theorem R_min2V_eq : @Go.Proofs.YtcjidlgmbjebjaaDoor.Ev.min2V = R_min2V := W_min2V.2.symm

def W_minV : { f // f = @Go.Proofs.YtcjidlgmbjebjaaDoor.Ev.minV } := ⟨_, by delta Go.Proofs.YtcjidlgmbjebjaaDoor.Ev.minV Go.Proofs.YtcjidlgmbjebjaaDoor.Ev.minV.match_1 List.casesOn; simp only [R_foldV_eq, R_min2V_eq]; rfl⟩
def R_minV := W_minV.1
theorem R_minV_eq : @Go.Proofs.YtcjidlgmbjebjaaDoor.Ev.minV = R_minV := W_minV.2.symm

def W_max2V : { f // f = @Go.Proofs.YtcjidlgmbjebjaaDoor.Ev.max2V } := ⟨_, by delta Go.Proofs.YtcjidlgmbjebjaaDoor.Ev.max2V Go.Proofs.YtcjidlgmbjebjaaDoor.Ev.min2V.match_1 Go.Proofs.YtcjidlgmbjebjaaDoor.Ev.wrapF.match_2 Bool.casesOn Go.Proofs.YtcjidlgmbjebjaaDoor.Ev.eqV._sparseCasesOn_2; simp only [R_ltF_eq]; rfl⟩
def R_max2V := W_max2V.1
theorem R_max2V_eq : @Go.Proofs.YtcjidlgmbjebjaaDoor.Ev.max2V = R_max2V := W_max2V.2.symm

def W_maxV : { f // f = @Go.Proofs.YtcjidlgmbjebjaaDoor.Ev.maxV } := ⟨_, by delta Go.Proofs.YtcjidlgmbjebjaaDoor.Ev.maxV Go.Proofs.YtcjidlgmbjebjaaDoor.Ev.minV.match_1 List.casesOn; simp only [R_foldV_eq, R_max2V_eq]; rfl⟩
def R_maxV := W_maxV.1
theorem R_maxV_eq : @Go.Proofs.YtcjidlgmbjebjaaDoor.Ev.maxV = R_maxV := W_maxV.2.symm

def W_sliceDataV : { f // f = @Go.Proofs.YtcjidlgmbjebjaaDoor.Ev.sliceDataV } := ⟨_, by delta Go.Proofs.YtcjidlgmbjebjaaDoor.Ev.sliceDataV Go.Proofs.YtcjidlgmbjebjaaDoor.Ev.convertV.match_2 Go.Proofs.YtcjidlgmbjebjaaDoor.Ev.wrapF.match_2 Bool.casesOn Go.Proofs.YtcjidlgmbjebjaaDoor.Ev.convertV._sparseCasesOn_2; rfl⟩
def R_sliceDataV := W_sliceDataV.1
theorem R_sliceDataV_eq : @Go.Proofs.YtcjidlgmbjebjaaDoor.Ev.sliceDataV = R_sliceDataV := W_sliceDataV.2.symm

def W_readB : { f // f = @Go.Proofs.YtcjidlgmbjebjaaDoor.Ev.readB } := ⟨_, by delta Go.Proofs.YtcjidlgmbjebjaaDoor.Ev.readB Go.Proofs.YtcjidlgmbjebjaaDoor.Ev.readB._sparseCasesOn_3 Go.Proofs.YtcjidlgmbjebjaaDoor.Ev.readB._sparseCasesOn_1 Go.Proofs.YtcjidlgmbjebjaaDoor.Ev.readB.match_1 Go.Proofs.YtcjidlgmbjebjaaDoor.Ev.readB.match_2 Go.Proofs.YtcjidlgmbjebjaaDoor.Ev.readB._sparseCasesOn_2 Go.Proofs.YtcjidlgmbjebjaaDoor.Ev.readB.match_3; simp only [R_lenV_eq, R_capV_eq, R_minV_eq, R_maxV_eq, R_sliceDataV_eq]; rfl⟩
def R_readB := W_readB.1
theorem R_readB_eq : @Go.Proofs.YtcjidlgmbjebjaaDoor.Ev.readB = R_readB := W_readB.2.symm

def W_readQ : { f // f = @Go.Proofs.YtcjidlgmbjebjaaDoor.Ev.readQ } := ⟨_, by delta Go.Proofs.YtcjidlgmbjebjaaDoor.Ev.readQ Go.Proofs.YtcjidlgmbjebjaaDoor.Ev.readOp Go.Proofs.YtcjidlgmbjebjaaDoor.Ev.readQ.match_3 Go.Proofs.YtcjidlgmbjebjaaDoor.Ev.readQ._sparseCasesOn_3 Go.Proofs.YtcjidlgmbjebjaaDoor.Ev.valQ.match_1 Go.Proofs.YtcjidlgmbjebjaaDoor.Ev.readQ._sparseCasesOn_2 Bool.casesOn Go.Proofs.YtcjidlgmbjebjaaDoor.Ev.readQ._sparseCasesOn_1 Go.Proofs.YtcjidlgmbjebjaaDoor.Ev.readQ.match_2 Go.Proofs.YtcjidlgmbjebjaaDoor.Ev.readQ.match_1 Go.Proofs.YtcjidlgmbjebjaaDoor.Ev.constV.match_5 Go.Proofs.YtcjidlgmbjebjaaDoor.Ev.readOp._sparseCasesOn_4 Go.Proofs.YtcjidlgmbjebjaaDoor.Ev.readOp._sparseCasesOn_2 Go.Proofs.YtcjidlgmbjebjaaDoor.Ev.readOp._sparseCasesOn_3 Go.Proofs.YtcjidlgmbjebjaaDoor.Ev.readOp.match_2 Go.Proofs.YtcjidlgmbjebjaaDoor.Ev.readOp.match_3 Go.Proofs.YtcjidlgmbjebjaaDoor.Ev.readOp._sparseCasesOn_1 Go.Proofs.YtcjidlgmbjebjaaDoor.Ev.readOp.match_1 Go.Proofs.YtcjidlgmbjebjaaDoor.Ev.readOp.match_4 Option.bind Option.bind.match_1 Option.casesOn; simp only [R_valQ_eq, R_partsO_eq, R_buildV_eq, R_loadVar_eq, R_nilCheckV_eq, R_binOpV_eq, R_isConstO_eq, R_unOpV_eq, R_convertR_eq, R_makeIfaceV_eq, R_optO_eq, R_sliceV_eq, R_fieldAddrV_eq, R_fieldV_eq, R_indexAddrV_eq, R_indexV_eq, R_typeAssertV_eq, R_extractV_eq, R_entryV_eq, R_lookupV_eq, R_valO_eq, R_arrayAtV_eq, R_fnPlain_eq, R_valsO_eq, R_readB_eq]; rfl⟩
def R_readQ := W_readQ.1
theorem R_readQ_eq : @Go.Proofs.YtcjidlgmbjebjaaDoor.Ev.readQ = R_readQ := W_readQ.2.symm

def W_putT : { f // f = @Go.Proofs.YtcjidlgmbjebjaaDoor.Ev.putT } := ⟨_, by delta Go.Proofs.YtcjidlgmbjebjaaDoor.Ev.putT Go.Proofs.YtcjidlgmbjebjaaDoor.Ev.constV.match_5 Option.casesOn Go.Proofs.YtcjidlgmbjebjaaDoor.Ev.putT.match_1 Bool.casesOn; rfl⟩
def R_putT := W_putT.1
theorem R_putT_eq : @Go.Proofs.YtcjidlgmbjebjaaDoor.Ev.putT = R_putT := W_putT.2.symm

def W_Cells_ofList : { f // f = @Go.Proofs.YtcjidlgmbjebjaaDoor.Ev.Cells.ofList } := ⟨_, by delta Go.Proofs.YtcjidlgmbjebjaaDoor.Ev.Cells.ofList Option.casesOn Go.Proofs.YtcjidlgmbjebjaaDoor.Ev.Cells.ofList.match_1; rfl⟩
def R_Cells_ofList := W_Cells_ofList.1
theorem R_Cells_ofList_eq : @Go.Proofs.YtcjidlgmbjebjaaDoor.Ev.Cells.ofList = R_Cells_ofList := W_Cells_ofList.2.symm

def W_zeroCellsV : { f // f = @Go.Proofs.YtcjidlgmbjebjaaDoor.Ev.zeroCellsV } := ⟨_, by delta Go.Proofs.YtcjidlgmbjebjaaDoor.Ev.zeroCellsV Go.Proofs.YtcjidlgmbjebjaaDoor.Ev.allOne.match_1 Bool.casesOn Option.bind Option.bind.match_1 Option.casesOn; simp only [R_oneCells_eq]; rfl⟩
def R_zeroCellsV := W_zeroCellsV.1
theorem R_zeroCellsV_eq : @Go.Proofs.YtcjidlgmbjebjaaDoor.Ev.zeroCellsV = R_zeroCellsV := W_zeroCellsV.2.symm

def W_allocOp : { f // f = @Go.Proofs.YtcjidlgmbjebjaaDoor.Ev.allocOp } := ⟨_, by delta Go.Proofs.YtcjidlgmbjebjaaDoor.Ev.allocOp Go.Proofs.YtcjidlgmbjebjaaDoor.Ev.constV.match_5 Option.casesOn Go.Proofs.YtcjidlgmbjebjaaDoor.Ev.optO.match_1 Go.Proofs.YtcjidlgmbjebjaaDoor.Ev.allocOp._sparseCasesOn_2 Go.Proofs.YtcjidlgmbjebjaaDoor.Ev.allocOp._sparseCasesOn_1 Go.Proofs.YtcjidlgmbjebjaaDoor.Ev.allocOp.match_1 Bool.casesOn Go.Proofs.YtcjidlgmbjebjaaDoor.Ev.allocOp.match_2 Option.bind Option.bind.match_1; simp only [R_oneCells_eq, R_Cells_ofList_eq, R_valO_eq, R_partsO_eq, R_zeroCellsV_eq]; rfl⟩
def R_allocOp := W_allocOp.1
theorem R_allocOp_eq : @Go.Proofs.YtcjidlgmbjebjaaDoor.Ev.allocOp = R_allocOp := W_allocOp.2.symm

def W_Cells_spliceB : { f // f = @Go.Proofs.YtcjidlgmbjebjaaDoor.Ev.Cells.spliceB } := ⟨_, by delta Go.Proofs.YtcjidlgmbjebjaaDoor.Ev.Cells.spliceB; simp only [R_glueB_eq, R_cutB_eq]; rfl⟩
def R_Cells_spliceB := W_Cells_spliceB.1
theorem R_Cells_spliceB_eq : @Go.Proofs.YtcjidlgmbjebjaaDoor.Ev.Cells.spliceB = R_Cells_spliceB := W_Cells_spliceB.2.symm

def W_Cells_splice : { f // f = @Go.Proofs.YtcjidlgmbjebjaaDoor.Ev.Cells.splice } := ⟨_, by delta Go.Proofs.YtcjidlgmbjebjaaDoor.Ev.Cells.splice Go.Proofs.YtcjidlgmbjebjaaDoor.Ev.Cells.splice.match_1 Go.Proofs.YtcjidlgmbjebjaaDoor.Ev.Cells.splice.match_2 Go.Proofs.YtcjidlgmbjebjaaDoor.Ev.Cells.casesOn; simp only [R_Cells_spliceB_eq, R_takeV_eq, R_dropV_eq, R_Cells_toList_eq, R_Cells_size_eq]; rfl⟩
def R_Cells_splice := W_Cells_splice.1
theorem R_Cells_splice_eq : @Go.Proofs.YtcjidlgmbjebjaaDoor.Ev.Cells.splice = R_Cells_splice := W_Cells_splice.2.symm

def R_listSet {α : Type} (l : List α) : Nat → α → List α :=
  List.rec (motive := fun _ => Nat → α → List α) (fun _ _ => []) (fun x r ih k v => Bool.rec (motive := fun _ => List α) (x :: ih (Nat.sub k 1) v) (v :: r) (Nat.beq k 0)) l
theorem R_listSet_eq : @listSet = @R_listSet := by
  funext α l
  induction l with
  | nil => rfl
  | cons x r ih =>
    funext k v
    rw [listSet, ih]
    show _ = Bool.rec (motive := fun _ => List α) (x :: R_listSet r (Nat.sub k 1) v) (v :: r) (Nat.beq k 0)
    cases Nat.beq k 0 <;> rfl

def W_Cells_set : { f // f = @Go.Proofs.YtcjidlgmbjebjaaDoor.Ev.Cells.set } := ⟨_, by delta Go.Proofs.YtcjidlgmbjebjaaDoor.Ev.Cells.set Go.Proofs.YtcjidlgmbjebjaaDoor.Ev.Cells.casesOn Go.Proofs.YtcjidlgmbjebjaaDoor.Ev.Cells.size.match_1; simp only [R_listSet_eq, R_Cells_splice_eq, R_Cells_ofList_eq]; rfl⟩
def R_Cells_set := W_Cells_set.1
theorem R_Cells_set_eq : @Go.Proofs.YtcjidlgmbjebjaaDoor.Ev.Cells.set = R_Cells_set := W_Cells_set.2.symm

def W_storeVar : { f // f = @Go.Proofs.YtcjidlgmbjebjaaDoor.Ev.storeVar } := ⟨_, by delta Go.Proofs.YtcjidlgmbjebjaaDoor.Ev.storeVar Go.Proofs.YtcjidlgmbjebjaaDoor.Ev.loadVar.match_1 Go.Proofs.YtcjidlgmbjebjaaDoor.Ev.loadVar._sparseCasesOn_1 Go.Proofs.YtcjidlgmbjebjaaDoor.Ev.V.one.match_1 Go.Proofs.YtcjidlgmbjebjaaDoor.Ev.V.one._sparseCasesOn_1 Go.Proofs.YtcjidlgmbjebjaaDoor.Ev.allOne.match_1 Bool.casesOn Option.bind Option.bind.match_1 Option.casesOn; simp only [R_Cells_size_eq, R_Cells_splice_eq, R_Cells_ofList_eq, R_Cells_set_eq]; rfl⟩
def R_storeVar := W_storeVar.1
theorem R_storeVar_eq : @Go.Proofs.YtcjidlgmbjebjaaDoor.Ev.storeVar = R_storeVar := W_storeVar.2.symm

def W_convertV : { f // f = @Go.Proofs.YtcjidlgmbjebjaaDoor.Ev.convertV } := ⟨_, by delta Go.Proofs.YtcjidlgmbjebjaaDoor.Ev.convertV Go.Proofs.YtcjidlgmbjebjaaDoor.Ev.eqV.match_3 Go.Proofs.YtcjidlgmbjebjaaDoor.Ev.eqV._sparseCasesOn_3 Go.Proofs.YtcjidlgmbjebjaaDoor.Ev.convertV.match_2 Go.Proofs.YtcjidlgmbjebjaaDoor.Ev.wrapF.match_2 Go.Proofs.YtcjidlgmbjebjaaDoor.Ev.convertV._sparseCasesOn_5 Go.Proofs.YtcjidlgmbjebjaaDoor.Ev.wrapF.match_1 Go.Proofs.YtcjidlgmbjebjaaDoor.Ev.convertV.match_1 Go.Proofs.YtcjidlgmbjebjaaDoor.Ev.convertV._sparseCasesOn_1 Go.Proofs.YtcjidlgmbjebjaaDoor.Ev.convertV.match_3 Bool.casesOn Go.Proofs.YtcjidlgmbjebjaaDoor.Ev.convertV.match_4 Go.Proofs.YtcjidlgmbjebjaaDoor.Ev.convertV._sparseCasesOn_2 Go.Proofs.YtcjidlgmbjebjaaDoor.Ev.eqV.match_2 Go.Proofs.YtcjidlgmbjebjaaDoor.Ev.convertV.match_5 Go.Proofs.YtcjidlgmbjebjaaDoor.Ev.eqV._sparseCasesOn_2 Go.Proofs.YtcjidlgmbjebjaaDoor.Ev.convertV._sparseCasesOn_4 Go.Proofs.YtcjidlgmbjebjaaDoor.Ev.convertV._sparseCasesOn_3 Option.bind Option.bind.match_1 Option.casesOn; simp only [R_wrapF_eq, R_isU8_eq, R_Cells_size_eq, R_strOfCells_eq, R_Cells_extract_eq]; rfl⟩
def R_convertV := W_convertV.1
theorem R_convertV_eq : @Go.Proofs.YtcjidlgmbjebjaaDoor.Ev.convertV = R_convertV := W_convertV.2.symm

def W_makeSliceV : { f // f = @Go.Proofs.YtcjidlgmbjebjaaDoor.Ev.makeSliceV } := ⟨_, by delta Go.Proofs.YtcjidlgmbjebjaaDoor.Ev.makeSliceV Go.Proofs.YtcjidlgmbjebjaaDoor.Ev.min2V.match_1 Go.Proofs.YtcjidlgmbjebjaaDoor.Ev.capV._sparseCasesOn_1 Go.Proofs.YtcjidlgmbjebjaaDoor.Ev.wrapF.match_2 Bool.casesOn Go.Proofs.YtcjidlgmbjebjaaDoor.Ev.capV.match_1 Go.Proofs.YtcjidlgmbjebjaaDoor.Ev.eqV._sparseCasesOn_2 Option.bind Option.bind.match_1 Option.casesOn; simp only [R_inE_eq, R_zeroCellsV_eq, R_Cells_ofList_eq]; rfl⟩
def R_makeSliceV := W_makeSliceV.1
theorem R_makeSliceV_eq : @Go.Proofs.YtcjidlgmbjebjaaDoor.Ev.makeSliceV = R_makeSliceV := W_makeSliceV.2.symm

def W_rangeV : { f // f = @Go.Proofs.YtcjidlgmbjebjaaDoor.Ev.rangeV } := ⟨_, by delta Go.Proofs.YtcjidlgmbjebjaaDoor.Ev.rangeV Go.Proofs.YtcjidlgmbjebjaaDoor.Ev.eqV.match_9 Go.Proofs.YtcjidlgmbjebjaaDoor.Ev.eqV.match_3 Go.Proofs.YtcjidlgmbjebjaaDoor.Ev.lenV.match_3 Go.Proofs.YtcjidlgmbjebjaaDoor.Ev.eqV._sparseCasesOn_3 Go.Proofs.YtcjidlgmbjebjaaDoor.Ev.rangeV.match_1 Go.Proofs.YtcjidlgmbjebjaaDoor.Ev.eqV._sparseCasesOn_9 Go.Proofs.YtcjidlgmbjebjaaDoor.Ev.rangeV._sparseCasesOn_1 Go.Proofs.YtcjidlgmbjebjaaDoor.Ev.lenV._sparseCasesOn_3 Option.bind Option.bind.match_1 Option.casesOn; rfl⟩
def R_rangeV := W_rangeV.1
theorem R_rangeV_eq : @Go.Proofs.YtcjidlgmbjebjaaDoor.Ev.rangeV = R_rangeV := W_rangeV.2.symm

def W_utf8V : { f // f = @Go.Proofs.YtcjidlgmbjebjaaDoor.Ev.utf8V } := ⟨_, by delta Go.Proofs.YtcjidlgmbjebjaaDoor.Ev.utf8V; simp only [R_byteAt_eq]; rfl⟩
def R_utf8V := W_utf8V.1
theorem R_utf8V_eq : @Go.Proofs.YtcjidlgmbjebjaaDoor.Ev.utf8V = R_utf8V := W_utf8V.2.symm

def W_nextStrV : { f // f = @Go.Proofs.YtcjidlgmbjebjaaDoor.Ev.nextStrV } := ⟨_, by delta Go.Proofs.YtcjidlgmbjebjaaDoor.Ev.nextStrV Go.Proofs.YtcjidlgmbjebjaaDoor.Ev.nextStrV._sparseCasesOn_3 Go.Proofs.YtcjidlgmbjebjaaDoor.Ev.nextStrV._sparseCasesOn_2 Go.Proofs.YtcjidlgmbjebjaaDoor.Ev.wrapF.match_2 Go.Proofs.YtcjidlgmbjebjaaDoor.Ev.nextStrV.match_2 Go.Proofs.YtcjidlgmbjebjaaDoor.Ev.nextStrV.match_1 Bool.casesOn Go.Proofs.YtcjidlgmbjebjaaDoor.Ev.nextStrV.match_3 Prod.casesOn Option.bind Option.bind.match_1 Option.casesOn; simp only [R_utf8V_eq, R_goI_eq]; rfl⟩
def R_nextStrV := W_nextStrV.1
theorem R_nextStrV_eq : @Go.Proofs.YtcjidlgmbjebjaaDoor.Ev.nextStrV = R_nextStrV := W_nextStrV.2.symm

def W_nextMapV : { f // f = @Go.Proofs.YtcjidlgmbjebjaaDoor.Ev.nextMapV } := ⟨_, by delta Go.Proofs.YtcjidlgmbjebjaaDoor.Ev.nextMapV Go.Proofs.YtcjidlgmbjebjaaDoor.Ev.lenV.match_3 Go.Proofs.YtcjidlgmbjebjaaDoor.Ev.nextMapV.match_1 Go.Proofs.YtcjidlgmbjebjaaDoor.Ev.nextStrV._sparseCasesOn_3 Option.casesOn Go.Proofs.YtcjidlgmbjebjaaDoor.Ev.wrapF.match_2 Go.Proofs.YtcjidlgmbjebjaaDoor.Ev.unseen.match_1 Go.Proofs.YtcjidlgmbjebjaaDoor.Ev.nextMapV._sparseCasesOn_2 Bool.casesOn List.casesOn Go.Proofs.YtcjidlgmbjebjaaDoor.Ev.nextStrV.match_3 Go.Proofs.YtcjidlgmbjebjaaDoor.Ev.nextMapV.match_2 Go.Proofs.YtcjidlgmbjebjaaDoor.Ev.lenV._sparseCasesOn_3 Option.bind Option.bind.match_1; rfl⟩
def R_nextMapV := W_nextMapV.1
theorem R_nextMapV_eq : @Go.Proofs.YtcjidlgmbjebjaaDoor.Ev.nextMapV = R_nextMapV := W_nextMapV.2.symm

def W_mapAt : { f // f = @Go.Proofs.YtcjidlgmbjebjaaDoor.Ev.mapAt } := ⟨_, by delta Go.Proofs.YtcjidlgmbjebjaaDoor.Ev.mapAt Go.Proofs.YtcjidlgmbjebjaaDoor.Ev.lenV.match_3 Go.Proofs.YtcjidlgmbjebjaaDoor.Ev.mapAt._sparseCasesOn_1 Go.Proofs.YtcjidlgmbjebjaaDoor.Ev.wrapF.match_1 Bool.casesOn Go.Proofs.YtcjidlgmbjebjaaDoor.Ev.mapOf._sparseCasesOn_1 Go.Proofs.YtcjidlgmbjebjaaDoor.Ev.mapAt.match_1 Go.Proofs.YtcjidlgmbjebjaaDoor.Ev.mapOf.match_1 Go.Proofs.YtcjidlgmbjebjaaDoor.Ev.lenV._sparseCasesOn_3 Option.bind Option.bind.match_1 Option.casesOn; simp only [R_plainK_eq]; rfl⟩
def R_mapAt := W_mapAt.1
theorem R_mapAt_eq : @Go.Proofs.YtcjidlgmbjebjaaDoor.Ev.mapAt = R_mapAt := W_mapAt.2.symm

def W_mapUpdateV : { f // f = @Go.Proofs.YtcjidlgmbjebjaaDoor.Ev.mapUpdateV } := ⟨_, by delta Go.Proofs.YtcjidlgmbjebjaaDoor.Ev.mapUpdateV Option.casesOn Go.Proofs.YtcjidlgmbjebjaaDoor.Ev.mapUpdateV.match_1 Go.Proofs.YtcjidlgmbjebjaaDoor.Ev.lookupV.match_1 Option.bind Option.bind.match_1; simp only [R_V_one_eq, R_mapAt_eq]; rfl⟩
def R_mapUpdateV := W_mapUpdateV.1
theorem R_mapUpdateV_eq : @Go.Proofs.YtcjidlgmbjebjaaDoor.Ev.mapUpdateV = R_mapUpdateV := W_mapUpdateV.2.symm

def W_mapEntryV : { f // f = @Go.Proofs.YtcjidlgmbjebjaaDoor.Ev.mapEntryV } := ⟨_, by delta Go.Proofs.YtcjidlgmbjebjaaDoor.Ev.mapEntryV Option.casesOn Go.Proofs.YtcjidlgmbjebjaaDoor.Ev.lookupV.match_1 Option.bind Option.bind.match_1; simp only [R_mapAt_eq, R_goI_eq]; rfl⟩
def R_mapEntryV := W_mapEntryV.1
theorem R_mapEntryV_eq : @Go.Proofs.YtcjidlgmbjebjaaDoor.Ev.mapEntryV = R_mapEntryV := W_mapEntryV.2.symm

def W_entryStoreV : { f // f = @Go.Proofs.YtcjidlgmbjebjaaDoor.Ev.entryStoreV } := ⟨_, by delta Go.Proofs.YtcjidlgmbjebjaaDoor.Ev.entryStoreV Go.Proofs.YtcjidlgmbjebjaaDoor.Ev.lenV.match_3 Go.Proofs.YtcjidlgmbjebjaaDoor.Ev.mapAt._sparseCasesOn_1 Int.casesOn Go.Proofs.YtcjidlgmbjebjaaDoor.Ev.eqV.match_2 Go.Proofs.YtcjidlgmbjebjaaDoor.Ev.eqV._sparseCasesOn_2 Go.Proofs.YtcjidlgmbjebjaaDoor.Ev.ltF.match_1 Go.Proofs.YtcjidlgmbjebjaaDoor.Ev.mapAt.match_1 Go.Proofs.YtcjidlgmbjebjaaDoor.Ev.lenV._sparseCasesOn_3 Option.bind Option.bind.match_1 Option.casesOn; rfl⟩
def R_entryStoreV := W_entryStoreV.1
theorem R_entryStoreV_eq : @Go.Proofs.YtcjidlgmbjebjaaDoor.Ev.entryStoreV = R_entryStoreV := W_entryStoreV.2.symm

def W_srcV : { f // f = @Go.Proofs.YtcjidlgmbjebjaaDoor.Ev.srcV } := ⟨_, by delta Go.Proofs.YtcjidlgmbjebjaaDoor.Ev.srcV Go.Proofs.YtcjidlgmbjebjaaDoor.Ev.srcV.match_1 Go.Proofs.YtcjidlgmbjebjaaDoor.Ev.loadVar.match_1 Go.Proofs.YtcjidlgmbjebjaaDoor.Ev.loadVar._sparseCasesOn_1 Go.Proofs.YtcjidlgmbjebjaaDoor.Ev.srcV.match_2 Go.Proofs.YtcjidlgmbjebjaaDoor.Ev.srcV._sparseCasesOn_1 Go.Proofs.YtcjidlgmbjebjaaDoor.Ev.sliceV._sparseCasesOn_1 Go.Proofs.YtcjidlgmbjebjaaDoor.Ev.srcV._sparseCasesOn_2 Go.Proofs.YtcjidlgmbjebjaaDoor.Ev.allOne.match_1 Bool.casesOn Go.Proofs.YtcjidlgmbjebjaaDoor.Ev.sliceV.match_4 Go.Proofs.YtcjidlgmbjebjaaDoor.Ev.sliceV._sparseCasesOn_4 Go.Proofs.YtcjidlgmbjebjaaDoor.Ev.asByte.match_3 Go.Proofs.YtcjidlgmbjebjaaDoor.Ev.sliceV.match_1 Go.Proofs.YtcjidlgmbjebjaaDoor.Ev.asByte._sparseCasesOn_3 Option.bind Option.bind.match_1 Option.casesOn; simp only [R_inE_eq, R_zeroCellsV_eq, R_Cells_ofList_eq, R_Cells_size_eq, R_Cells_extract_eq]; rfl⟩
def R_srcV := W_srcV.1
theorem R_srcV_eq : @Go.Proofs.YtcjidlgmbjebjaaDoor.Ev.srcV = R_srcV := W_srcV.2.symm

def W_Cells_append : { f // f = @Go.Proofs.YtcjidlgmbjebjaaDoor.Ev.Cells.append } := ⟨_, by delta Go.Proofs.YtcjidlgmbjebjaaDoor.Ev.Cells.append Go.Proofs.YtcjidlgmbjebjaaDoor.Ev.Cells.splice.match_1 Go.Proofs.YtcjidlgmbjebjaaDoor.Ev.Cells.casesOn; simp only [R_glueB_eq, R_cutB_eq, R_Cells_toList_eq]; rfl⟩
def R_Cells_append := W_Cells_append.1
theorem R_Cells_append_eq : @Go.Proofs.YtcjidlgmbjebjaaDoor.Ev.Cells.append = R_Cells_append := W_Cells_append.2.symm

def W_appendV : { f // f = @Go.Proofs.YtcjidlgmbjebjaaDoor.Ev.appendV } := ⟨_, by delta Go.Proofs.YtcjidlgmbjebjaaDoor.Ev.appendV Go.Proofs.YtcjidlgmbjebjaaDoor.Ev.loadVar.match_1 Go.Proofs.YtcjidlgmbjebjaaDoor.Ev.loadVar._sparseCasesOn_1 Go.Proofs.YtcjidlgmbjebjaaDoor.Ev.srcV._sparseCasesOn_1 Go.Proofs.YtcjidlgmbjebjaaDoor.Ev.buildSliceV._sparseCasesOn_1 Go.Proofs.YtcjidlgmbjebjaaDoor.Ev.appendV.match_2 Go.Proofs.YtcjidlgmbjebjaaDoor.Ev.sliceV.match_2 Go.Proofs.YtcjidlgmbjebjaaDoor.Ev.appendV.match_1 Go.Proofs.YtcjidlgmbjebjaaDoor.Ev.allOne.match_1 Bool.casesOn Go.Proofs.YtcjidlgmbjebjaaDoor.Ev.sliceV.match_4 Go.Proofs.YtcjidlgmbjebjaaDoor.Ev.buildSliceV.match_1 Go.Proofs.YtcjidlgmbjebjaaDoor.Ev.appendV._sparseCasesOn_1 Go.Proofs.YtcjidlgmbjebjaaDoor.Ev.sliceV._sparseCasesOn_4 Option.bind Option.bind.match_1 Option.casesOn; simp only [R_srcV_eq, R_zeroCellsV_eq, R_Cells_size_eq, R_Cells_splice_eq, R_Cells_append_eq, R_Cells_extract_eq]; rfl⟩
def R_appendV := W_appendV.1
theorem R_appendV_eq : @Go.Proofs.YtcjidlgmbjebjaaDoor.Ev.appendV = R_appendV := W_appendV.2.symm

def W_lenS : { f // f = @Go.Proofs.YtcjidlgmbjebjaaDoor.Ev.lenS } := ⟨_, by delta Go.Proofs.YtcjidlgmbjebjaaDoor.Ev.lenS Go.Proofs.YtcjidlgmbjebjaaDoor.Ev.lenS.match_1 Go.Proofs.YtcjidlgmbjebjaaDoor.Ev.lenS._sparseCasesOn_1; rfl⟩
def R_lenS := W_lenS.1
theorem R_lenS_eq : @Go.Proofs.YtcjidlgmbjebjaaDoor.Ev.lenS = R_lenS := W_lenS.2.symm

def W_firstN : { f // f = @Go.Proofs.YtcjidlgmbjebjaaDoor.Ev.firstN } := ⟨_, by delta Go.Proofs.YtcjidlgmbjebjaaDoor.Ev.firstN Go.Proofs.YtcjidlgmbjebjaaDoor.Ev.wrapF.match_2 Go.Proofs.YtcjidlgmbjebjaaDoor.Ev.convertV.match_1 Go.Proofs.YtcjidlgmbjebjaaDoor.Ev.convertV._sparseCasesOn_1 Bool.casesOn Go.Proofs.YtcjidlgmbjebjaaDoor.Ev.lenS.match_1 Go.Proofs.YtcjidlgmbjebjaaDoor.Ev.lenS._sparseCasesOn_1 Option.bind Option.bind.match_1 Option.casesOn; simp only [R_cutB_eq, R_Cells_size_eq, R_Cells_extract_eq]; rfl⟩
def R_firstN := W_firstN.1
theorem R_firstN_eq : @Go.Proofs.YtcjidlgmbjebjaaDoor.Ev.firstN = R_firstN := W_firstN.2.symm

def W_copyV : { f // f = @Go.Proofs.YtcjidlgmbjebjaaDoor.Ev.copyV } := ⟨_, by delta Go.Proofs.YtcjidlgmbjebjaaDoor.Ev.copyV Go.Proofs.YtcjidlgmbjebjaaDoor.Ev.lenV.match_2 Go.Proofs.YtcjidlgmbjebjaaDoor.Ev.capV._sparseCasesOn_1 Go.Proofs.YtcjidlgmbjebjaaDoor.Ev.wrapF.match_2 Go.Proofs.YtcjidlgmbjebjaaDoor.Ev.convertV.match_1 Go.Proofs.YtcjidlgmbjebjaaDoor.Ev.convertV._sparseCasesOn_1 Bool.casesOn Go.Proofs.YtcjidlgmbjebjaaDoor.Ev.capV.match_1 Go.Proofs.YtcjidlgmbjebjaaDoor.Ev.lenV._sparseCasesOn_2 Option.bind Option.bind.match_1 Option.casesOn; simp only [R_lenS_eq, R_firstN_eq, R_goI_eq, R_Cells_size_eq, R_Cells_splice_eq]; rfl⟩
def R_copyV := W_copyV.1
theorem R_copyV_eq : @Go.Proofs.YtcjidlgmbjebjaaDoor.Ev.copyV = R_copyV := W_copyV.2.symm

def W_deleteV : { f // f = @Go.Proofs.YtcjidlgmbjebjaaDoor.Ev.deleteV } := ⟨_, by delta Go.Proofs.YtcjidlgmbjebjaaDoor.Ev.deleteV Go.Proofs.YtcjidlgmbjebjaaDoor.Ev.eqV.match_10 Option.casesOn Go.Proofs.YtcjidlgmbjebjaaDoor.Ev.lookupV.match_1 Go.Proofs.YtcjidlgmbjebjaaDoor.Ev.eqV._sparseCasesOn_10 Option.bind Option.bind.match_1; simp only [R_mapOf_eq, R_mapAt_eq]; rfl⟩
def R_deleteV := W_deleteV.1
theorem R_deleteV_eq : @Go.Proofs.YtcjidlgmbjebjaaDoor.Ev.deleteV = R_deleteV := W_deleteV.2.symm

def W_clearV : { f // f = @Go.Proofs.YtcjidlgmbjebjaaDoor.Ev.clearV } := ⟨_, by delta Go.Proofs.YtcjidlgmbjebjaaDoor.Ev.clearV Go.Proofs.YtcjidlgmbjebjaaDoor.Ev.eqV.match_9 Go.Proofs.YtcjidlgmbjebjaaDoor.Ev.lenV.match_3 Go.Proofs.YtcjidlgmbjebjaaDoor.Ev.eqV._sparseCasesOn_9 Go.Proofs.YtcjidlgmbjebjaaDoor.Ev.mapOf._sparseCasesOn_1 Go.Proofs.YtcjidlgmbjebjaaDoor.Ev.mapOf.match_1 Go.Proofs.YtcjidlgmbjebjaaDoor.Ev.lenV._sparseCasesOn_3 Option.bind Option.bind.match_1 Option.casesOn; rfl⟩
def R_clearV := W_clearV.1
theorem R_clearV_eq : @Go.Proofs.YtcjidlgmbjebjaaDoor.Ev.clearV = R_clearV := W_clearV.2.symm

def W_unsafeStrV : { f // f = @Go.Proofs.YtcjidlgmbjebjaaDoor.Ev.unsafeStrV } := ⟨_, by delta Go.Proofs.YtcjidlgmbjebjaaDoor.Ev.unsafeStrV Go.Proofs.YtcjidlgmbjebjaaDoor.Ev.unsafeStrV.match_1 Go.Proofs.YtcjidlgmbjebjaaDoor.Ev.nextStrV._sparseCasesOn_3 Int.casesOn Go.Proofs.YtcjidlgmbjebjaaDoor.Ev.wrapF.match_2 Go.Proofs.YtcjidlgmbjebjaaDoor.Ev.convertV.match_1 Go.Proofs.YtcjidlgmbjebjaaDoor.Ev.convertV._sparseCasesOn_1 Bool.casesOn Go.Proofs.YtcjidlgmbjebjaaDoor.Ev.eqV.match_2 Go.Proofs.YtcjidlgmbjebjaaDoor.Ev.eqV.match_4 Go.Proofs.YtcjidlgmbjebjaaDoor.Ev.eqV._sparseCasesOn_2 Go.Proofs.YtcjidlgmbjebjaaDoor.Ev.ltF.match_1 Go.Proofs.YtcjidlgmbjebjaaDoor.Ev.eqV._sparseCasesOn_4 Go.Proofs.YtcjidlgmbjebjaaDoor.Ev.nextStrV.match_3 Go.Proofs.YtcjidlgmbjebjaaDoor.Ev.unsafeStrV._sparseCasesOn_1 Option.bind Option.bind.match_1 Option.casesOn; simp only [R_isU8_eq, R_liesV_eq, R_strOfCells_eq, R_Cells_extract_eq]; rfl⟩
def R_unsafeStrV := W_unsafeStrV.1
theorem R_unsafeStrV_eq : @Go.Proofs.YtcjidlgmbjebjaaDoor.Ev.unsafeStrV = R_unsafeStrV := W_unsafeStrV.2.symm

def W_actB : { f // f = @Go.Proofs.YtcjidlgmbjebjaaDoor.Ev.actB } := ⟨_, by delta Go.Proofs.YtcjidlgmbjebjaaDoor.Ev.actB Go.Proofs.YtcjidlgmbjebjaaDoor.Ev.actB.match_1 Go.Proofs.YtcjidlgmbjebjaaDoor.Ev.readB._sparseCasesOn_1 Go.Proofs.YtcjidlgmbjebjaaDoor.Ev.readB.match_1 Go.Proofs.YtcjidlgmbjebjaaDoor.Ev.actB.match_3 Go.Proofs.YtcjidlgmbjebjaaDoor.Ev.actB._sparseCasesOn_4 Go.Proofs.YtcjidlgmbjebjaaDoor.Ev.readB._sparseCasesOn_2 Go.Proofs.YtcjidlgmbjebjaaDoor.Ev.actB.match_4 Go.Proofs.YtcjidlgmbjebjaaDoor.Ev.actB.match_2 Option.bind Option.bind.match_1 Option.casesOn; simp only [R_appendV_eq, R_copyV_eq, R_deleteV_eq, R_clearV_eq, R_unsafeStrV_eq]; rfl⟩
def R_actB := W_actB.1
theorem R_actB_eq : @Go.Proofs.YtcjidlgmbjebjaaDoor.Ev.actB = R_actB := W_actB.2.symm

def W_extV : { f // f = @Go.Proofs.YtcjidlgmbjebjaaDoor.Ev.extV } := ⟨_, by delta Go.Proofs.YtcjidlgmbjebjaaDoor.Ev.extV Go.Proofs.YtcjidlgmbjebjaaDoor.Ev.constV.match_5 Go.Proofs.YtcjidlgmbjebjaaDoor.Ev.convertR._sparseCasesOn_1 Go.Proofs.YtcjidlgmbjebjaaDoor.Ev.extV._sparseCasesOn_1 Go.Proofs.YtcjidlgmbjebjaaDoor.Ev.extV.match_1 Go.Proofs.YtcjidlgmbjebjaaDoor.Ev.readB._sparseCasesOn_1 Go.Proofs.YtcjidlgmbjebjaaDoor.Ev.readB.match_1 Bool.casesOn Go.Proofs.YtcjidlgmbjebjaaDoor.Ev.readB._sparseCasesOn_2 Go.Proofs.YtcjidlgmbjebjaaDoor.Ev.extV.match_2; rfl⟩
def R_extV := W_extV.1
theorem R_extV_eq : @Go.Proofs.YtcjidlgmbjebjaaDoor.Ev.extV = R_extV := W_extV.2.symm

def W_extH : { f // f = @Go.Proofs.YtcjidlgmbjebjaaDoor.Ev.extH } := ⟨_, by delta Go.Proofs.YtcjidlgmbjebjaaDoor.Ev.extH Go.Proofs.YtcjidlgmbjebjaaDoor.Ev.extH.match_5 Go.Proofs.YtcjidlgmbjebjaaDoor.Ev.extH._sparseCasesOn_1 Go.Proofs.YtcjidlgmbjebjaaDoor.Ev.extH._sparseCasesOn_2 Go.Proofs.YtcjidlgmbjebjaaDoor.Ev.extH.match_4 Go.Proofs.YtcjidlgmbjebjaaDoor.Ev.extH.match_1 List.casesOn Go.Proofs.YtcjidlgmbjebjaaDoor.Ev.extH._sparseCasesOn_3 Go.Proofs.YtcjidlgmbjebjaaDoor.Ev.extH.match_3 Go.Proofs.YtcjidlgmbjebjaaDoor.Ev.extH.match_6 Go.Proofs.YtcjidlgmbjebjaaDoor.Ev.extH.match_2 Option.bind Option.bind.match_1 Option.casesOn; rfl⟩
def R_extH := W_extH.1
theorem R_extH_eq : @Go.Proofs.YtcjidlgmbjebjaaDoor.Ev.extH = R_extH := W_extH.2.symm

def W_enterV : { f // f = @Go.Proofs.YtcjidlgmbjebjaaDoor.Ev.enterV } := ⟨_, by delta Go.Proofs.YtcjidlgmbjebjaaDoor.Ev.enterV Option.casesOn Go.Proofs.YtcjidlgmbjebjaaDoor.Ev.enterV.match_1 Go.Proofs.YtcjidlgmbjebjaaDoor.Ev.enterV.match_2 Option.bind Option.bind.match_1; simp only [R_extV_eq, R_extH_eq]; rfl⟩
def R_enterV := W_enterV.1
theorem R_enterV_eq : @Go.Proofs.YtcjidlgmbjebjaaDoor.Ev.enterV = R_enterV := W_enterV.2.symm

def W_callMethodV : { f // f = @Go.Proofs.YtcjidlgmbjebjaaDoor.Ev.callMethodV } := ⟨_, by delta Go.Proofs.YtcjidlgmbjebjaaDoor.Ev.callMethodV Go.Proofs.YtcjidlgmbjebjaaDoor.Ev.callMethodV.match_2 Go.Proofs.YtcjidlgmbjebjaaDoor.Ev.constV.match_5 Bool.casesOn List.casesOn Go.Proofs.YtcjidlgmbjebjaaDoor.Ev.callMethodV._sparseCasesOn_1 Go.Proofs.YtcjidlgmbjebjaaDoor.Ev.extH._sparseCasesOn_3 Go.Proofs.YtcjidlgmbjebjaaDoor.Ev.extH.match_3 Go.Proofs.YtcjidlgmbjebjaaDoor.Ev.callMethodV.match_1 Option.bind Option.bind.match_1 Option.casesOn; simp only [R_enterV_eq]; rfl⟩
def R_callMethodV := W_callMethodV.1
theorem R_callMethodV_eq : @Go.Proofs.YtcjidlgmbjebjaaDoor.Ev.callMethodV = R_callMethodV := W_callMethodV.2.symm

def W_callValueV : { f // f = @Go.Proofs.YtcjidlgmbjebjaaDoor.Ev.callValueV } := ⟨_, by delta Go.Proofs.YtcjidlgmbjebjaaDoor.Ev.callValueV Go.Proofs.YtcjidlgmbjebjaaDoor.Ev.extH.match_5 Go.Proofs.YtcjidlgmbjebjaaDoor.Ev.callValueV.match_1 Go.Proofs.YtcjidlgmbjebjaaDoor.Ev.callValueV.match_2 List.casesOn Go.Proofs.YtcjidlgmbjebjaaDoor.Ev.callValueV._sparseCasesOn_1 Go.Proofs.YtcjidlgmbjebjaaDoor.Ev.callValueV._sparseCasesOn_2; simp only [R_enterV_eq, R_callMethodV_eq]; rfl⟩
def R_callValueV := W_callValueV.1
theorem R_callValueV_eq : @Go.Proofs.YtcjidlgmbjebjaaDoor.Ev.callValueV = R_callValueV := W_callValueV.2.symm

def W_actOp : { f // f = @Go.Proofs.YtcjidlgmbjebjaaDoor.Ev.actOp } := ⟨_, by delta Go.Proofs.YtcjidlgmbjebjaaDoor.Ev.actOp Go.Proofs.YtcjidlgmbjebjaaDoor.Ev.constV.match_5 Go.Proofs.YtcjidlgmbjebjaaDoor.Ev.actOp.match_2 Go.Callee.casesOn Go.Proofs.YtcjidlgmbjebjaaDoor.Ev.actOp.match_1 Go.Proofs.YtcjidlgmbjebjaaDoor.Ev.readOp._sparseCasesOn_2 Go.Proofs.YtcjidlgmbjebjaaDoor.Ev.callValueV.match_2 Go.Proofs.YtcjidlgmbjebjaaDoor.Ev.actOp.match_3 Bool.casesOn Go.Proofs.YtcjidlgmbjebjaaDoor.Ev.actOp.match_4 Go.Proofs.YtcjidlgmbjebjaaDoor.Ev.readOp.match_2 Go.Proofs.YtcjidlgmbjebjaaDoor.Ev.actOp._sparseCasesOn_3 Go.Proofs.YtcjidlgmbjebjaaDoor.Ev.actOp._sparseCasesOn_4 Go.Proofs.YtcjidlgmbjebjaaDoor.Ev.actOp._sparseCasesOn_2 Go.Proofs.YtcjidlgmbjebjaaDoor.Ev.callValueV._sparseCasesOn_2 Option.bind Option.bind.match_1 Option.casesOn; simp only [R_valO_eq, R_storeVar_eq, R_convertV_eq, R_makeSliceV_eq, R_rangeV_eq, R_nextStrV_eq, R_nextMapV_eq, R_mapUpdateV_eq, R_mapEntryV_eq, R_entryStoreV_eq, R_valsO_eq, R_actB_eq, R_callMethodV_eq, R_callValueV_eq]; rfl⟩
def R_actOp := W_actOp.1
theorem R_actOp_eq : @Go.Proofs.YtcjidlgmbjebjaaDoor.Ev.actOp = R_actOp := W_actOp.2.symm

def W_stepQ : { f // f = @Go.Proofs.YtcjidlgmbjebjaaDoor.Ev.stepQ } := ⟨_, by delta Go.Proofs.YtcjidlgmbjebjaaDoor.Ev.stepQ Option.casesOn Go.Proofs.YtcjidlgmbjebjaaDoor.Ev.stepQ.match_1 Go.Proofs.YtcjidlgmbjebjaaDoor.Ev.stepQ.match_2 Option.bind Option.bind.match_1; simp only [R_kindOp_eq, R_readQ_eq, R_allocOp_eq, R_actOp_eq]; rfl⟩
def R_stepQ := W_stepQ.1
theorem R_stepQ_eq : @Go.Proofs.YtcjidlgmbjebjaaDoor.Ev.stepQ = R_stepQ := W_stepQ.2.symm

def W_runCall : { f // f = @Go.Proofs.YtcjidlgmbjebjaaDoor.Ev.runCall } := ⟨_, by delta Go.Proofs.YtcjidlgmbjebjaaDoor.Ev.runCall Go.Proofs.YtcjidlgmbjebjaaDoor.Ev.Out.casesOn Go.Proofs.YtcjidlgmbjebjaaDoor.Ev.runCall.match_1 Option.bind Option.bind.match_1 Option.casesOn; rfl⟩
def R_runCall := W_runCall.1
theorem R_runCall_eq : @Go.Proofs.YtcjidlgmbjebjaaDoor.Ev.runCall = R_runCall := W_runCall.2.symm

def W_loopAt : { f // f = @Go.Proofs.YtcjidlgmbjebjaaDoor.Ev.loopAt } := ⟨_, by delta Go.Proofs.YtcjidlgmbjebjaaDoor.Ev.loopAt Go.Proofs.YtcjidlgmbjebjaaDoor.Ev.loopAt._sparseCasesOn_1 Go.Proofs.YtcjidlgmbjebjaaDoor.Ev.loopAt.match_1 Option.bind Option.bind.match_1 Option.casesOn; rfl⟩
def R_loopAt := W_loopAt.1
theorem R_loopAt_eq : @Go.Proofs.YtcjidlgmbjebjaaDoor.Ev.loopAt = R_loopAt := W_loopAt.2.symm

def W_runCode : { f // f = @Go.Proofs.YtcjidlgmbjebjaaDoor.Ev.runCode } := ⟨_, by delta Go.Proofs.YtcjidlgmbjebjaaDoor.Ev.runCode Go.Proofs.YtcjidlgmbjebjaaDoor.Ev.runCode.match_1 Go.Proofs.YtcjidlgmbjebjaaDoor.Ev.Out.casesOn Option.bind Option.bind.match_1 Option.casesOn; rfl⟩
def R_runCode := W_runCode.1
theorem R_runCode_eq : @Go.Proofs.YtcjidlgmbjebjaaDoor.Ev.runCode = R_runCode := W_runCode.2.symm

def W_jumpOf : { f // f = @Go.Proofs.YtcjidlgmbjebjaaDoor.Ev.jumpOf } := ⟨_, by delta Go.Proofs.YtcjidlgmbjebjaaDoor.Ev.jumpOf Go.Proofs.YtcjidlgmbjebjaaDoor.Ev.jumpOf.match_1 Go.Proofs.YtcjidlgmbjebjaaDoor.Ev.X.casesOn; rfl⟩
def R_jumpOf := W_jumpOf.1
theorem R_jumpOf_eq : @Go.Proofs.YtcjidlgmbjebjaaDoor.Ev.jumpOf = R_jumpOf := W_jumpOf.2.symm

def W_runRound : { f // f = @Go.Proofs.YtcjidlgmbjebjaaDoor.Ev.runRound } := ⟨_, by delta Go.Proofs.YtcjidlgmbjebjaaDoor.Ev.runRound Option.casesOn Go.Proofs.YtcjidlgmbjebjaaDoor.Ev.runRound._sparseCasesOn_2 Bool.casesOn Go.Proofs.YtcjidlgmbjebjaaDoor.Ev.runRound._sparseCasesOn_3 Go.Proofs.YtcjidlgmbjebjaaDoor.Ev.convertR.match_5 Go.Proofs.YtcjidlgmbjebjaaDoor.Ev.runRound.match_2 Go.Proofs.YtcjidlgmbjebjaaDoor.Ev.runRound.match_3 Go.Proofs.YtcjidlgmbjebjaaDoor.Ev.runRound.match_1 Option.bind Option.bind.match_1; simp only [R_loopAt_eq, R_runCode_eq, R_jumpOf_eq]; rfl⟩
def R_runRound := W_runRound.1
theorem R_runRound_eq : @Go.Proofs.YtcjidlgmbjebjaaDoor.Ev.runRound = R_runRound := W_runRound.2.symm

def W_nxQ : { f // f = @Go.Proofs.YtcjidlgmbjebjaaDoor.Ev.nxQ } := ⟨_, by delta Go.Proofs.YtcjidlgmbjebjaaDoor.Ev.nxQ Go.Proofs.YtcjidlgmbjebjaaDoor.Ev.nxQ.match_1 Go.Proofs.YtcjidlgmbjebjaaDoor.Ev.nxQ.match_2 Option.casesOn Go.Proofs.YtcjidlgmbjebjaaDoor.Ev.valQ.match_1 Go.Proofs.YtcjidlgmbjebjaaDoor.Ev.NX.casesOn Bool.casesOn Option.bind Option.bind.match_1; simp only [R_runCall_eq, R_runRound_eq]; rfl⟩
def R_nxQ := W_nxQ.1
theorem R_nxQ_eq : @Go.Proofs.YtcjidlgmbjebjaaDoor.Ev.nxQ = R_nxQ := W_nxQ.2.symm

def W_fullQ : { f // f = @Go.Proofs.YtcjidlgmbjebjaaDoor.Ev.fullQ } := ⟨_, by delta Go.Proofs.YtcjidlgmbjebjaaDoor.Ev.fullQ Option.bind Option.bind.match_1 Option.casesOn; simp only [R_stepQ_eq, R_nxQ_eq]; rfl⟩
def R_fullQ := W_fullQ.1
theorem R_fullQ_eq : @Go.Proofs.YtcjidlgmbjebjaaDoor.Ev.fullQ = R_fullQ := W_fullQ.2.symm

def W_wantedV : { f // f = @Go.Proofs.YtcjidlgmbjebjaaDoor.Ev.wantedV } := ⟨_, by delta Go.Proofs.YtcjidlgmbjebjaaDoor.Ev.wantedV Go.Proofs.YtcjidlgmbjebjaaDoor.Ev.wantedV.match_1 Option.casesOn Go.Proofs.YtcjidlgmbjebjaaDoor.Ev.wantedV._sparseCasesOn_1 Go.Proofs.YtcjidlgmbjebjaaDoor.Ev.wantedV.match_2 Option.bind Option.bind.match_1; simp only [R_listGet_eq]; rfl⟩
def R_wantedV := W_wantedV.1
theorem R_wantedV_eq : @Go.Proofs.YtcjidlgmbjebjaaDoor.Ev.wantedV = R_wantedV := W_wantedV.2.symm

def R_runQ (E : Env) (rec_ : Rec) (q : K) (ops l : List Oper) : T V → List DV → Heap → Option (Fm × Heap) :=
  List.rec (motive := fun _ => T V → List DV → Heap → Option (Fm × Heap)) (fun tm df H => some ({ tm := tm, df := df }, H))
    (fun o _ ih tm df H =>
      Option.rec (motive := fun _ => Option (Fm × Heap))
        (Nat.rec (motive := fun _ => Option (Fm × Heap))
          (Option.rec (motive := fun _ => Option (Fm × Heap)) none (fun v => Option.rec (motive := fun _ => Option (Fm × Heap)) none (fun tm => ih tm df H) (R_putT q.nt tm o.dst v)) (R_readQ o.op E H tm))
          (fun _ _ => Option.rec (motive := fun _ => Option (Fm × Heap)) none (fun r => Option.rec (motive := fun _ => Option (Fm × Heap)) none (fun tm => ih tm r.2.1 r.2.2) (R_putT q.nt tm o.dst r.1)) (R_fullQ E rec_ q { tm := tm, df := df } H o.op))
          (R_kindOp o.op))
        (fun _ => Option.rec (motive := fun _ => Option (Fm × Heap)) none
          (fun w => Bool.rec (motive := fun _ => Option (Fm × Heap))
            (Option.rec (motive := fun _ => Option (Fm × Heap)) none (fun tm => ih tm df H) (R_putT q.nt tm o.dst vundef))
            (Option.rec (motive := fun _ => Option (Fm × Heap)) none (fun r => Option.rec (motive := fun _ => Option (Fm × Heap)) none (fun tm => ih tm r.2.1 r.2.2) (R_putT q.nt tm o.dst r.1)) (R_fullQ E rec_ q { tm := tm, df := df } H o.op)) w)
          (R_wantedV ops tm o))
        o.guard) l
theorem R_runQ_eq : @runQ = R_runQ := by
  funext E rec_ q ops l
  induction l with
  | nil => rfl
  | cons o rest ih =>
    funext tm df H
    rw [runQ]
    simp only [ih, R_putT_eq, R_readQ_eq, R_fullQ_eq, R_wantedV_eq, R_kindOp_eq]
    show _ = Option.rec (motive := fun _ => Option (Fm × Heap)) (Nat.rec (motive := fun _ => Option (Fm × Heap)) _ _ (R_kindOp o.op)) _ o.guard
    cases o.guard with
    | none =>
      show _ = Nat.rec (motive := fun _ => Option (Fm × Heap)) _ _ (R_kindOp o.op)
      cases R_kindOp o.op with
      | zero => kernel_rfl
      | succ k => kernel_rfl
    | some g =>
      cases R_wantedV ops tm o with
      | none => kernel_rfl
      | some w => cases w <;> kernel_rfl

def W_bit : { f // f = @Go.Proofs.YtcjidlgmbjebjaaDoor.Ev.bit } := ⟨_, by delta Go.Proofs.YtcjidlgmbjebjaaDoor.Ev.bit; rfl⟩
def R_bit := W_bit.1
theorem R_bit_eq : @Go.Proofs.YtcjidlgmbjebjaaDoor.Ev.bit = R_bit := W_bit.2.symm

def W_guardT : { f // f = @Go.Proofs.YtcjidlgmbjebjaaDoor.Ev.guardT } := ⟨_, by delta Go.Proofs.YtcjidlgmbjebjaaDoor.Ev.guardT Option.casesOn Go.Proofs.YtcjidlgmbjebjaaDoor.Ev.putT.match_1 Go.Proofs.YtcjidlgmbjebjaaDoor.Ev.guardT.match_1 Go.Proofs.YtcjidlgmbjebjaaDoor.Ev.wantedV.match_2; simp only [R_listGet_eq]; rfl⟩
def R_guardT := W_guardT.1
theorem R_guardT_eq : @Go.Proofs.YtcjidlgmbjebjaaDoor.Ev.guardT = R_guardT := W_guardT.2.symm

def W_opnds : { f // f = @Go.Proofs.YtcjidlgmbjebjaaDoor.Ev.opnds } := ⟨_, by delta Go.Proofs.YtcjidlgmbjebjaaDoor.Ev.opnds Go.Proofs.YtcjidlgmbjebjaaDoor.Ev.opnds.match_1 Go.Callee.casesOn Go.Op.casesOn Go.Proofs.YtcjidlgmbjebjaaDoor.Ev.opnds.match_2; rfl⟩
def R_opnds := W_opnds.1
theorem R_opnds_eq : @Go.Proofs.YtcjidlgmbjebjaaDoor.Ev.opnds = R_opnds := W_opnds.2.symm

def W_looks : { f // f = @Go.Proofs.YtcjidlgmbjebjaaDoor.Ev.looks } := ⟨_, by delta Go.Proofs.YtcjidlgmbjebjaaDoor.Ev.looks; simp only [R_guardT_eq, R_opnds_eq]; rfl⟩
def R_looks := W_looks.1
theorem R_looks_eq : @Go.Proofs.YtcjidlgmbjebjaaDoor.Ev.looks = R_looks := W_looks.2.symm

def W_actish : { f // f = @Go.Proofs.YtcjidlgmbjebjaaDoor.Ev.actish } := ⟨_, by delta Go.Proofs.YtcjidlgmbjebjaaDoor.Ev.actish; simp only [R_kindOp_eq]; rfl⟩
def R_actish := W_actish.1
theorem R_actish_eq : @Go.Proofs.YtcjidlgmbjebjaaDoor.Ev.actish = R_actish := W_actish.2.symm

def W_planOf : { f // f = @Go.Proofs.YtcjidlgmbjebjaaDoor.Ev.planOf } := ⟨_, by delta Go.Proofs.YtcjidlgmbjebjaaDoor.Ev.planOf Bool.casesOn Go.Proofs.YtcjidlgmbjebjaaDoor.Ev.convertR.match_5 Option.bind Option.bind.match_1 Option.casesOn; rfl⟩
def R_planOf := W_planOf.1
theorem R_planOf_eq : @Go.Proofs.YtcjidlgmbjebjaaDoor.Ev.planOf = R_planOf := W_planOf.2.symm

def W_EK_val : { f // f = @Go.Proofs.YtcjidlgmbjebjaaDoor.Ev.EK.val } := ⟨_, by delta Go.Proofs.YtcjidlgmbjebjaaDoor.Ev.EK.val Go.Proofs.YtcjidlgmbjebjaaDoor.Ev.EK.casesOn Go.Proofs.YtcjidlgmbjebjaaDoor.Ev.EK.val.match_1; rfl⟩
def R_EK_val := W_EK_val.1
theorem R_EK_val_eq : @Go.Proofs.YtcjidlgmbjebjaaDoor.Ev.EK.val = R_EK_val := W_EK_val.2.symm

def W_drawQuiet : { f // f = @Go.Proofs.YtcjidlgmbjebjaaDoor.Ev.drawQuiet } := ⟨_, by delta Go.Proofs.YtcjidlgmbjebjaaDoor.Ev.drawQuiet Option.bind Option.bind.match_1 Option.casesOn; simp only [R_putT_eq, R_EK_val_eq]; rfl⟩
def R_drawQuiet := W_drawQuiet.1
theorem R_drawQuiet_eq : @Go.Proofs.YtcjidlgmbjebjaaDoor.Ev.drawQuiet = R_drawQuiet := W_drawQuiet.2.symm

def R_readOp (E : Env) (H : Heap) (tm : T V) (op : Op) : Option V := R_readQ op E H tm
theorem R_readOp_eq : @readOp = R_readOp := by funext E H tm op; rw [← readQ_eq, R_readQ_eq]; rfl

def R_fullOp (E : Env) (rec_ : Rec) (q : K) (fr : Fm) (H : Heap) (op : Op) : Option (V × List DV × Heap) := R_fullQ E rec_ q fr H op
theorem R_fullOp_eq : @fullOp = R_fullOp := by funext E rec_ q fr H op; rw [← fullQ_eq, R_fullQ_eq]; rfl

def W_fnEq : { f // f = @Go.Proofs.YtcjidlgmbjebjaaDoor.Ev.fnEq } := ⟨_, by delta Go.Proofs.YtcjidlgmbjebjaaDoor.Ev.fnEq Go.Proofs.YtcjidlgmbjebjaaDoor.Ev.fnEq._sparseCasesOn_2 Go.Proofs.YtcjidlgmbjebjaaDoor.Ev.fnEq._sparseCasesOn_1 Go.Proofs.YtcjidlgmbjebjaaDoor.Ev.fnEq._sparseCasesOn_3 Go.Proofs.YtcjidlgmbjebjaaDoor.Ev.actOp.match_2 Go.Proofs.YtcjidlgmbjebjaaDoor.Ev.fnEq.match_4 Go.Proofs.YtcjidlgmbjebjaaDoor.Ev.fnEq.match_1 Go.Proofs.YtcjidlgmbjebjaaDoor.Ev.fnEq.match_2 Go.Proofs.YtcjidlgmbjebjaaDoor.Ev.fnEq._sparseCasesOn_4 Go.Proofs.YtcjidlgmbjebjaaDoor.Ev.fnEq.match_3 Go.Proofs.YtcjidlgmbjebjaaDoor.Ev.actOp._sparseCasesOn_2; rfl⟩
def R_fnEq := W_fnEq.1
theorem R_fnEq_eq : @Go.Proofs.YtcjidlgmbjebjaaDoor.Ev.fnEq = R_fnEq := W_fnEq.2.symm

def W_cellsEq : { f // f = @Go.Proofs.YtcjidlgmbjebjaaDoor.Ev.cellsEq } := ⟨_, by delta Go.Proofs.YtcjidlgmbjebjaaDoor.Ev.cellsEq Go.Proofs.YtcjidlgmbjebjaaDoor.Ev.cellsEq.match_1 Go.Proofs.YtcjidlgmbjebjaaDoor.Ev.Cells.casesOn Go.Proofs.YtcjidlgmbjebjaaDoor.Ev.cellsEq.match_2; rfl⟩
def R_cellsEq := W_cellsEq.1
theorem R_cellsEq_eq : @Go.Proofs.YtcjidlgmbjebjaaDoor.Ev.cellsEq = R_cellsEq := W_cellsEq.2.symm

def W_objEq : { f // f = @Go.Proofs.YtcjidlgmbjebjaaDoor.Ev.objEq } := ⟨_, by delta Go.Proofs.YtcjidlgmbjebjaaDoor.Ev.objEq Go.Proofs.YtcjidlgmbjebjaaDoor.Ev.convertR.match_3 Go.Proofs.YtcjidlgmbjebjaaDoor.Ev.extH._sparseCasesOn_1 Go.Proofs.YtcjidlgmbjebjaaDoor.Ev.convertR._sparseCasesOn_3 Go.Proofs.YtcjidlgmbjebjaaDoor.Ev.objEq.match_2 Go.Proofs.YtcjidlgmbjebjaaDoor.Ev.extH.match_1 Go.Proofs.YtcjidlgmbjebjaaDoor.Ev.objEq._sparseCasesOn_2 List.casesOn Go.Proofs.YtcjidlgmbjebjaaDoor.Ev.objEq.match_1; simp only [R_cellsEq_eq]; rfl⟩
def R_objEq := W_objEq.1
theorem R_objEq_eq : @Go.Proofs.YtcjidlgmbjebjaaDoor.Ev.objEq = R_objEq := W_objEq.2.symm

def W_stands : { f // f = @Go.Proofs.YtcjidlgmbjebjaaDoor.Ev.stands } := ⟨_, by delta Go.Proofs.YtcjidlgmbjebjaaDoor.Ev.stands Option.casesOn Go.Proofs.YtcjidlgmbjebjaaDoor.Ev.EK.casesOn Go.Proofs.YtcjidlgmbjebjaaDoor.Ev.stands.match_1 Go.Proofs.YtcjidlgmbjebjaaDoor.Ev.enterV.match_1 Go.Proofs.YtcjidlgmbjebjaaDoor.Ev.EK.val.match_1; simp only [R_readOp_eq, R_objEq_eq]; rfl⟩
def R_stands := W_stands.1
theorem R_stands_eq : @Go.Proofs.YtcjidlgmbjebjaaDoor.Ev.stands = R_stands := W_stands.2.symm

def R_recheck (E : Env) (H : Heap) (b : Nat) (l : List Ent) : Option (List Ent) :=
  List.rec (motive := fun _ => Option (List Ent)) (some [])
    (fun e _ ih => Bool.rec (motive := fun _ => Option (List Ent))
      (Bool.rec (motive := fun _ => Option (List Ent)) none (Option.rec (motive := fun _ => Option (List Ent)) none (fun l => some (e :: l)) ih) (R_stands E H e))
      ih (R_bit b e.i)) l
theorem R_recheck_eq : @recheck = R_recheck := by
  funext E H b l
  induction l with
  | nil => rfl
  | cons e r ih =>
    rw [recheck]
    simp only [ih, R_stands_eq, R_bit_eq]
    kernel_rfl

def W_drawAct : { f // f = @Go.Proofs.YtcjidlgmbjebjaaDoor.Ev.drawAct } := ⟨_, by delta Go.Proofs.YtcjidlgmbjebjaaDoor.Ev.drawAct Option.bind Option.bind.match_1 Option.casesOn; simp only [R_fullOp_eq, R_recheck_eq, R_putT_eq]; rfl⟩
def R_drawAct := W_drawAct.1
theorem R_drawAct_eq : @Go.Proofs.YtcjidlgmbjebjaaDoor.Ev.drawAct = R_drawAct := W_drawAct.2.symm

def W_drawStep : { f // f = @Go.Proofs.YtcjidlgmbjebjaaDoor.Ev.drawStep } := ⟨_, by delta Go.Proofs.YtcjidlgmbjebjaaDoor.Ev.drawStep Go.Proofs.YtcjidlgmbjebjaaDoor.Ev.stepOp.match_1 Option.casesOn Go.Proofs.YtcjidlgmbjebjaaDoor.Ev.stands.match_1 Bool.casesOn Go.Proofs.YtcjidlgmbjebjaaDoor.Ev.convertR.match_5 Go.Proofs.YtcjidlgmbjebjaaDoor.Ev.enterV.match_1 Option.bind Option.bind.match_1; simp only [R_wantedV_eq, R_drawQuiet_eq, R_kindOp_eq, R_readOp_eq, R_allocOp_eq, R_drawAct_eq]; rfl⟩
def R_drawStep := W_drawStep.1
theorem R_drawStep_eq : @Go.Proofs.YtcjidlgmbjebjaaDoor.Ev.drawStep = R_drawStep := W_drawStep.2.symm

def R_drawRun (E : Env) (rec_ : Rec) (q : K) (ops : List Oper) (l : List Stp) : DSt → Option DSt :=
  List.rec (motive := fun _ => DSt → Option DSt) (fun st => some st) (fun p _ ih st => Option.rec (motive := fun _ => Option DSt) none (fun st1 => ih st1) (R_drawStep E rec_ q ops st p)) l
theorem R_drawRun_eq : @drawRun = R_drawRun := by
  funext E rec_ q ops l
  induction l with
  | nil => rfl
  | cons p r ih =>
    funext st
    rw [drawRun, R_drawStep_eq, ih]
    kernel_rfl

def W_drawV : { f // f = @Go.Proofs.YtcjidlgmbjebjaaDoor.Ev.drawV } := ⟨_, by delta Go.Proofs.YtcjidlgmbjebjaaDoor.Ev.drawV Option.bind Option.bind.match_1 Option.casesOn; simp only [R_planOf_eq, R_drawRun_eq]; rfl⟩
def R_drawV := W_drawV.1
theorem R_drawV_eq : @Go.Proofs.YtcjidlgmbjebjaaDoor.Ev.drawV = R_drawV := W_drawV.2.symm

def W_thenV : { f // f = @Go.Proofs.YtcjidlgmbjebjaaDoor.Ev.thenV } := ⟨_, by delta Go.Proofs.YtcjidlgmbjebjaaDoor.Ev.thenV Go.Proofs.YtcjidlgmbjebjaaDoor.Ev.jumpOf.match_1 Go.Proofs.YtcjidlgmbjebjaaDoor.Ev.X.casesOn; rfl⟩
def R_thenV := W_thenV.1
theorem R_thenV_eq : @Go.Proofs.YtcjidlgmbjebjaaDoor.Ev.thenV = R_thenV := W_thenV.2.symm

def W_enterLoopV : { f // f = @Go.Proofs.YtcjidlgmbjebjaaDoor.Ev.enterLoopV } := ⟨_, by delta Go.Proofs.YtcjidlgmbjebjaaDoor.Ev.enterLoopV Option.casesOn Go.Proofs.YtcjidlgmbjebjaaDoor.Ev.constV.match_3 Option.bind Option.bind.match_1; simp only [R_loopAt_eq]; rfl⟩
def R_enterLoopV := W_enterLoopV.1
theorem R_enterLoopV_eq : @Go.Proofs.YtcjidlgmbjebjaaDoor.Ev.enterLoopV = R_enterLoopV := W_enterLoopV.2.symm

def W_notBusy : { f // f = @Go.Proofs.YtcjidlgmbjebjaaDoor.Ev.notBusy } := ⟨_, by delta Go.Proofs.YtcjidlgmbjebjaaDoor.Ev.notBusy Go.Proofs.YtcjidlgmbjebjaaDoor.Ev.notBusy.match_1 Go.Proofs.YtcjidlgmbjebjaaDoor.Ev.notBusy._sparseCasesOn_1; rfl⟩
def R_notBusy := W_notBusy.1
theorem R_notBusy_eq : @Go.Proofs.YtcjidlgmbjebjaaDoor.Ev.notBusy = R_notBusy := W_notBusy.2.symm

def W_rangeFuncV : { f // f = @Go.Proofs.YtcjidlgmbjebjaaDoor.Ev.rangeFuncV } := ⟨_, by delta Go.Proofs.YtcjidlgmbjebjaaDoor.Ev.rangeFuncV Option.casesOn Go.Proofs.YtcjidlgmbjebjaaDoor.Ev.rangeFuncV.match_1 Bool.casesOn Go.Proofs.YtcjidlgmbjebjaaDoor.Ev.convertR.match_5 Go.Proofs.YtcjidlgmbjebjaaDoor.Ev.rangeFuncV._sparseCasesOn_1 Go.Proofs.YtcjidlgmbjebjaaDoor.Ev.runRound.match_1 Option.bind Option.bind.match_1; simp only [R_valO_eq, R_enterLoopV_eq, R_callValueV_eq, R_runCall_eq, R_loopAt_eq, R_notBusy_eq]; rfl⟩
def R_rangeFuncV := W_rangeFuncV.1
theorem R_rangeFuncV_eq : @Go.Proofs.YtcjidlgmbjebjaaDoor.Ev.rangeFuncV = R_rangeFuncV := W_rangeFuncV.2.symm

def W_codeQ : { f // f = @Go.Proofs.YtcjidlgmbjebjaaDoor.Ev.codeQ } := ⟨_, by delta Go.Proofs.YtcjidlgmbjebjaaDoor.Ev.codeQ Go.Proofs.YtcjidlgmbjebjaaDoor.Ev.codeQ.match_2 Go.Proofs.YtcjidlgmbjebjaaDoor.Ev.valQ.match_1 Go.Proofs.YtcjidlgmbjebjaaDoor.Ev.runQ.match_2 Bool.casesOn Go.Proofs.YtcjidlgmbjebjaaDoor.Ev.codeQ._sparseCasesOn_1 Go.Proofs.YtcjidlgmbjebjaaDoor.Ev.readQ._sparseCasesOn_1 Go.Code.casesOn Go.Proofs.YtcjidlgmbjebjaaDoor.Ev.codeQ.match_1 Go.Proofs.YtcjidlgmbjebjaaDoor.Ev.readQ.match_1 Option.bind Option.bind.match_1 Option.casesOn; simp only [R_runQ_eq, R_drawV_eq, R_runCode_eq, R_thenV_eq, R_valQ_eq, R_rangeFuncV_eq]; rfl⟩
def R_codeQ := W_codeQ.1
theorem R_codeQ_eq : @Go.Proofs.YtcjidlgmbjebjaaDoor.Ev.codeQ = R_codeQ := W_codeQ.2.symm

def W_withinV : { f // f = @Go.Proofs.YtcjidlgmbjebjaaDoor.Ev.withinV } := ⟨_, by delta Go.Proofs.YtcjidlgmbjebjaaDoor.Ev.withinV Go.Proofs.YtcjidlgmbjebjaaDoor.Ev.withinV.match_1 Option.casesOn Go.Proofs.YtcjidlgmbjebjaaDoor.Ev.enterV.match_2 Go.Proofs.YtcjidlgmbjebjaaDoor.Ev.X.casesOn Option.bind Option.bind.match_1; simp only [R_runCode_eq]; rfl⟩
def R_withinV := W_withinV.1
theorem R_withinV_eq : @Go.Proofs.YtcjidlgmbjebjaaDoor.Ev.withinV = R_withinV := W_withinV.2.symm

def W_resultV : { f // f = @Go.Proofs.YtcjidlgmbjebjaaDoor.Ev.resultV } := ⟨_, by delta Go.Proofs.YtcjidlgmbjebjaaDoor.Ev.resultV Go.Proofs.YtcjidlgmbjebjaaDoor.Ev.readOp._sparseCasesOn_2 Go.Proofs.YtcjidlgmbjebjaaDoor.Ev.resultV.match_1 Go.ResultVar.casesOn Go.Proofs.YtcjidlgmbjebjaaDoor.Ev.readOp.match_2 Option.getD Option.getD.match_1 Option.casesOn Option.bind Option.bind.match_1; simp only [R_loadVar_eq]; rfl⟩
def R_resultV := W_resultV.1
theorem R_resultV_eq : @Go.Proofs.YtcjidlgmbjebjaaDoor.Ev.resultV = R_resultV := W_resultV.2.symm

def R_resultsL (E : Env) (H : Heap) (tm : T V) (l : List ResultVar) : Option (List V) :=
  List.rec (motive := fun _ => Option (List V)) (some []) (fun x _ ih => Option.rec (motive := fun _ => Option (List V)) none (fun v => Option.rec (motive := fun _ => Option (List V)) none (fun l => some (v :: l)) ih) (R_resultV E H tm x)) l
theorem R_resultsL_eq : @resultsL = R_resultsL := by
  funext E H tm l
  induction l with
  | nil => rfl
  | cons x r ih =>
    rw [resultsL, ih, R_resultV_eq]
    kernel_rfl

def W_resultsV : { f // f = @Go.Proofs.YtcjidlgmbjebjaaDoor.Ev.resultsV } := ⟨_, by delta Go.Proofs.YtcjidlgmbjebjaaDoor.Ev.resultsV Go.Proofs.YtcjidlgmbjebjaaDoor.Ev.readB._sparseCasesOn_1 Go.Proofs.YtcjidlgmbjebjaaDoor.Ev.readB.match_1 Go.Proofs.YtcjidlgmbjebjaaDoor.Ev.readB._sparseCasesOn_2 Option.bind Option.bind.match_1 Option.casesOn; simp only [R_resultsL_eq]; rfl⟩
def R_resultsV := W_resultsV.1
theorem R_resultsV_eq : @Go.Proofs.YtcjidlgmbjebjaaDoor.Ev.resultsV = R_resultsV := W_resultsV.2.symm

def W_callV : { f // f = @Go.Proofs.YtcjidlgmbjebjaaDoor.Ev.callV } := ⟨_, by delta Go.Proofs.YtcjidlgmbjebjaaDoor.Ev.callV Bool.casesOn Go.Proofs.YtcjidlgmbjebjaaDoor.Ev.convertR.match_5 Go.Proofs.YtcjidlgmbjebjaaDoor.Ev.callV._sparseCasesOn_1 Go.Proofs.YtcjidlgmbjebjaaDoor.Ev.callV.match_1 Option.bind Option.bind.match_1 Option.casesOn; simp only [R_runCode_eq]; rfl⟩
def R_callV := W_callV.1
theorem R_callV_eq : @Go.Proofs.YtcjidlgmbjebjaaDoor.Ev.callV = R_callV := W_callV.2.symm

def W_stepEQ : { f // f = @Go.Proofs.YtcjidlgmbjebjaaDoor.Ev.stepEQ } := ⟨_, by delta Go.Proofs.YtcjidlgmbjebjaaDoor.Ev.stepEQ Go.Proofs.YtcjidlgmbjebjaaDoor.Ev.Task.casesOn Go.Proofs.YtcjidlgmbjebjaaDoor.Ev.stepEQ.match_1 Option.bind Option.bind.match_1 Option.casesOn; simp only [R_codeQ_eq, R_runCode_eq, R_thenV_eq, R_withinV_eq, R_callV_eq]; rfl⟩
def R_stepEQ := W_stepEQ.1
theorem R_stepEQ_eq : @Go.Proofs.YtcjidlgmbjebjaaDoor.Ev.stepEQ = R_stepEQ := W_stepEQ.2.symm

def R_stepOp (E : Env) (H : Heap) (tm : T V) (op : Op) : Option NX := R_stepQ E H tm op
theorem R_stepOp_eq : @stepOp = R_stepOp := by funext E H tm op; rw [← stepQ_eq, R_stepQ_eq]; rfl

def R_evalQ (E : Env) (n : Nat) : Rec := Nat.rec (motive := fun _ => Rec) (fun _ _ => none) (fun _ ih t H => R_stepEQ t E ih H) n
theorem R_evalQ_eq : @evalQ = R_evalQ := by
  funext E n
  induction n with
  | zero => rfl
  | succ n ih =>
    funext t H
    show stepEQ t E (evalQ E n) H = R_stepEQ t E (R_evalQ E n) H
    rw [ih, R_stepEQ_eq]

def W_Mem_f : { f // f = @Go.Proofs.YtcjidlgmbjebjaaDoor.Ev.Mem.f } := ⟨_, by delta Go.Proofs.YtcjidlgmbjebjaaDoor.Ev.Mem.f; rfl⟩
def R_Mem_f := W_Mem_f.1
theorem R_Mem_f_eq : @Go.Proofs.YtcjidlgmbjebjaaDoor.Ev.Mem.f = R_Mem_f := W_Mem_f.2.symm

def W_Mem_args : { f // f = @Go.Proofs.YtcjidlgmbjebjaaDoor.Ev.Mem.args } := ⟨_, by delta Go.Proofs.YtcjidlgmbjebjaaDoor.Ev.Mem.args; rfl⟩
def R_Mem_args := W_Mem_args.1
theorem R_Mem_args_eq : @Go.Proofs.YtcjidlgmbjebjaaDoor.Ev.Mem.args = R_Mem_args := W_Mem_args.2.symm

def W_kEq : { f // f = @Go.Proofs.YtcjidlgmbjebjaaDoor.Ev.kEq } := ⟨_, by delta Go.Proofs.YtcjidlgmbjebjaaDoor.Ev.kEq; rfl⟩
def R_kEq := W_kEq.1
theorem R_kEq_eq : @Go.Proofs.YtcjidlgmbjebjaaDoor.Ev.kEq = R_kEq := W_kEq.2.symm

def W_obEq : { f // f = @Go.Proofs.YtcjidlgmbjebjaaDoor.Ev.obEq } := ⟨_, by delta Go.Proofs.YtcjidlgmbjebjaaDoor.Ev.obEq Go.Proofs.YtcjidlgmbjebjaaDoor.Ev.obEq._sparseCasesOn_5 Go.Proofs.YtcjidlgmbjebjaaDoor.Ev.obEq.match_1 Go.Proofs.YtcjidlgmbjebjaaDoor.Ev.obEq._sparseCasesOn_3 Go.Proofs.YtcjidlgmbjebjaaDoor.Ev.obEq.match_7 Go.Proofs.YtcjidlgmbjebjaaDoor.Ev.obEq.match_4 Go.Proofs.YtcjidlgmbjebjaaDoor.Ev.obEq._sparseCasesOn_4 Go.Proofs.YtcjidlgmbjebjaaDoor.Ev.obEq._sparseCasesOn_1 Go.Proofs.YtcjidlgmbjebjaaDoor.Ev.obEq.match_5 Go.Proofs.YtcjidlgmbjebjaaDoor.Ev.obEq._sparseCasesOn_2 Go.Proofs.YtcjidlgmbjebjaaDoor.Ev.obEq.match_6 Go.Proofs.YtcjidlgmbjebjaaDoor.Ev.Obj.casesOn Go.Proofs.YtcjidlgmbjebjaaDoor.Ev.obEq.match_3 Go.Proofs.YtcjidlgmbjebjaaDoor.Ev.obEq._sparseCasesOn_6 Go.Proofs.YtcjidlgmbjebjaaDoor.Ev.obEq.match_2; simp only [R_cellsEq_eq]; rfl⟩
def R_obEq := W_obEq.1
theorem R_obEq_eq : @Go.Proofs.YtcjidlgmbjebjaaDoor.Ev.obEq = R_obEq := W_obEq.2.symm

def W_oobEq : { f // f = @Go.Proofs.YtcjidlgmbjebjaaDoor.Ev.oobEq } := ⟨_, by delta Go.Proofs.YtcjidlgmbjebjaaDoor.Ev.oobEq Option.casesOn Go.Proofs.YtcjidlgmbjebjaaDoor.Ev.oobEq.match_1; simp only [R_obEq_eq]; rfl⟩
def R_oobEq := W_oobEq.1
theorem R_oobEq_eq : @Go.Proofs.YtcjidlgmbjebjaaDoor.Ev.oobEq = R_oobEq := W_oobEq.2.symm

def W_heapEq : { f // f = @Go.Proofs.YtcjidlgmbjebjaaDoor.Ev.heapEq } := ⟨_, by delta Go.Proofs.YtcjidlgmbjebjaaDoor.Ev.heapEq; rfl⟩
def R_heapEq := W_heapEq.1
theorem R_heapEq_eq : @Go.Proofs.YtcjidlgmbjebjaaDoor.Ev.heapEq = R_heapEq := W_heapEq.2.symm

def W_Mem_H : { f // f = @Go.Proofs.YtcjidlgmbjebjaaDoor.Ev.Mem.H } := ⟨_, by delta Go.Proofs.YtcjidlgmbjebjaaDoor.Ev.Mem.H; rfl⟩
def R_Mem_H := W_Mem_H.1
theorem R_Mem_H_eq : @Go.Proofs.YtcjidlgmbjebjaaDoor.Ev.Mem.H = R_Mem_H := W_Mem_H.2.symm

def W_Mem_v : { f // f = @Go.Proofs.YtcjidlgmbjebjaaDoor.Ev.Mem.v } := ⟨_, by delta Go.Proofs.YtcjidlgmbjebjaaDoor.Ev.Mem.v; rfl⟩
def R_Mem_v := W_Mem_v.1
theorem R_Mem_v_eq : @Go.Proofs.YtcjidlgmbjebjaaDoor.Ev.Mem.v = R_Mem_v := W_Mem_v.2.symm

def W_Mem_H' : { f // f = @Go.Proofs.YtcjidlgmbjebjaaDoor.Ev.Mem.H' } := ⟨_, by delta Go.Proofs.YtcjidlgmbjebjaaDoor.Ev.Mem.H'; rfl⟩
def R_Mem_H' := W_Mem_H'.1
theorem R_Mem_H'_eq : @Go.Proofs.YtcjidlgmbjebjaaDoor.Ev.Mem.H' = R_Mem_H' := W_Mem_H'.2.symm

def W_stepM : { f // f = @Go.Proofs.YtcjidlgmbjebjaaDoor.Ev.stepM } := ⟨_, by delta Go.Proofs.YtcjidlgmbjebjaaDoor.Ev.stepM Go.Proofs.YtcjidlgmbjebjaaDoor.Ev.stepM.match_1 Go.Proofs.YtcjidlgmbjebjaaDoor.Ev.Task.casesOn Option.casesOn Go.Proofs.YtcjidlgmbjebjaaDoor.Ev.valQ.match_1 Bool.casesOn Go.Proofs.YtcjidlgmbjebjaaDoor.Ev.stepEQ.match_1 Option.bind Option.bind.match_1; simp only [R_codeQ_eq, R_runCode_eq, R_thenV_eq, R_withinV_eq, R_callV_eq]; rfl⟩
def R_stepM := W_stepM.1
theorem R_stepM_eq : @Go.Proofs.YtcjidlgmbjebjaaDoor.Ev.stepM = R_stepM := W_stepM.2.symm

def R_evalM (ms : List Mem) (E : Env) (n : Nat) : Rec := Nat.rec (motive := fun _ => Rec) (fun _ _ => none) (fun _ ih t H => R_stepM ms t E ih H) n
theorem R_evalM_eq : @evalM = R_evalM := by
  funext ms E n
  induction n with
  | zero => rfl
  | succ n ih =>
    funext t H
    show stepM ms t E (evalM ms E n) H = R_stepM ms t E (R_evalM ms E n) H
    rw [ih, R_stepM_eq]

end
end Go.Proofs.YtcjidlgmbjebjaaDoor.Ev

/- Package-level variables that hold a row of texts. -/
namespace Go.Proofs.YtcjidlgmbjebjaaDoor.Ev
open Go Go.RowKit
noncomputable section
def txt (b : List UInt8) : ByteArray := ⟨⟨b⟩⟩
/-- A laid table of texts. -/
theorem tab_strs {H : Type} {enc : TypeId × Value → H} {P : Program} {w : World} {base : Nat} {sp : Nat → Bool} {held : Bool} {fuel : Nat} {t e n : Nat} {cs : List Value} {zs : List (List UInt8)} {ps : List MemPlace}
    (ht : P.underlying t = some (.array n e)) (he : P.underlying e = some .string) (hc : P.cellsOf e = 1) (hC : P.cellsOf t = n)
    (h : DataW.trod enc P w base sp held fuel t cs = some (.agg (zs.map fun z => .lit (.string z)), ps)) : cs = zs.map (fun z => Value.string (txt z)) := by
  obtain ⟨xs, m, rfl, hx, hl, hn, hi⟩ := DataW.trod_array ht h
  simp only [Prod.mk.injEq, DataW.agg.injEq] at hx
  obtain ⟨hx, _⟩ := hx
  have hlen : zs.length = n := by
    have := congrArg List.length hx
    simp at this
    omega
  apply List.ext_getElem?
  intro i
  by_cases hin : i < n
  · have h1 := hi i hin
    rw [hc, Nat.mul_one] at h1
    have hci : i < cs.length := by omega
    have h2 : (cs.drop i).take 1 = [cs[i]] := by
      rw [List.drop_eq_getElem_cons hci, List.take_succ_cons, List.take_zero]
    rw [h2] at h1
    obtain ⟨y, hy⟩ : ∃ y, xs[i]? = some y := ⟨_, List.getElem?_eq_getElem (by omega)⟩
    rw [hy] at h1
    have h3 : (zs.map fun z => (DataW.lit (.string z) : DataW H))[i]? = (xs.map (·.1))[i]? := by rw [hx]
    rw [List.getElem?_map, List.getElem?_map, hy] at h3
    have hzi : i < zs.length := by omega
    rw [List.getElem?_eq_getElem hzi] at h3
    simp only [Option.map_some, Option.some.injEq] at h3
    rw [List.getElem?_eq_getElem hci, List.getElem?_map, List.getElem?_eq_getElem hzi]
    obtain ⟨s, hs, hy2, _⟩ := DataW.trod_string he h1
    simp only [List.cons.injEq, and_true] at hs
    rw [hs]
    rw [hy2] at h3
    simp only [DataW.lit.injEq, Lit.string.injEq] at h3
    simp only [Option.map_some]
    rw [h3]
    rfl
  · rw [List.getElem?_eq_none (by omega), List.getElem?_eq_none (by rw [List.length_map]; omega)]
def strV (b : List UInt8) : V := .str b.length (packBytes b)
theorem VRs_strs : ∀ zs : List (List UInt8), VRs (fun _ => none) (zs.map strV) (zs.map fun z => Value.string (txt z))
  | [] => .nil
  | z :: r => .cons (VR.str (txt z)) (VRs_strs r)
/-- Out of the variable's cells. -/
theorem GlobOk.strs {E : Env} {P : Program} {W : World} {name : String} {g : Nat} {zs : List (List UInt8)} {cs : Array Value} (hg : P.globalNamed name = some g) (hv : W.var? P name = some cs) (hcs : cs.toList = zs.map (fun z => Value.string (txt z)))
    {x : Glob} (hx : x.cells.toList = zs.map strV) (hsz : E.size x.elem = some x.esz) : GlobOk E W g x := by
  refine ⟨hsz, ?_, zs.map (fun z => Value.string (txt z)), by rw [hx]; exact VRs_strs zs, ?_, ?_⟩
  · unfold World.var? at hv
    rw [hg] at hv
    simp only [Option.bind_some] at hv
    cases hh : W.heap[g]? with
    | none => rw [hh] at hv; cases hv
    | some o => exact (Array.getElem?_eq_some_iff.1 hh).1
  · intro v hv
    obtain ⟨z, _, rfl⟩ := List.mem_map.1 hv
    rfl
  · intro i v hi
    rw [World.var?_cell hg hv i, ← Array.getElem?_toList, hcs]
    exact hi
end
end Go.Proofs.YtcjidlgmbjebjaaDoor.Ev

/- From a walk's frame to the evaluator: small laws. -/
namespace Go.Proofs.YtcjidlgmbjebjaaDoor.Ev
open Go Go.RowKit
noncomputable section
theorem GlobOk.row {E : Env} {φ : Pm} {W : World} {g : Nat} {x : Glob} (h : GlobOk E W g x) : RoRow E φ W ⟨g, 0, x.cells.toList.length, x.cells.toList.length, x.esz, false, true, none⟩ x := by
  obtain ⟨h1, hblk, l', h2, h3, h4⟩ := h
  refine ⟨⟨g, 0, rfl⟩, h1, hblk, fun i v hv => ?_⟩
  obtain ⟨v', hv', hvr⟩ := h2.get hv
  exact ⟨v', by rw [Nat.zero_add]; exact h4 i v' hv', hvr.mono (Le.none _), h3 v' (List.mem_of_getElem? hv')⟩
theorem Told.append {φ : Pm} : ∀ {a : List (Option V)} {a' : List Value} {b : List (Option V)} {b' : List Value}, Told φ a a' → Told φ b b' → Told φ (a ++ b) (a' ++ b')
  | _, _, _, _, .nil, h => h
  | _, _, _, _, .skip h1, h => .skip (h1.append h)
  | _, _, _, _, .cons v h1, h => .cons v (h1.append h)
theorem Told.replicate {φ : Pm} : ∀ n, Told φ (List.replicate n none) (List.replicate n undef)
  | 0 => .nil
  | n + 1 => .skip (Told.replicate n)
theorem var_later {P : Program} {W w1 : World} {nm : String} {cs : Array Value} (hb : Below W.heap.size W w1) (h : W.var? P nm = some cs) : w1.var? P nm = some cs := by
  unfold World.var? at h ⊢
  cases hg : P.globalNamed nm with
  | none => rw [hg] at h; cases h
  | some g =>
    rw [hg] at h
    simp only [Option.bind_some] at h ⊢
    cases hh : W.heap[g]? with
    | none => rw [hh] at h; cases h
    | some o =>
      rw [hb.block g (Array.getElem?_eq_some_iff.1 hh).1]
      exact h
def parP (v : Value) : Pl := ⟨0, 0, 0, 0, 0, false, true, some v⟩
theorem of_allOne {l : List V} (h : allOne l = true) : ∀ v ∈ l, v.one = true := (allOne_iff l).1 h
theorem cells_of {φ : Pm} {W : World} {b t n : Nat} {l : List V} {l' : List Value} (h : VRs φ l l') (h1 : ∀ v ∈ l', v.oneCell' = true) (hc : ∀ (j : Nat) (v : Value), l'[j]? = some v → W.cell? ⟨b, j, none⟩ = some v) :
    ∀ (i : Nat) (v : V), (Glob.mk t n (.vals l)).cells.toList[i]? = some v → ∃ v', W.cell? ⟨b, 0 + i, none⟩ = some v' ∧ VR φ v v' ∧ v'.oneCell' = true := fun i v hv => by
  obtain ⟨v', hv', hvr⟩ := h.get hv
  exact ⟨v', by rw [Nat.zero_add]; exact hc i v' hv', hvr, h1 v' (List.mem_of_getElem? hv')⟩
def T.bound {α : Type} : T α → Nat
  | .e => 0
  | .n l v r =>
    match v with
    | some _ => 1 + 2 * l.bound + 2 * r.bound
    | none => 2 * l.bound + 2 * r.bound + (match r.bound with | 0 => 0 | _ + 1 => 1)
theorem T.get_bound {α : Type} {o : α} : ∀ {t : T α} {k : Nat}, t.get k = some o → k < t.bound
  | .e, k, h => by rw [T.get_e] at h; cases h
  | .n l v r, k, h => by
    rw [T.get_n] at h
    by_cases hk : k = 0
    · rw [if_pos hk] at h
      subst h hk
      simp only [T.bound]; omega
    · rw [if_neg hk] at h
      split at h
      · have := T.get_bound h
        simp only [T.bound]
        cases v <;> simp only <;> omega
      · have := T.get_bound h
        simp only [T.bound]
        cases v with
        | some _ => simp only; omega
        | none =>
          cases hb : r.bound with
          | zero => omega
          | succ m => simp only; omega
theorem get_lt {α : Type} {t : T α} {n k : Nat} {o : α} (hb : Nat.ble t.bound n = true) (h : t.get k = some o) : k < n := Nat.lt_of_lt_of_le (T.get_bound h) (of_ble_t hb)
end
end Go.Proofs.YtcjidlgmbjebjaaDoor.Ev
