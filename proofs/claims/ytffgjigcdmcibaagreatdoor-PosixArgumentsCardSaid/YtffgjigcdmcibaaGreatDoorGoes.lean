/- What is proved here: no function of the program starts a goroutine (looked at function by function), so the card's cell on goroutines is as the row says. No conditions. -/
import Derived.Test.YtffgjigcdmcibaaGreatDoorRows
import Derived.ProofKit
import GoSem.ClaimGoes
import Derived.KernelRfl
set_option maxRecDepth 100000
namespace Go.Proofs.YtffgjigcdmcibaaGreatDoor
open Go
theorem all_cut {α : Type} (p : α → Bool) (l : List α) (a n : Nat) (h1 : ((l.drop a).take n).all p = true) (h2 : (l.drop (a + n)).all p = true) : (l.drop a).all p = true := by
  rw [← List.take_append_drop n (l.drop a), List.all_append, h1, List.drop_drop, h2]; rfl
theorem goes_some {P : Program} (h : P.funcs.toList.all (fun f => !f.goes) = true) (g : FuncId) : (P.funcs[g]?).any Func.goes = false := by
  cases hg : P.funcs[g]? with
  | none => rfl
  | some fn =>
    have hm : fn ∈ P.funcs.toList := by
      obtain ⟨h1, h2⟩ := Array.getElem?_eq_some_iff.1 hg
      rw [← h2]; exact Array.getElem_mem_toList h1
    have := List.all_eq_true.1 h fn hm
    show fn.goes = false
    simpa using this
theorem goes_false {P : Program} (h : P.funcs.toList.all (fun f => !f.goes) = true) (f : FuncId) : P.goes f = false := by
  unfold Program.goes
  have e1 : (fun g => (P.funcs[g]?).any Func.goes) = fun _ => false := funext fun g => goes_some h g
  have e2 : P.funcs.any Func.goes = false := by
    rw [← Array.any_toList, List.any_eq_false]
    intro fn hm
    have := List.all_eq_true.1 h fn hm
    simpa using this
  rw [e1, e2]
  simp
theorem gz0 : ((Tryz.prog.funcs.toList.drop 0).take 60).all (fun f => !f.goes) = true := by kernel_rfl
theorem gz1 : ((Tryz.prog.funcs.toList.drop 60).take 60).all (fun f => !f.goes) = true := by kernel_rfl
theorem gz2 : ((Tryz.prog.funcs.toList.drop 120).take 60).all (fun f => !f.goes) = true := by kernel_rfl
theorem gz3 : ((Tryz.prog.funcs.toList.drop 180).take 60).all (fun f => !f.goes) = true := by kernel_rfl
theorem gz4 : ((Tryz.prog.funcs.toList.drop 240).take 60).all (fun f => !f.goes) = true := by kernel_rfl
theorem gz5 : ((Tryz.prog.funcs.toList.drop 300).take 60).all (fun f => !f.goes) = true := by kernel_rfl
theorem gz6 : ((Tryz.prog.funcs.toList.drop 360).take 60).all (fun f => !f.goes) = true := by kernel_rfl
theorem gz7 : ((Tryz.prog.funcs.toList.drop 420).take 60).all (fun f => !f.goes) = true := by kernel_rfl
theorem gz8 : ((Tryz.prog.funcs.toList.drop 480).take 60).all (fun f => !f.goes) = true := by kernel_rfl
theorem gz9 : ((Tryz.prog.funcs.toList.drop 540).take 60).all (fun f => !f.goes) = true := by kernel_rfl
theorem gzE : (Tryz.prog.funcs.toList.drop 600).all (fun f => !f.goes) = true := by kernel_rfl
theorem goes_all : Tryz.prog.funcs.toList.all (fun f => !f.goes) = true := (all_cut _ _ 0 60 gz0 (all_cut _ _ 60 60 gz1 (all_cut _ _ 120 60 gz2 (all_cut _ _ 180 60 gz3 (all_cut _ _ 240 60 gz4 (all_cut _ _ 300 60 gz5 (all_cut _ _ 360 60 gz6 (all_cut _ _ 420 60 gz7 (all_cut _ _ 480 60 gz8 (all_cut _ _ 540 60 gz9 gzE))))))))))
theorem goes_no : false = Rows.posixArgumentsRow.goesBy Tryz.pinned.checked.prog := by
  have h : ∀ f, Program.goes Tryz.prog f = false := goes_false goes_all
  show false = ((Program.funcNamed Tryz.prog Rows.posixArgumentsRow.func).any (Program.goes Tryz.prog) || false)
  have e : Program.goes Tryz.prog = fun _ => false := funext h
  rw [e]
  cases Program.funcNamed Tryz.prog Rows.posixArgumentsRow.func <;> rfl
end Go.Proofs.YtffgjigcdmcibaaGreatDoor
