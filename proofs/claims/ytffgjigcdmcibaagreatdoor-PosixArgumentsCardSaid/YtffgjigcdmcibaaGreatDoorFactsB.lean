/- What is proved here: facts of the program and the row that the kernel computes, each by itself (the shape of the program's types, what the function reaches). No conditions. -/
import Derived.Test.YtffgjigcdmcibaaGreatDoorRows
import Derived.ProofKit
import Derived.JoinedOf
import Derived.KernelRfl
set_option maxRecDepth 100000
namespace Go.Proofs.YtffgjigcdmcibaaGreatDoor
open Go
theorem lcut {α : Type} (p : α → Bool) (l : List α) (a n : Nat) (h1 : ((l.drop a).take n).all p = true) (h2 : (l.drop (a + n)).all p = true) : (l.drop a).all p = true := by
  rw [← List.take_append_drop n (l.drop a), List.all_append, h1, List.drop_drop, h2]; rfl
theorem lz0 : (((List.range Tryz.prog.types.size).drop 0).take 100).all (rowFine Tryz.prog) = true := by kernel_rfl
theorem lz1 : (((List.range Tryz.prog.types.size).drop 100).take 100).all (rowFine Tryz.prog) = true := by kernel_rfl
theorem lz2 : (((List.range Tryz.prog.types.size).drop 200).take 100).all (rowFine Tryz.prog) = true := by kernel_rfl
theorem lz3 : (((List.range Tryz.prog.types.size).drop 300).take 100).all (rowFine Tryz.prog) = true := by kernel_rfl
theorem lz4 : (((List.range Tryz.prog.types.size).drop 400).take 100).all (rowFine Tryz.prog) = true := by kernel_rfl
theorem lz5 : (((List.range Tryz.prog.types.size).drop 500).take 100).all (rowFine Tryz.prog) = true := by kernel_rfl
theorem lz6 : (((List.range Tryz.prog.types.size).drop 600).take 100).all (rowFine Tryz.prog) = true := by kernel_rfl
theorem lz7 : (((List.range Tryz.prog.types.size).drop 700).take 100).all (rowFine Tryz.prog) = true := by kernel_rfl
theorem lzE : ((List.range Tryz.prog.types.size).drop 800).all (rowFine Tryz.prog) = true := by kernel_rfl
theorem lty : (List.range Tryz.prog.types.size).all (rowFine Tryz.prog) = true := (lcut _ _ 0 100 lz0 (lcut _ _ 100 100 lz1 (lcut _ _ 200 100 lz2 (lcut _ _ 300 100 lz3 (lcut _ _ 400 100 lz4 (lcut _ _ 500 100 lz5 (lcut _ _ 600 100 lz6 (lcut _ _ 700 100 lz7 lzE))))))))
theorem lgl : Tryz.prog.globals.all (fun g => decide (g.type < Tryz.prog.types.size)) = true := by kernel_rfl
theorem lfn : Tryz.prog.funcs.all (fun f => f.params.all fun t => decide (t < Tryz.prog.types.size)) = true := by kernel_rfl
theorem j1 : (laidOutB Tryz.prog) = true := by
  unfold laidOutB
  rw [lty, lgl, lfn]
  rfl
theorem j9 : ((Rows.posixArgumentsRow.inPlace == Tryz.prog.inPlace 3)) = true := by kernel_rfl
theorem j17 : ((Rows.posixArgumentsRow.wideKeys == (Tryz.f3.params.toList ++ Rows.posixArgumentsSpec.plain.varTypes Tryz.prog ++ Tryz.f3.resultTypes.toList).any (Tryz.prog.wideKeysFrom ·))) = true := by kernel_rfl
theorem j25 : (Tryz.prog.mayEnter) = true := by kernel_rfl
end Go.Proofs.YtffgjigcdmcibaaGreatDoor
