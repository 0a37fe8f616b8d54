import Derived.Test.YtcdnmnipaaooiaaProg
import Derived.Test.YtcdnmnipaaooiaaKitA
import Derived.KernelRfl
import Derived.Test.YtcdnmnipaaooiaaChecked
import Derived.Conc.WgGenN3
import Derived.Conc.CompanyDraw
import Derived.Conc.CompanyWords
-- Written by a program of this session (wip/tools/pack.py): texts of this seat laid one behind the other, without what the claim does not reach
section
namespace Go.Proofs
open Go.Tw
noncomputable def Twin.goodL (s l : Nat) : Code := (.seq (.region 4 #[{ dst := some 10, op := .binOp .lss 3 (.tmp 11) (.tmp l) 3, type := 0, pos := "", after := #[], guard := none }] false) (.seq (.cond (.tmp 10) .skip (.exit 0)) (.region 5 #[{ dst := some 12, op := .indexAddr 23 (.tmp s) (.tmp 11), type := 0, pos := "", after := #[], guard := none }, { dst := some 13, op := .load 3 (.tmp 12), type := 0, pos := "", after := #[], guard := none }, { dst := some 14, op := .binOp .lss 3 (.tmp 13) (.const (.int .i64 0)) 3, type := 0, pos := "", after := #[], guard := none }, { dst := some 11, op := .binOp .add 3 (.tmp 11) (.const (.int .i64 1)) 3, type := 0, pos := "", after := #[], guard := none }] false)))
noncomputable def Twin.good : Code := (.seq (.region 0 #[{ dst := some 2, op := .call { callee := .builtin .len, args := #[(.tmp 0)], argTypes := #[23] }, type := 0, pos := "", after := #[], guard := none }, { dst := some 3, op := .call { callee := .builtin .len, args := #[(.tmp 1)], argTypes := #[23] }, type := 0, pos := "", after := #[], guard := none }] false) (.seq (.region 1 #[{ dst := some 10, op := .binOp .leq 3 (.tmp 2) (.const (.int .i64 9223372036854775807)) 3, type := 0, pos := "", after := #[], guard := none }] false) (.seq (.cond (.tmp 10) .skip (.refuse "n")) (.seq (.region 2 #[{ dst := some 10, op := .binOp .leq 3 (.tmp 3) (.const (.int .i64 9223372036854775807)) 3, type := 0, pos := "", after := #[], guard := none }] false) (.seq (.cond (.tmp 10) .skip (.refuse "n")) (.seq (.region 3 #[{ dst := some 11, op := .move (.const (.int .i64 0)), type := 0, pos := "", after := #[], guard := none }] false) (.seq (.block 0 (.loop (Twin.goodL 0 2))) (.seq (.region 6 #[{ dst := some 11, op := .move (.const (.int .i64 0)), type := 0, pos := "", after := #[], guard := none }] false) (.block 0 (.loop (Twin.goodL 1 3)))))))))))
noncomputable def Twin.coreB (f : Nat) : Code := (.seq (.region 12 #[{ dst := some 10, op := .binOp .lss 3 (.tmp 21) (.tmp 2) 3, type := 0, pos := "", after := #[], guard := none }] false) (.seq (.cond (.tmp 10) .skip (.exit 1)) (.region 13 #[{ dst := some 22, op := .makeMap 0 none, type := 0, pos := "", after := #[], guard := none }, { dst := some 23, op := .indexAddr 23 (.tmp 0) (.tmp 21), type := 0, pos := "", after := #[], guard := none }, { dst := some 24, op := .load 3 (.tmp 23), type := 0, pos := "", after := #[], guard := none }, { dst := some 25, op := .indexAddr 23 (.tmp 1) (.tmp 21), type := 0, pos := "", after := #[], guard := none }, { dst := some 26, op := .load 3 (.tmp 25), type := 0, pos := "", after := #[], guard := none }, { dst := some 27, op := .call { callee := .value (.func f), args := #[(.tmp 24), (.tmp 26)], argTypes := #[48, 48] }, type := 0, pos := "", after := #[], guard := none }, { dst := some 28, op := .indexAddr 23 (.tmp 18) (.tmp 21), type := 0, pos := "", after := #[], guard := none }, { dst := none, op := .store 3 (.tmp 28) (.tmp 27), type := 0, pos := "", after := #[], guard := none }, { dst := some 21, op := .binOp .add 3 (.tmp 21) (.const (.int .i64 1)) 3, type := 0, pos := "", after := #[], guard := none }] false)))
noncomputable def Twin.coreC (f : Nat) : Code := (.seq (.region 11 #[{ dst := some 18, op := .makeSlice 23 (.tmp 2) (.tmp 2), type := 0, pos := "", after := #[], guard := none }, { dst := some 19, op := .alloc 23, type := 0, pos := "", after := #[], guard := none }, { dst := none, op := .store 23 (.tmp 19) (.tmp 18), type := 0, pos := "", after := #[], guard := none }, { dst := some 20, op := .makeMap 0 none, type := 0, pos := "", after := #[], guard := none }, { dst := some 21, op := .move (.const (.int .i64 0)), type := 0, pos := "", after := #[], guard := none }] false) (.seq (.block 1 (.loop (Twin.coreB f))) (.region 14 #[{ dst := some 29, op := .assign (.tmp 18), type := 0, pos := "", after := #[], guard := none }, { dst := some 30, op := .assign (.const (.bool true)), type := 0, pos := "", after := #[], guard := none }] false)))
noncomputable def Twin.core (f : Nat) : Code := .block 5 (.seq (.region 7 #[{ dst := some 4, op := .box 23 (.tmp 0), type := 0, pos := "", after := #[], guard := none }, { dst := some 5, op := .box 23 (.tmp 1), type := 0, pos := "", after := #[], guard := none }, { dst := some 6, op := .box 46 (.func f), type := 0, pos := "", after := #[], guard := none }, { dst := some 29, op := .assign (.const (.slice none 0 0)), type := 0, pos := "", after := #[], guard := none }, { dst := some 30, op := .assign (.const (.bool false)), type := 0, pos := "", after := #[], guard := none }] false) (.seq (.region 8 #[{ dst := some 7, op := .call { callee := .value (.func 31), args := #[(.tmp 0)], argTypes := #[23] }, type := 0, pos := "", after := #[], guard := none }] false) (.cond (.tmp 7) (.seq (.region 9 #[{ dst := some 8, op := .call { callee := .value (.func 31), args := #[(.tmp 1)], argTypes := #[23] }, type := 0, pos := "", after := #[], guard := none }] false) (.cond (.tmp 8) (.seq (.region 10 #[{ dst := some 9, op := .binOp .neq 3 (.tmp 2) (.tmp 3) 3, type := 0, pos := "", after := #[], guard := none }] false) (.cond (.tmp 9) (.exit 5) (Twin.coreC f))) (.exit 5))) (.exit 5))))
noncomputable def Twin.dead : Func := { name := "", origin := "", params := #[], resultTypes := #[], nfree := 0, ntmps := 0, results := #[], body := some (.refuse "dead"), norace := false, file := "", endLine := 0, tmpNames := #[] }
noncomputable def Twin.f17 : Func := { name := "wrap17", origin := "", params := #[23, 23], resultTypes := #[23, 4], nfree := 0, ntmps := 31, results := #[.tmp 29, .tmp 30], body := some (.seq Twin.good (.seq (Twin.core 47) .ret)), norace := false, file := "", endLine := 0, tmpNames := #[] }
noncomputable def Twin.f21 : Func := { name := "wrap21", origin := "", params := #[23, 23], resultTypes := #[23, 4], nfree := 0, ntmps := 31, results := #[.tmp 29, .tmp 30], body := some (.seq Twin.good (.seq (Twin.core 47) .ret)), norace := false, file := "", endLine := 0, tmpNames := #[] }
noncomputable def Twin.f24 : Func := { name := "wrap24", origin := "", params := #[23, 23], resultTypes := #[23, 4], nfree := 0, ntmps := 31, results := #[.tmp 29, .tmp 30], body := some (.seq Twin.good (.seq (Twin.core 49) .ret)), norace := false, file := "", endLine := 0, tmpNames := #[] }
noncomputable def Twin.f20 : Func := { name := "wrap20", origin := "", params := #[23, 23], resultTypes := #[23, 23, 4], nfree := 0, ntmps := 35, results := #[.tmp 31, .tmp 32, .tmp 33], body := some (.seq (.region 20 #[{ dst := some 31, op := .assign (.const (.slice none 0 0)), type := 0, pos := "", after := #[], guard := none }, { dst := some 32, op := .assign (.const (.slice none 0 0)), type := 0, pos := "", after := #[], guard := none }, { dst := some 33, op := .assign (.const (.bool false)), type := 0, pos := "", after := #[], guard := none }] false) (.seq Twin.good (.seq (Twin.core 49) (.cond (.tmp 30) (.seq (.region 21 #[{ dst := some 34, op := .assign (.tmp 29), type := 0, pos := "", after := #[], guard := none }] false) (.seq (Twin.core 50) (.seq (.region 22 #[{ dst := some 31, op := .assign (.tmp 34), type := 0, pos := "", after := #[], guard := none }, { dst := some 32, op := .assign (.tmp 29), type := 0, pos := "", after := #[], guard := none }, { dst := some 33, op := .assign (.const (.bool true)), type := 0, pos := "", after := #[], guard := none }] false) .ret))) .ret)))), norace := false, file := "", endLine := 0, tmpNames := #[] }
noncomputable def Twin.funcs : Array Func := #[Twin.dead, Twin.dead, Try.f2, Try.f3, Try.f4, Try.f5, Try.f6, Try.f7, Try.f8, Try.f9, Try.f10, Try.f11, Try.f12, Try.f13, Try.f14, Try.f15, Try.f16, Twin.f17, Try.f18, Try.f19, Twin.f20, Twin.f21, Try.f22, Try.f23, Twin.f24, Try.f25, Try.f26, Try.f27, Try.f28, Try.f29, Try.f30, Try.f31, Try.f32, Try.f33, Try.f34, Try.f35, Try.f36, Try.f37, Try.f38, Try.f39, Try.f40, Try.f41, Try.f42, Try.f43, Try.f44, Try.f45, Twin.dead, Try.f47, Try.f48, Try.f49, Try.f50, Try.f51, Try.f52, Try.f53, Try.f54, Try.f55, Try.f56, Try.f57, Try.f58, Try.f59, Try.f60, Try.f61, Try.f62, Try.f63, Try.f64, Try.f65, Try.f66, Try.f67, Twin.dead, Twin.dead, Twin.dead, Twin.dead, Try.f72, Try.f73, Try.f74, Try.f75, Try.f76, Try.f77, Try.f78, Try.f79, Try.f80, Try.f81, Try.f82, Try.f83, Twin.dead, Twin.dead, Twin.dead, Twin.dead, Twin.dead, Twin.dead, Try.f90, Try.f91, Twin.dead, Try.f93, Try.f94, Twin.dead, Twin.dead, Twin.dead, Twin.dead, Try.f99, Twin.dead, Twin.dead, Try.f102, Twin.dead, Twin.dead, Twin.dead, Twin.dead, Twin.dead, Twin.dead, Twin.dead, Twin.dead, Twin.dead, Twin.dead, Twin.dead, Twin.dead, Twin.dead, Twin.dead, Twin.dead, Twin.dead, Twin.dead, Twin.dead, Twin.dead, Twin.dead, Try.f123, Twin.dead, Try.f125, Try.f126, Twin.dead, Try.f128, Try.f129, Twin.dead, Try.f131, Twin.dead]
noncomputable def Twin.prog : Program := alt Try.prog Twin.funcs
noncomputable abbrev Twin.f2 : Func := Try.f2
@[simp] theorem Twin.func2 : Twin.prog.funcs[2]? = some Try.f2 := by kernel_rfl
@[simp] theorem Twin.call2 (args : Array Value) (w : World) : Sem.run Twin.prog (callFunc 2 args) w = .ok (.enter 2 args) w := by kernel_rfl
noncomputable abbrev Twin.f3 : Func := Try.f3
@[simp] theorem Twin.func3 : Twin.prog.funcs[3]? = some Try.f3 := by kernel_rfl
@[simp] theorem Twin.call3 (args : Array Value) (w : World) : Sem.run Twin.prog (callFunc 3 args) w = .ok (.enter 3 args) w := by kernel_rfl
noncomputable abbrev Twin.f4 : Func := Try.f4
@[simp] theorem Twin.func4 : Twin.prog.funcs[4]? = some Try.f4 := by kernel_rfl
@[simp] theorem Twin.call4 (args : Array Value) (w : World) : Sem.run Twin.prog (callFunc 4 args) w = .ok (.enter 4 args) w := by kernel_rfl
noncomputable abbrev Twin.f5 : Func := Try.f5
@[simp] theorem Twin.func5 : Twin.prog.funcs[5]? = some Try.f5 := by kernel_rfl
@[simp] theorem Twin.call5 (args : Array Value) (w : World) : Sem.run Twin.prog (callFunc 5 args) w = .ok (.enter 5 args) w := by kernel_rfl
noncomputable abbrev Twin.f6 : Func := Try.f6
@[simp] theorem Twin.func6 : Twin.prog.funcs[6]? = some Try.f6 := by kernel_rfl
@[simp] theorem Twin.call6 (args : Array Value) (w : World) : Sem.run Twin.prog (callFunc 6 args) w = .ok (.enter 6 args) w := by kernel_rfl
noncomputable abbrev Twin.f7 : Func := Try.f7
@[simp] theorem Twin.func7 : Twin.prog.funcs[7]? = some Try.f7 := by kernel_rfl
@[simp] theorem Twin.call7 (args : Array Value) (w : World) : Sem.run Twin.prog (callFunc 7 args) w = .ok (.enter 7 args) w := by kernel_rfl
noncomputable abbrev Twin.f8 : Func := Try.f8
@[simp] theorem Twin.func8 : Twin.prog.funcs[8]? = some Try.f8 := by kernel_rfl
@[simp] theorem Twin.call8 (args : Array Value) (w : World) : Sem.run Twin.prog (callFunc 8 args) w = .ok (.enter 8 args) w := by kernel_rfl
noncomputable abbrev Twin.f9 : Func := Try.f9
@[simp] theorem Twin.func9 : Twin.prog.funcs[9]? = some Try.f9 := by kernel_rfl
@[simp] theorem Twin.call9 (args : Array Value) (w : World) : Sem.run Twin.prog (callFunc 9 args) w = .ok (.enter 9 args) w := by kernel_rfl
noncomputable abbrev Twin.f10 : Func := Try.f10
@[simp] theorem Twin.func10 : Twin.prog.funcs[10]? = some Try.f10 := by kernel_rfl
@[simp] theorem Twin.call10 (args : Array Value) (w : World) : Sem.run Twin.prog (callFunc 10 args) w = .ok (.enter 10 args) w := by kernel_rfl
noncomputable abbrev Twin.f11 : Func := Try.f11
@[simp] theorem Twin.func11 : Twin.prog.funcs[11]? = some Try.f11 := by kernel_rfl
@[simp] theorem Twin.call11 (args : Array Value) (w : World) : Sem.run Twin.prog (callFunc 11 args) w = .ok (.enter 11 args) w := by kernel_rfl
noncomputable abbrev Twin.f12 : Func := Try.f12
@[simp] theorem Twin.func12 : Twin.prog.funcs[12]? = some Try.f12 := by kernel_rfl
@[simp] theorem Twin.call12 (args : Array Value) (w : World) : Sem.run Twin.prog (callFunc 12 args) w = .ok (.enter 12 args) w := by kernel_rfl
noncomputable abbrev Twin.f13 : Func := Try.f13
@[simp] theorem Twin.func13 : Twin.prog.funcs[13]? = some Try.f13 := by kernel_rfl
@[simp] theorem Twin.call13 (args : Array Value) (w : World) : Sem.run Twin.prog (callFunc 13 args) w = .ok (.enter 13 args) w := by kernel_rfl
noncomputable abbrev Twin.f14 : Func := Try.f14
@[simp] theorem Twin.func14 : Twin.prog.funcs[14]? = some Try.f14 := by kernel_rfl
@[simp] theorem Twin.call14 (args : Array Value) (w : World) : Sem.run Twin.prog (callFunc 14 args) w = .ok (.enter 14 args) w := by kernel_rfl
noncomputable abbrev Twin.f15 : Func := Try.f15
@[simp] theorem Twin.func15 : Twin.prog.funcs[15]? = some Try.f15 := by kernel_rfl
@[simp] theorem Twin.call15 (args : Array Value) (w : World) : Sem.run Twin.prog (callFunc 15 args) w = .ok (.enter 15 args) w := by kernel_rfl
noncomputable abbrev Twin.f16 : Func := Try.f16
@[simp] theorem Twin.func16 : Twin.prog.funcs[16]? = some Try.f16 := by kernel_rfl
@[simp] theorem Twin.call16 (args : Array Value) (w : World) : Sem.run Twin.prog (callFunc 16 args) w = .ok (.enter 16 args) w := by kernel_rfl
@[simp] theorem Twin.func17 : Twin.prog.funcs[17]? = some Twin.f17 := by kernel_rfl
@[simp] theorem Twin.call17 (args : Array Value) (w : World) : Sem.run Twin.prog (callFunc 17 args) w = .ok (.enter 17 args) w := by kernel_rfl
noncomputable abbrev Twin.f18 : Func := Try.f18
@[simp] theorem Twin.func18 : Twin.prog.funcs[18]? = some Try.f18 := by kernel_rfl
@[simp] theorem Twin.call18 (args : Array Value) (w : World) : Sem.run Twin.prog (callFunc 18 args) w = .ok (.enter 18 args) w := by kernel_rfl
noncomputable abbrev Twin.f19 : Func := Try.f19
@[simp] theorem Twin.func19 : Twin.prog.funcs[19]? = some Try.f19 := by kernel_rfl
@[simp] theorem Twin.call19 (args : Array Value) (w : World) : Sem.run Twin.prog (callFunc 19 args) w = .ok (.enter 19 args) w := by kernel_rfl
@[simp] theorem Twin.func20 : Twin.prog.funcs[20]? = some Twin.f20 := by kernel_rfl
@[simp] theorem Twin.call20 (args : Array Value) (w : World) : Sem.run Twin.prog (callFunc 20 args) w = .ok (.enter 20 args) w := by kernel_rfl
@[simp] theorem Twin.func21 : Twin.prog.funcs[21]? = some Twin.f21 := by kernel_rfl
@[simp] theorem Twin.call21 (args : Array Value) (w : World) : Sem.run Twin.prog (callFunc 21 args) w = .ok (.enter 21 args) w := by kernel_rfl
noncomputable abbrev Twin.f22 : Func := Try.f22
@[simp] theorem Twin.func22 : Twin.prog.funcs[22]? = some Try.f22 := by kernel_rfl
@[simp] theorem Twin.call22 (args : Array Value) (w : World) : Sem.run Twin.prog (callFunc 22 args) w = .ok (.enter 22 args) w := by kernel_rfl
noncomputable abbrev Twin.f23 : Func := Try.f23
@[simp] theorem Twin.func23 : Twin.prog.funcs[23]? = some Try.f23 := by kernel_rfl
@[simp] theorem Twin.call23 (args : Array Value) (w : World) : Sem.run Twin.prog (callFunc 23 args) w = .ok (.enter 23 args) w := by kernel_rfl
@[simp] theorem Twin.func24 : Twin.prog.funcs[24]? = some Twin.f24 := by kernel_rfl
@[simp] theorem Twin.call24 (args : Array Value) (w : World) : Sem.run Twin.prog (callFunc 24 args) w = .ok (.enter 24 args) w := by kernel_rfl
noncomputable abbrev Twin.f25 : Func := Try.f25
@[simp] theorem Twin.func25 : Twin.prog.funcs[25]? = some Try.f25 := by kernel_rfl
@[simp] theorem Twin.call25 (args : Array Value) (w : World) : Sem.run Twin.prog (callFunc 25 args) w = .ok (.enter 25 args) w := by kernel_rfl
noncomputable abbrev Twin.f26 : Func := Try.f26
@[simp] theorem Twin.func26 : Twin.prog.funcs[26]? = some Try.f26 := by kernel_rfl
@[simp] theorem Twin.call26 (args : Array Value) (w : World) : Sem.run Twin.prog (callFunc 26 args) w = .ok (.enter 26 args) w := by kernel_rfl
noncomputable abbrev Twin.f27 : Func := Try.f27
@[simp] theorem Twin.func27 : Twin.prog.funcs[27]? = some Try.f27 := by kernel_rfl
@[simp] theorem Twin.call27 (args : Array Value) (w : World) : Sem.run Twin.prog (callFunc 27 args) w = .ok (.enter 27 args) w := by kernel_rfl
noncomputable abbrev Twin.f28 : Func := Try.f28
@[simp] theorem Twin.func28 : Twin.prog.funcs[28]? = some Try.f28 := by kernel_rfl
@[simp] theorem Twin.call28 (args : Array Value) (w : World) : Sem.run Twin.prog (callFunc 28 args) w = .ok (.enter 28 args) w := by kernel_rfl
noncomputable abbrev Twin.f29 : Func := Try.f29
@[simp] theorem Twin.func29 : Twin.prog.funcs[29]? = some Try.f29 := by kernel_rfl
@[simp] theorem Twin.call29 (args : Array Value) (w : World) : Sem.run Twin.prog (callFunc 29 args) w = .ok (.enter 29 args) w := by kernel_rfl
noncomputable abbrev Twin.f30 : Func := Try.f30
@[simp] theorem Twin.func30 : Twin.prog.funcs[30]? = some Try.f30 := by kernel_rfl
@[simp] theorem Twin.call30 (args : Array Value) (w : World) : Sem.run Twin.prog (callFunc 30 args) w = .ok (.enter 30 args) w := by kernel_rfl
noncomputable abbrev Twin.f31 : Func := Try.f31
@[simp] theorem Twin.func31 : Twin.prog.funcs[31]? = some Try.f31 := by kernel_rfl
@[simp] theorem Twin.call31 (args : Array Value) (w : World) : Sem.run Twin.prog (callFunc 31 args) w = .ok (.enter 31 args) w := by kernel_rfl
noncomputable abbrev Twin.f32 : Func := Try.f32
@[simp] theorem Twin.func32 : Twin.prog.funcs[32]? = some Try.f32 := by kernel_rfl
@[simp] theorem Twin.call32 (args : Array Value) (w : World) : Sem.run Twin.prog (callFunc 32 args) w = .ok (.enter 32 args) w := by kernel_rfl
noncomputable abbrev Twin.f33 : Func := Try.f33
@[simp] theorem Twin.func33 : Twin.prog.funcs[33]? = some Try.f33 := by kernel_rfl
@[simp] theorem Twin.call33 (args : Array Value) (w : World) : Sem.run Twin.prog (callFunc 33 args) w = .ok (.enter 33 args) w := by kernel_rfl
noncomputable abbrev Twin.f34 : Func := Try.f34
@[simp] theorem Twin.func34 : Twin.prog.funcs[34]? = some Try.f34 := by kernel_rfl
@[simp] theorem Twin.call34 (args : Array Value) (w : World) : Sem.run Twin.prog (callFunc 34 args) w = .ok (.enter 34 args) w := by kernel_rfl
noncomputable abbrev Twin.f35 : Func := Try.f35
@[simp] theorem Twin.func35 : Twin.prog.funcs[35]? = some Try.f35 := by kernel_rfl
@[simp] theorem Twin.call35 (args : Array Value) (w : World) : Sem.run Twin.prog (callFunc 35 args) w = .ok (.enter 35 args) w := by kernel_rfl
noncomputable abbrev Twin.f36 : Func := Try.f36
@[simp] theorem Twin.func36 : Twin.prog.funcs[36]? = some Try.f36 := by kernel_rfl
@[simp] theorem Twin.call36 (args : Array Value) (w : World) : Sem.run Twin.prog (callFunc 36 args) w = .ok (.enter 36 args) w := by kernel_rfl
noncomputable abbrev Twin.f37 : Func := Try.f37
@[simp] theorem Twin.func37 : Twin.prog.funcs[37]? = some Try.f37 := by kernel_rfl
@[simp] theorem Twin.call37 (args : Array Value) (w : World) : Sem.run Twin.prog (callFunc 37 args) w = .ok (.enter 37 args) w := by kernel_rfl
noncomputable abbrev Twin.f38 : Func := Try.f38
@[simp] theorem Twin.func38 : Twin.prog.funcs[38]? = some Try.f38 := by kernel_rfl
@[simp] theorem Twin.call38 (args : Array Value) (w : World) : Sem.run Twin.prog (callFunc 38 args) w = .ok (.enter 38 args) w := by kernel_rfl
noncomputable abbrev Twin.f39 : Func := Try.f39
@[simp] theorem Twin.func39 : Twin.prog.funcs[39]? = some Try.f39 := by kernel_rfl
@[simp] theorem Twin.call39 (args : Array Value) (w : World) : Sem.run Twin.prog (callFunc 39 args) w = .ok (.enter 39 args) w := by kernel_rfl
noncomputable abbrev Twin.f40 : Func := Try.f40
@[simp] theorem Twin.func40 : Twin.prog.funcs[40]? = some Try.f40 := by kernel_rfl
@[simp] theorem Twin.call40 (args : Array Value) (w : World) : Sem.run Twin.prog (callFunc 40 args) w = .ok (.enter 40 args) w := by kernel_rfl
noncomputable abbrev Twin.f41 : Func := Try.f41
@[simp] theorem Twin.func41 : Twin.prog.funcs[41]? = some Try.f41 := by kernel_rfl
@[simp] theorem Twin.call41 (args : Array Value) (w : World) : Sem.run Twin.prog (callFunc 41 args) w = .ok (.enter 41 args) w := by kernel_rfl
noncomputable abbrev Twin.f42 : Func := Try.f42
@[simp] theorem Twin.func42 : Twin.prog.funcs[42]? = some Try.f42 := by kernel_rfl
@[simp] theorem Twin.call42 (args : Array Value) (w : World) : Sem.run Twin.prog (callFunc 42 args) w = .ok (.enter 42 args) w := by kernel_rfl
noncomputable abbrev Twin.f43 : Func := Try.f43
@[simp] theorem Twin.func43 : Twin.prog.funcs[43]? = some Try.f43 := by kernel_rfl
@[simp] theorem Twin.call43 (args : Array Value) (w : World) : Sem.run Twin.prog (callFunc 43 args) w = .ok (.enter 43 args) w := by kernel_rfl
noncomputable abbrev Twin.f44 : Func := Try.f44
@[simp] theorem Twin.func44 : Twin.prog.funcs[44]? = some Try.f44 := by kernel_rfl
@[simp] theorem Twin.call44 (args : Array Value) (w : World) : Sem.run Twin.prog (callFunc 44 args) w = .ok (.enter 44 args) w := by kernel_rfl
noncomputable abbrev Twin.f45 : Func := Try.f45
@[simp] theorem Twin.func45 : Twin.prog.funcs[45]? = some Try.f45 := by kernel_rfl
@[simp] theorem Twin.call45 (args : Array Value) (w : World) : Sem.run Twin.prog (callFunc 45 args) w = .ok (.enter 45 args) w := by kernel_rfl
noncomputable abbrev Twin.f47 : Func := Try.f47
@[simp] theorem Twin.func47 : Twin.prog.funcs[47]? = some Try.f47 := by kernel_rfl
@[simp] theorem Twin.call47 (args : Array Value) (w : World) : Sem.run Twin.prog (callFunc 47 args) w = .ok (.enter 47 args) w := by kernel_rfl
noncomputable abbrev Twin.f48 : Func := Try.f48
@[simp] theorem Twin.func48 : Twin.prog.funcs[48]? = some Try.f48 := by kernel_rfl
@[simp] theorem Twin.call48 (args : Array Value) (w : World) : Sem.run Twin.prog (callFunc 48 args) w = .ok (.enter 48 args) w := by kernel_rfl
noncomputable abbrev Twin.f49 : Func := Try.f49
@[simp] theorem Twin.func49 : Twin.prog.funcs[49]? = some Try.f49 := by kernel_rfl
@[simp] theorem Twin.call49 (args : Array Value) (w : World) : Sem.run Twin.prog (callFunc 49 args) w = .ok (.enter 49 args) w := by kernel_rfl
noncomputable abbrev Twin.f50 : Func := Try.f50
@[simp] theorem Twin.func50 : Twin.prog.funcs[50]? = some Try.f50 := by kernel_rfl
@[simp] theorem Twin.call50 (args : Array Value) (w : World) : Sem.run Twin.prog (callFunc 50 args) w = .ok (.enter 50 args) w := by kernel_rfl
noncomputable abbrev Twin.f51 : Func := Try.f51
@[simp] theorem Twin.func51 : Twin.prog.funcs[51]? = some Try.f51 := by kernel_rfl
@[simp] theorem Twin.call51 (args : Array Value) (w : World) : Sem.run Twin.prog (callFunc 51 args) w = .ok (.enter 51 args) w := by kernel_rfl
noncomputable abbrev Twin.f52 : Func := Try.f52
@[simp] theorem Twin.func52 : Twin.prog.funcs[52]? = some Try.f52 := by kernel_rfl
@[simp] theorem Twin.call52 (args : Array Value) (w : World) : Sem.run Twin.prog (callFunc 52 args) w = .ok (.enter 52 args) w := by kernel_rfl
noncomputable abbrev Twin.f53 : Func := Try.f53
@[simp] theorem Twin.func53 : Twin.prog.funcs[53]? = some Try.f53 := by kernel_rfl
@[simp] theorem Twin.call53 (args : Array Value) (w : World) : Sem.run Twin.prog (callFunc 53 args) w = .ok (.enter 53 args) w := by kernel_rfl
noncomputable abbrev Twin.f54 : Func := Try.f54
@[simp] theorem Twin.func54 : Twin.prog.funcs[54]? = some Try.f54 := by kernel_rfl
@[simp] theorem Twin.call54 (args : Array Value) (w : World) : Sem.run Twin.prog (callFunc 54 args) w = .ok (.enter 54 args) w := by kernel_rfl
noncomputable abbrev Twin.f55 : Func := Try.f55
@[simp] theorem Twin.func55 : Twin.prog.funcs[55]? = some Try.f55 := by kernel_rfl
@[simp] theorem Twin.call55 (args : Array Value) (w : World) : Sem.run Twin.prog (callFunc 55 args) w = .ok (.enter 55 args) w := by kernel_rfl
noncomputable abbrev Twin.f56 : Func := Try.f56
@[simp] theorem Twin.func56 : Twin.prog.funcs[56]? = some Try.f56 := by kernel_rfl
@[simp] theorem Twin.call56 (args : Array Value) (w : World) : Sem.run Twin.prog (callFunc 56 args) w = .ok (.enter 56 args) w := by kernel_rfl
noncomputable abbrev Twin.f57 : Func := Try.f57
@[simp] theorem Twin.func57 : Twin.prog.funcs[57]? = some Try.f57 := by kernel_rfl
@[simp] theorem Twin.call57 (args : Array Value) (w : World) : Sem.run Twin.prog (callFunc 57 args) w = .ok (.enter 57 args) w := by kernel_rfl
noncomputable abbrev Twin.f58 : Func := Try.f58
@[simp] theorem Twin.func58 : Twin.prog.funcs[58]? = some Try.f58 := by kernel_rfl
@[simp] theorem Twin.call58 (args : Array Value) (w : World) : Sem.run Twin.prog (callFunc 58 args) w = .ok (.enter 58 args) w := by kernel_rfl
noncomputable abbrev Twin.f59 : Func := Try.f59
@[simp] theorem Twin.func59 : Twin.prog.funcs[59]? = some Try.f59 := by kernel_rfl
@[simp] theorem Twin.call59 (args : Array Value) (w : World) : Sem.run Twin.prog (callFunc 59 args) w = .ok (.enter 59 args) w := by kernel_rfl
noncomputable abbrev Twin.f60 : Func := Try.f60
@[simp] theorem Twin.func60 : Twin.prog.funcs[60]? = some Try.f60 := by kernel_rfl
@[simp] theorem Twin.call60 (args : Array Value) (w : World) : Sem.run Twin.prog (callFunc 60 args) w = .ok (.enter 60 args) w := by kernel_rfl
noncomputable abbrev Twin.f61 : Func := Try.f61
@[simp] theorem Twin.func61 : Twin.prog.funcs[61]? = some Try.f61 := by kernel_rfl
@[simp] theorem Twin.call61 (args : Array Value) (w : World) : Sem.run Twin.prog (callFunc 61 args) w = .ok (.enter 61 args) w := by kernel_rfl
noncomputable abbrev Twin.f62 : Func := Try.f62
@[simp] theorem Twin.func62 : Twin.prog.funcs[62]? = some Try.f62 := by kernel_rfl
@[simp] theorem Twin.call62 (args : Array Value) (w : World) : Sem.run Twin.prog (callFunc 62 args) w = .ok (.enter 62 args) w := by kernel_rfl
noncomputable abbrev Twin.f63 : Func := Try.f63
@[simp] theorem Twin.func63 : Twin.prog.funcs[63]? = some Try.f63 := by kernel_rfl
@[simp] theorem Twin.call63 (args : Array Value) (w : World) : Sem.run Twin.prog (callFunc 63 args) w = .ok (.enter 63 args) w := by kernel_rfl
noncomputable abbrev Twin.f64 : Func := Try.f64
@[simp] theorem Twin.func64 : Twin.prog.funcs[64]? = some Try.f64 := by kernel_rfl
@[simp] theorem Twin.call64 (args : Array Value) (w : World) : Sem.run Twin.prog (callFunc 64 args) w = .ok (.enter 64 args) w := by kernel_rfl
noncomputable abbrev Twin.f65 : Func := Try.f65
@[simp] theorem Twin.func65 : Twin.prog.funcs[65]? = some Try.f65 := by kernel_rfl
@[simp] theorem Twin.call65 (args : Array Value) (w : World) : Sem.run Twin.prog (callFunc 65 args) w = .ok (.enter 65 args) w := by kernel_rfl
noncomputable abbrev Twin.f66 : Func := Try.f66
@[simp] theorem Twin.func66 : Twin.prog.funcs[66]? = some Try.f66 := by kernel_rfl
@[simp] theorem Twin.call66 (args : Array Value) (w : World) : Sem.run Twin.prog (callFunc 66 args) w = .ok (.enter 66 args) w := by kernel_rfl
noncomputable abbrev Twin.f67 : Func := Try.f67
@[simp] theorem Twin.func67 : Twin.prog.funcs[67]? = some Try.f67 := by kernel_rfl
@[simp] theorem Twin.call67 (args : Array Value) (w : World) : Sem.run Twin.prog (callFunc 67 args) w = .ok (.enter 67 args) w := by kernel_rfl
noncomputable abbrev Twin.f72 : Func := Try.f72
@[simp] theorem Twin.func72 : Twin.prog.funcs[72]? = some Try.f72 := by kernel_rfl
@[simp] theorem Twin.call72 (args : Array Value) (w : World) : Sem.run Twin.prog (callFunc 72 args) w = .ok (.enter 72 args) w := by kernel_rfl
noncomputable abbrev Twin.f73 : Func := Try.f73
@[simp] theorem Twin.func73 : Twin.prog.funcs[73]? = some Try.f73 := by kernel_rfl
@[simp] theorem Twin.call73 (args : Array Value) (w : World) : Sem.run Twin.prog (callFunc 73 args) w = .ok (.enter 73 args) w := by kernel_rfl
noncomputable abbrev Twin.f74 : Func := Try.f74
@[simp] theorem Twin.func74 : Twin.prog.funcs[74]? = some Try.f74 := by kernel_rfl
@[simp] theorem Twin.call74 (args : Array Value) (w : World) : Sem.run Twin.prog (callFunc 74 args) w = .ok (.enter 74 args) w := by kernel_rfl
noncomputable abbrev Twin.f75 : Func := Try.f75
@[simp] theorem Twin.func75 : Twin.prog.funcs[75]? = some Try.f75 := by kernel_rfl
@[simp] theorem Twin.call75 (args : Array Value) (w : World) : Sem.run Twin.prog (callFunc 75 args) w = .ok (.enter 75 args) w := by kernel_rfl
noncomputable abbrev Twin.f76 : Func := Try.f76
@[simp] theorem Twin.func76 : Twin.prog.funcs[76]? = some Try.f76 := by kernel_rfl
@[simp] theorem Twin.call76 (args : Array Value) (w : World) : Sem.run Twin.prog (callFunc 76 args) w = .ok (.enter 76 args) w := by kernel_rfl
noncomputable abbrev Twin.f77 : Func := Try.f77
@[simp] theorem Twin.func77 : Twin.prog.funcs[77]? = some Try.f77 := by kernel_rfl
@[simp] theorem Twin.call77 (args : Array Value) (w : World) : Sem.run Twin.prog (callFunc 77 args) w = .ok (.enter 77 args) w := by kernel_rfl
noncomputable abbrev Twin.f78 : Func := Try.f78
@[simp] theorem Twin.func78 : Twin.prog.funcs[78]? = some Try.f78 := by kernel_rfl
@[simp] theorem Twin.call78 (args : Array Value) (w : World) : Sem.run Twin.prog (callFunc 78 args) w = .ok (.enter 78 args) w := by kernel_rfl
noncomputable abbrev Twin.f79 : Func := Try.f79
@[simp] theorem Twin.func79 : Twin.prog.funcs[79]? = some Try.f79 := by kernel_rfl
@[simp] theorem Twin.call79 (args : Array Value) (w : World) : Sem.run Twin.prog (callFunc 79 args) w = .ok (.enter 79 args) w := by kernel_rfl
noncomputable abbrev Twin.f80 : Func := Try.f80
@[simp] theorem Twin.func80 : Twin.prog.funcs[80]? = some Try.f80 := by kernel_rfl
@[simp] theorem Twin.call80 (args : Array Value) (w : World) : Sem.run Twin.prog (callFunc 80 args) w = .ok (.enter 80 args) w := by kernel_rfl
noncomputable abbrev Twin.f81 : Func := Try.f81
@[simp] theorem Twin.func81 : Twin.prog.funcs[81]? = some Try.f81 := by kernel_rfl
@[simp] theorem Twin.call81 (args : Array Value) (w : World) : Sem.run Twin.prog (callFunc 81 args) w = .ok (.enter 81 args) w := by kernel_rfl
noncomputable abbrev Twin.f82 : Func := Try.f82
@[simp] theorem Twin.func82 : Twin.prog.funcs[82]? = some Try.f82 := by kernel_rfl
@[simp] theorem Twin.call82 (args : Array Value) (w : World) : Sem.run Twin.prog (callFunc 82 args) w = .ok (.enter 82 args) w := by kernel_rfl
noncomputable abbrev Twin.f83 : Func := Try.f83
@[simp] theorem Twin.func83 : Twin.prog.funcs[83]? = some Try.f83 := by kernel_rfl
@[simp] theorem Twin.call83 (args : Array Value) (w : World) : Sem.run Twin.prog (callFunc 83 args) w = .ok (.enter 83 args) w := by kernel_rfl
noncomputable abbrev Twin.f90 : Func := Try.f90
@[simp] theorem Twin.func90 : Twin.prog.funcs[90]? = some Try.f90 := by kernel_rfl
@[simp] theorem Twin.call90 (args : Array Value) (w : World) : Sem.run Twin.prog (callFunc 90 args) w = .ok (.enter 90 args) w := by kernel_rfl
noncomputable abbrev Twin.f91 : Func := Try.f91
@[simp] theorem Twin.func91 : Twin.prog.funcs[91]? = some Try.f91 := by kernel_rfl
@[simp] theorem Twin.call91 (args : Array Value) (w : World) : Sem.run Twin.prog (callFunc 91 args) w = .ok (.enter 91 args) w := by kernel_rfl
noncomputable abbrev Twin.f93 : Func := Try.f93
@[simp] theorem Twin.func93 : Twin.prog.funcs[93]? = some Try.f93 := by kernel_rfl
@[simp] theorem Twin.call93 (args : Array Value) (w : World) : Sem.run Twin.prog (callFunc 93 args) w = .ok (.enter 93 args) w := by kernel_rfl
noncomputable abbrev Twin.f94 : Func := Try.f94
@[simp] theorem Twin.func94 : Twin.prog.funcs[94]? = some Try.f94 := by kernel_rfl
@[simp] theorem Twin.call94 (args : Array Value) (w : World) : Sem.run Twin.prog (callFunc 94 args) w = .ok (.enter 94 args) w := by kernel_rfl
noncomputable abbrev Twin.f99 : Func := Try.f99
@[simp] theorem Twin.func99 : Twin.prog.funcs[99]? = some Try.f99 := by kernel_rfl
@[simp] theorem Twin.call99 (args : Array Value) (w : World) : Sem.run Twin.prog (callFunc 99 args) w = .ok (.enter 99 args) w := by kernel_rfl
noncomputable abbrev Twin.f102 : Func := Try.f102
@[simp] theorem Twin.func102 : Twin.prog.funcs[102]? = some Try.f102 := by kernel_rfl
@[simp] theorem Twin.call102 (args : Array Value) (w : World) : Sem.run Twin.prog (callFunc 102 args) w = .ok (.enter 102 args) w := by kernel_rfl
noncomputable abbrev Twin.f123 : Func := Try.f123
@[simp] theorem Twin.func123 : Twin.prog.funcs[123]? = some Try.f123 := by kernel_rfl
@[simp] theorem Twin.call123 (args : Array Value) (w : World) : Sem.run Twin.prog (callFunc 123 args) w = .ok (.enter 123 args) w := by kernel_rfl
noncomputable abbrev Twin.f125 : Func := Try.f125
@[simp] theorem Twin.func125 : Twin.prog.funcs[125]? = some Try.f125 := by kernel_rfl
@[simp] theorem Twin.call125 (args : Array Value) (w : World) : Sem.run Twin.prog (callFunc 125 args) w = .ok (.enter 125 args) w := by kernel_rfl
noncomputable abbrev Twin.f126 : Func := Try.f126
@[simp] theorem Twin.func126 : Twin.prog.funcs[126]? = some Try.f126 := by kernel_rfl
@[simp] theorem Twin.call126 (args : Array Value) (w : World) : Sem.run Twin.prog (callFunc 126 args) w = .ok (.enter 126 args) w := by kernel_rfl
noncomputable abbrev Twin.f128 : Func := Try.f128
@[simp] theorem Twin.func128 : Twin.prog.funcs[128]? = some Try.f128 := by kernel_rfl
@[simp] theorem Twin.call128 (args : Array Value) (w : World) : Sem.run Twin.prog (callFunc 128 args) w = .ok (.enter 128 args) w := by kernel_rfl
noncomputable abbrev Twin.f129 : Func := Try.f129
@[simp] theorem Twin.func129 : Twin.prog.funcs[129]? = some Try.f129 := by kernel_rfl
@[simp] theorem Twin.call129 (args : Array Value) (w : World) : Sem.run Twin.prog (callFunc 129 args) w = .ok (.enter 129 args) w := by kernel_rfl
noncomputable abbrev Twin.f131 : Func := Try.f131
@[simp] theorem Twin.func131 : Twin.prog.funcs[131]? = some Try.f131 := by kernel_rfl
@[simp] theorem Twin.call131 (args : Array Value) (w : World) : Sem.run Twin.prog (callFunc 131 args) w = .ok (.enter 131 args) w := by kernel_rfl
end Go.Proofs
end

section
namespace Go.Proofs
@[simp] theorem Twin.type0 : (Go.Tables.types (Go.Program.toTables Go.Proofs.Twin.prog))[0]? = Option.some Go.Proofs.Try.t0 := by kernel_rfl
@[simp] theorem Twin.sizeOf0 : ∀ (w : Go.World), Go.Sem.run Go.Proofs.Twin.prog (Go.sizeOf 0) w = Go.Result.ok 1 w := fun w => by kernel_rfl
@[simp] theorem Twin.underlying0 : Go.Program.underlying Go.Proofs.Twin.prog 0 = Option.some (Go.TypeDesc.tuple #[]) := by kernel_rfl
@[simp] theorem Twin.runUnderlying0 : ∀ (w : Go.World), Go.Sem.run Go.Proofs.Twin.prog (Go.underlying 0) w = Go.Result.ok (Go.TypeDesc.tuple #[]) w := fun w => by kernel_rfl
@[simp] theorem Twin.isAgg0 : ∀ (w : Go.World), Go.Sem.run Go.Proofs.Twin.prog (Go.isAgg 0) w = Go.Result.ok Bool.false w := fun w => by kernel_rfl
@[simp] theorem Twin.zeroValue0 : ∀ (w : Go.World), Go.Sem.run Go.Proofs.Twin.prog (Go.zeroValue 0) w = Go.Result.ok (Go.Value.tuple #[]) w := fun w => by kernel_rfl
@[simp] theorem Twin.typeInfo0 (w : World) : Sem.run Twin.prog (typeInfo 0) w = .ok Try.t0 w := by kernel_rfl
@[simp] theorem Twin.type1 : (Go.Tables.types (Go.Program.toTables Go.Proofs.Twin.prog))[1]? = Option.some Go.Proofs.Try.t1 := by kernel_rfl
@[simp] theorem Twin.sizeOf1 : ∀ (w : Go.World), Go.Sem.run Go.Proofs.Twin.prog (Go.sizeOf 1) w = Go.Result.ok 1 w := fun w => by kernel_rfl
@[simp] theorem Twin.underlying1 : Go.Program.underlying Go.Proofs.Twin.prog 1 = Option.some (Go.TypeDesc.func #[] #[] Bool.false) := by kernel_rfl
@[simp] theorem Twin.runUnderlying1 : ∀ (w : Go.World), Go.Sem.run Go.Proofs.Twin.prog (Go.underlying 1) w = Go.Result.ok (Go.TypeDesc.func #[] #[] Bool.false) w := fun w => by kernel_rfl
@[simp] theorem Twin.isAgg1 : ∀ (w : Go.World), Go.Sem.run Go.Proofs.Twin.prog (Go.isAgg 1) w = Go.Result.ok Bool.false w := fun w => by kernel_rfl
@[simp] theorem Twin.zeroValue1 : ∀ (w : Go.World), Go.Sem.run Go.Proofs.Twin.prog (Go.zeroValue 1) w = Go.Result.ok Go.Value.nilFunc w := fun w => by kernel_rfl
@[simp] theorem Twin.typeInfo1 (w : World) : Sem.run Twin.prog (typeInfo 1) w = .ok Try.t1 w := by kernel_rfl
@[simp] theorem Twin.type2 : (Go.Tables.types (Go.Program.toTables Go.Proofs.Twin.prog))[2]? = Option.some Go.Proofs.Try.t2 := by kernel_rfl
@[simp] theorem Twin.sizeOf2 : ∀ (w : Go.World), Go.Sem.run Go.Proofs.Twin.prog (Go.sizeOf 2) w = Go.Result.ok 1 w := fun w => by kernel_rfl
@[simp] theorem Twin.underlying2 : Go.Program.underlying Go.Proofs.Twin.prog 2 = Option.some (Go.TypeDesc.int Go.IntKind.i64) := by kernel_rfl
@[simp] theorem Twin.runUnderlying2 : ∀ (w : Go.World), Go.Sem.run Go.Proofs.Twin.prog (Go.underlying 2) w = Go.Result.ok (Go.TypeDesc.int Go.IntKind.i64) w := fun w => by kernel_rfl
@[simp] theorem Twin.isAgg2 : ∀ (w : Go.World), Go.Sem.run Go.Proofs.Twin.prog (Go.isAgg 2) w = Go.Result.ok Bool.false w := fun w => by kernel_rfl
@[simp] theorem Twin.zeroValue2 : ∀ (w : Go.World), Go.Sem.run Go.Proofs.Twin.prog (Go.zeroValue 2) w = Go.Result.ok (Go.Value.int Go.IntKind.i64 0) w := fun w => by kernel_rfl
@[simp] theorem Twin.typeInfo2 (w : World) : Sem.run Twin.prog (typeInfo 2) w = .ok Try.t2 w := by kernel_rfl
@[simp] theorem Twin.type3 : (Go.Tables.types (Go.Program.toTables Go.Proofs.Twin.prog))[3]? = Option.some Go.Proofs.Try.t3 := by kernel_rfl
@[simp] theorem Twin.sizeOf3 : ∀ (w : Go.World), Go.Sem.run Go.Proofs.Twin.prog (Go.sizeOf 3) w = Go.Result.ok 1 w := fun w => by kernel_rfl
@[simp] theorem Twin.underlying3 : Go.Program.underlying Go.Proofs.Twin.prog 3 = Option.some (Go.TypeDesc.int Go.IntKind.i64) := by kernel_rfl
@[simp] theorem Twin.runUnderlying3 : ∀ (w : Go.World), Go.Sem.run Go.Proofs.Twin.prog (Go.underlying 3) w = Go.Result.ok (Go.TypeDesc.int Go.IntKind.i64) w := fun w => by kernel_rfl
@[simp] theorem Twin.isAgg3 : ∀ (w : Go.World), Go.Sem.run Go.Proofs.Twin.prog (Go.isAgg 3) w = Go.Result.ok Bool.false w := fun w => by kernel_rfl
@[simp] theorem Twin.zeroValue3 : ∀ (w : Go.World), Go.Sem.run Go.Proofs.Twin.prog (Go.zeroValue 3) w = Go.Result.ok (Go.Value.int Go.IntKind.i64 0) w := fun w => by kernel_rfl
@[simp] theorem Twin.typeInfo3 (w : World) : Sem.run Twin.prog (typeInfo 3) w = .ok Try.t3 w := by kernel_rfl
@[simp] theorem Twin.type4 : (Go.Tables.types (Go.Program.toTables Go.Proofs.Twin.prog))[4]? = Option.some Go.Proofs.Try.t4 := by kernel_rfl
@[simp] theorem Twin.sizeOf4 : ∀ (w : Go.World), Go.Sem.run Go.Proofs.Twin.prog (Go.sizeOf 4) w = Go.Result.ok 1 w := fun w => by kernel_rfl
@[simp] theorem Twin.underlying4 : Go.Program.underlying Go.Proofs.Twin.prog 4 = Option.some Go.TypeDesc.bool := by kernel_rfl
@[simp] theorem Twin.runUnderlying4 : ∀ (w : Go.World), Go.Sem.run Go.Proofs.Twin.prog (Go.underlying 4) w = Go.Result.ok Go.TypeDesc.bool w := fun w => by kernel_rfl
@[simp] theorem Twin.isAgg4 : ∀ (w : Go.World), Go.Sem.run Go.Proofs.Twin.prog (Go.isAgg 4) w = Go.Result.ok Bool.false w := fun w => by kernel_rfl
@[simp] theorem Twin.zeroValue4 : ∀ (w : Go.World), Go.Sem.run Go.Proofs.Twin.prog (Go.zeroValue 4) w = Go.Result.ok (Go.Value.bool Bool.false) w := fun w => by kernel_rfl
@[simp] theorem Twin.typeInfo4 (w : World) : Sem.run Twin.prog (typeInfo 4) w = .ok Try.t4 w := by kernel_rfl
@[simp] theorem Twin.type5 : (Go.Tables.types (Go.Program.toTables Go.Proofs.Twin.prog))[5]? = Option.some Go.Proofs.Try.t5 := by kernel_rfl
@[simp] theorem Twin.sizeOf5 : ∀ (w : Go.World), Go.Sem.run Go.Proofs.Twin.prog (Go.sizeOf 5) w = Go.Result.ok 1 w := fun w => by kernel_rfl
@[simp] theorem Twin.underlying5 : Go.Program.underlying Go.Proofs.Twin.prog 5 = Option.some (Go.TypeDesc.int Go.IntKind.u8) := by kernel_rfl
@[simp] theorem Twin.runUnderlying5 : ∀ (w : Go.World), Go.Sem.run Go.Proofs.Twin.prog (Go.underlying 5) w = Go.Result.ok (Go.TypeDesc.int Go.IntKind.u8) w := fun w => by kernel_rfl
@[simp] theorem Twin.isAgg5 : ∀ (w : Go.World), Go.Sem.run Go.Proofs.Twin.prog (Go.isAgg 5) w = Go.Result.ok Bool.false w := fun w => by kernel_rfl
@[simp] theorem Twin.zeroValue5 : ∀ (w : Go.World), Go.Sem.run Go.Proofs.Twin.prog (Go.zeroValue 5) w = Go.Result.ok (Go.Value.int Go.IntKind.u8 0) w := fun w => by kernel_rfl
@[simp] theorem Twin.typeInfo5 (w : World) : Sem.run Twin.prog (typeInfo 5) w = .ok Try.t5 w := by kernel_rfl
@[simp] theorem Twin.type6 : (Go.Tables.types (Go.Program.toTables Go.Proofs.Twin.prog))[6]? = Option.some Go.Proofs.Try.t6 := by kernel_rfl
@[simp] theorem Twin.sizeOf6 : ∀ (w : Go.World), Go.Sem.run Go.Proofs.Twin.prog (Go.sizeOf 6) w = Go.Result.ok 1 w := fun w => by kernel_rfl
@[simp] theorem Twin.underlying6 : Go.Program.underlying Go.Proofs.Twin.prog 6 = Option.some (Go.TypeDesc.int Go.IntKind.u8) := by kernel_rfl
@[simp] theorem Twin.runUnderlying6 : ∀ (w : Go.World), Go.Sem.run Go.Proofs.Twin.prog (Go.underlying 6) w = Go.Result.ok (Go.TypeDesc.int Go.IntKind.u8) w := fun w => by kernel_rfl
@[simp] theorem Twin.isAgg6 : ∀ (w : Go.World), Go.Sem.run Go.Proofs.Twin.prog (Go.isAgg 6) w = Go.Result.ok Bool.false w := fun w => by kernel_rfl
@[simp] theorem Twin.zeroValue6 : ∀ (w : Go.World), Go.Sem.run Go.Proofs.Twin.prog (Go.zeroValue 6) w = Go.Result.ok (Go.Value.int Go.IntKind.u8 0) w := fun w => by kernel_rfl
@[simp] theorem Twin.typeInfo6 (w : World) : Sem.run Twin.prog (typeInfo 6) w = .ok Try.t6 w := by kernel_rfl
@[simp] theorem Twin.type7 : (Go.Tables.types (Go.Program.toTables Go.Proofs.Twin.prog))[7]? = Option.some Go.Proofs.Try.t7 := by kernel_rfl
@[simp] theorem Twin.sizeOf7 : ∀ (w : Go.World), Go.Sem.run Go.Proofs.Twin.prog (Go.sizeOf 7) w = Go.Result.ok 4 w := fun w => by kernel_rfl
@[simp] theorem Twin.underlying7 : Go.Program.underlying Go.Proofs.Twin.prog 7 = Option.some (Go.TypeDesc.struct #[{ name := "x", type := 2, offset := 0, embedded := Bool.false, tag := "", pkgPath := "runtime", byteOffset := 0 }, { name := "y", type := 3, offset := 1, embedded := Bool.false, tag := "", pkgPath := "runtime", byteOffset := 8 }, { name := "signed", type := 4, offset := 2, embedded := Bool.false, tag := "", pkgPath := "runtime", byteOffset := 16 }, { name := "code", type := 6, offset := 3, embedded := Bool.false, tag := "", pkgPath := "runtime", byteOffset := 17 }]) := by kernel_rfl
@[simp] theorem Twin.runUnderlying7 : ∀ (w : Go.World), Go.Sem.run Go.Proofs.Twin.prog (Go.underlying 7) w = Go.Result.ok (Go.TypeDesc.struct #[{ name := "x", type := 2, offset := 0, embedded := Bool.false, tag := "", pkgPath := "runtime", byteOffset := 0 }, { name := "y", type := 3, offset := 1, embedded := Bool.false, tag := "", pkgPath := "runtime", byteOffset := 8 }, { name := "signed", type := 4, offset := 2, embedded := Bool.false, tag := "", pkgPath := "runtime", byteOffset := 16 }, { name := "code", type := 6, offset := 3, embedded := Bool.false, tag := "", pkgPath := "runtime", byteOffset := 17 }]) w := fun w => by kernel_rfl
@[simp] theorem Twin.isAgg7 : ∀ (w : Go.World), Go.Sem.run Go.Proofs.Twin.prog (Go.isAgg 7) w = Go.Result.ok Bool.true w := fun w => by kernel_rfl
@[simp] theorem Twin.eqGuardType7 : Go.Program.eqGuardType Go.Proofs.Twin.prog (Go.Program.depth Go.Proofs.Twin.prog) 7 = Bool.false := by kernel_rfl
@[simp] theorem Twin.zeroValue7 : ∀ (w : Go.World), Go.Sem.run Go.Proofs.Twin.prog (Go.zeroValue 7) w = Go.Result.ok (Go.Value.agg #[Go.Value.int Go.IntKind.i64 0, Go.Value.int Go.IntKind.i64 0, Go.Value.bool Bool.false, Go.Value.int Go.IntKind.u8 0]) w := fun w => by kernel_rfl
@[simp] theorem Twin.typeInfo7 (w : World) : Sem.run Twin.prog (typeInfo 7) w = .ok Try.t7 w := by kernel_rfl
@[simp] theorem Twin.type8 : (Go.Tables.types (Go.Program.toTables Go.Proofs.Twin.prog))[8]? = Option.some Go.Proofs.Try.t8 := by kernel_rfl
@[simp] theorem Twin.sizeOf8 : ∀ (w : Go.World), Go.Sem.run Go.Proofs.Twin.prog (Go.sizeOf 8) w = Go.Result.ok 4 w := fun w => by kernel_rfl
@[simp] theorem Twin.underlying8 : Go.Program.underlying Go.Proofs.Twin.prog 8 = Option.some (Go.TypeDesc.struct #[{ name := "x", type := 2, offset := 0, embedded := Bool.false, tag := "", pkgPath := "runtime", byteOffset := 0 }, { name := "y", type := 3, offset := 1, embedded := Bool.false, tag := "", pkgPath := "runtime", byteOffset := 8 }, { name := "signed", type := 4, offset := 2, embedded := Bool.false, tag := "", pkgPath := "runtime", byteOffset := 16 }, { name := "code", type := 6, offset := 3, embedded := Bool.false, tag := "", pkgPath := "runtime", byteOffset := 17 }]) := by kernel_rfl
@[simp] theorem Twin.runUnderlying8 : ∀ (w : Go.World), Go.Sem.run Go.Proofs.Twin.prog (Go.underlying 8) w = Go.Result.ok (Go.TypeDesc.struct #[{ name := "x", type := 2, offset := 0, embedded := Bool.false, tag := "", pkgPath := "runtime", byteOffset := 0 }, { name := "y", type := 3, offset := 1, embedded := Bool.false, tag := "", pkgPath := "runtime", byteOffset := 8 }, { name := "signed", type := 4, offset := 2, embedded := Bool.false, tag := "", pkgPath := "runtime", byteOffset := 16 }, { name := "code", type := 6, offset := 3, embedded := Bool.false, tag := "", pkgPath := "runtime", byteOffset := 17 }]) w := fun w => by kernel_rfl
@[simp] theorem Twin.isAgg8 : ∀ (w : Go.World), Go.Sem.run Go.Proofs.Twin.prog (Go.isAgg 8) w = Go.Result.ok Bool.true w := fun w => by kernel_rfl
@[simp] theorem Twin.eqGuardType8 : Go.Program.eqGuardType Go.Proofs.Twin.prog (Go.Program.depth Go.Proofs.Twin.prog) 8 = Bool.false := by kernel_rfl
@[simp] theorem Twin.zeroValue8 : ∀ (w : Go.World), Go.Sem.run Go.Proofs.Twin.prog (Go.zeroValue 8) w = Go.Result.ok (Go.Value.agg #[Go.Value.int Go.IntKind.i64 0, Go.Value.int Go.IntKind.i64 0, Go.Value.bool Bool.false, Go.Value.int Go.IntKind.u8 0]) w := fun w => by kernel_rfl
@[simp] theorem Twin.typeInfo8 (w : World) : Sem.run Twin.prog (typeInfo 8) w = .ok Try.t8 w := by kernel_rfl
@[simp] theorem Twin.type9 : (Go.Tables.types (Go.Program.toTables Go.Proofs.Twin.prog))[9]? = Option.some Go.Proofs.Try.t9 := by kernel_rfl
@[simp] theorem Twin.sizeOf9 : ∀ (w : Go.World), Go.Sem.run Go.Proofs.Twin.prog (Go.sizeOf 9) w = Go.Result.ok 1 w := fun w => by kernel_rfl
@[simp] theorem Twin.underlying9 : Go.Program.underlying Go.Proofs.Twin.prog 9 = Option.some Go.TypeDesc.string := by kernel_rfl
@[simp] theorem Twin.runUnderlying9 : ∀ (w : Go.World), Go.Sem.run Go.Proofs.Twin.prog (Go.underlying 9) w = Go.Result.ok Go.TypeDesc.string w := fun w => by kernel_rfl
@[simp] theorem Twin.isAgg9 : ∀ (w : Go.World), Go.Sem.run Go.Proofs.Twin.prog (Go.isAgg 9) w = Go.Result.ok Bool.false w := fun w => by kernel_rfl
@[simp] theorem Twin.zeroValue9 : ∀ (w : Go.World), Go.Sem.run Go.Proofs.Twin.prog (Go.zeroValue 9) w = Go.Result.ok (Go.Value.string { data := #[] }) w := fun w => by kernel_rfl
@[simp] theorem Twin.typeInfo9 (w : World) : Sem.run Twin.prog (typeInfo 9) w = .ok Try.t9 w := by kernel_rfl
@[simp] theorem Twin.type10 : (Go.Tables.types (Go.Program.toTables Go.Proofs.Twin.prog))[10]? = Option.some Go.Proofs.Try.t10 := by kernel_rfl
@[simp] theorem Twin.sizeOf10 : ∀ (w : Go.World), Go.Sem.run Go.Proofs.Twin.prog (Go.sizeOf 10) w = Go.Result.ok 1 w := fun w => by kernel_rfl
@[simp] theorem Twin.underlying10 : Go.Program.underlying Go.Proofs.Twin.prog 10 = Option.some Go.TypeDesc.string := by kernel_rfl
@[simp] theorem Twin.runUnderlying10 : ∀ (w : Go.World), Go.Sem.run Go.Proofs.Twin.prog (Go.underlying 10) w = Go.Result.ok Go.TypeDesc.string w := fun w => by kernel_rfl
@[simp] theorem Twin.isAgg10 : ∀ (w : Go.World), Go.Sem.run Go.Proofs.Twin.prog (Go.isAgg 10) w = Go.Result.ok Bool.false w := fun w => by kernel_rfl
@[simp] theorem Twin.zeroValue10 : ∀ (w : Go.World), Go.Sem.run Go.Proofs.Twin.prog (Go.zeroValue 10) w = Go.Result.ok (Go.Value.string { data := #[] }) w := fun w => by kernel_rfl
@[simp] theorem Twin.typeInfo10 (w : World) : Sem.run Twin.prog (typeInfo 10) w = .ok Try.t10 w := by kernel_rfl
@[simp] theorem Twin.type11 : (Go.Tables.types (Go.Program.toTables Go.Proofs.Twin.prog))[11]? = Option.some Go.Proofs.Try.t11 := by kernel_rfl
@[simp] theorem Twin.sizeOf11 : ∀ (w : Go.World), Go.Sem.run Go.Proofs.Twin.prog (Go.sizeOf 11) w = Go.Result.ok 1 w := fun w => by kernel_rfl
@[simp] theorem Twin.underlying11 : Go.Program.underlying Go.Proofs.Twin.prog 11 = Option.some Go.TypeDesc.string := by kernel_rfl
@[simp] theorem Twin.runUnderlying11 : ∀ (w : Go.World), Go.Sem.run Go.Proofs.Twin.prog (Go.underlying 11) w = Go.Result.ok Go.TypeDesc.string w := fun w => by kernel_rfl
@[simp] theorem Twin.isAgg11 : ∀ (w : Go.World), Go.Sem.run Go.Proofs.Twin.prog (Go.isAgg 11) w = Go.Result.ok Bool.false w := fun w => by kernel_rfl
@[simp] theorem Twin.zeroValue11 : ∀ (w : Go.World), Go.Sem.run Go.Proofs.Twin.prog (Go.zeroValue 11) w = Go.Result.ok (Go.Value.string { data := #[] }) w := fun w => by kernel_rfl
@[simp] theorem Twin.typeInfo11 (w : World) : Sem.run Twin.prog (typeInfo 11) w = .ok Try.t11 w := by kernel_rfl
@[simp] theorem Twin.type12 : (Go.Tables.types (Go.Program.toTables Go.Proofs.Twin.prog))[12]? = Option.some Go.Proofs.Try.t12 := by kernel_rfl
@[simp] theorem Twin.sizeOf12 : ∀ (w : Go.World), Go.Sem.run Go.Proofs.Twin.prog (Go.sizeOf 12) w = Go.Result.ok 1 w := fun w => by kernel_rfl
@[simp] theorem Twin.underlying12 : Go.Program.underlying Go.Proofs.Twin.prog 12 = Option.some (Go.TypeDesc.int Go.IntKind.u64) := by kernel_rfl
@[simp] theorem Twin.runUnderlying12 : ∀ (w : Go.World), Go.Sem.run Go.Proofs.Twin.prog (Go.underlying 12) w = Go.Result.ok (Go.TypeDesc.int Go.IntKind.u64) w := fun w => by kernel_rfl
@[simp] theorem Twin.isAgg12 : ∀ (w : Go.World), Go.Sem.run Go.Proofs.Twin.prog (Go.isAgg 12) w = Go.Result.ok Bool.false w := fun w => by kernel_rfl
@[simp] theorem Twin.zeroValue12 : ∀ (w : Go.World), Go.Sem.run Go.Proofs.Twin.prog (Go.zeroValue 12) w = Go.Result.ok (Go.Value.int Go.IntKind.u64 0) w := fun w => by kernel_rfl
@[simp] theorem Twin.typeInfo12 (w : World) : Sem.run Twin.prog (typeInfo 12) w = .ok Try.t12 w := by kernel_rfl
@[simp] theorem Twin.type13 : (Go.Tables.types (Go.Program.toTables Go.Proofs.Twin.prog))[13]? = Option.some Go.Proofs.Try.t13 := by kernel_rfl
@[simp] theorem Twin.sizeOf13 : ∀ (w : Go.World), Go.Sem.run Go.Proofs.Twin.prog (Go.sizeOf 13) w = Go.Result.ok 2 w := fun w => by kernel_rfl
@[simp] theorem Twin.underlying13 : Go.Program.underlying Go.Proofs.Twin.prog 13 = Option.some (Go.TypeDesc.struct #[{ name := "msg", type := 9, offset := 0, embedded := Bool.false, tag := "", pkgPath := "runtime", byteOffset := 0 }, { name := "addr", type := 12, offset := 1, embedded := Bool.false, tag := "", pkgPath := "runtime", byteOffset := 16 }]) := by kernel_rfl
@[simp] theorem Twin.runUnderlying13 : ∀ (w : Go.World), Go.Sem.run Go.Proofs.Twin.prog (Go.underlying 13) w = Go.Result.ok (Go.TypeDesc.struct #[{ name := "msg", type := 9, offset := 0, embedded := Bool.false, tag := "", pkgPath := "runtime", byteOffset := 0 }, { name := "addr", type := 12, offset := 1, embedded := Bool.false, tag := "", pkgPath := "runtime", byteOffset := 16 }]) w := fun w => by kernel_rfl
@[simp] theorem Twin.isAgg13 : ∀ (w : Go.World), Go.Sem.run Go.Proofs.Twin.prog (Go.isAgg 13) w = Go.Result.ok Bool.true w := fun w => by kernel_rfl
@[simp] theorem Twin.eqGuardType13 : Go.Program.eqGuardType Go.Proofs.Twin.prog (Go.Program.depth Go.Proofs.Twin.prog) 13 = Bool.false := by kernel_rfl
@[simp] theorem Twin.zeroValue13 : ∀ (w : Go.World), Go.Sem.run Go.Proofs.Twin.prog (Go.zeroValue 13) w = Go.Result.ok (Go.Value.agg #[Go.Value.string { data := #[] }, Go.Value.int Go.IntKind.u64 0]) w := fun w => by kernel_rfl
@[simp] theorem Twin.typeInfo13 (w : World) : Sem.run Twin.prog (typeInfo 13) w = .ok Try.t13 w := by kernel_rfl
@[simp] theorem Twin.type14 : (Go.Tables.types (Go.Program.toTables Go.Proofs.Twin.prog))[14]? = Option.some Go.Proofs.Try.t14 := by kernel_rfl
@[simp] theorem Twin.sizeOf14 : ∀ (w : Go.World), Go.Sem.run Go.Proofs.Twin.prog (Go.sizeOf 14) w = Go.Result.ok 2 w := fun w => by kernel_rfl
@[simp] theorem Twin.underlying14 : Go.Program.underlying Go.Proofs.Twin.prog 14 = Option.some (Go.TypeDesc.struct #[{ name := "msg", type := 9, offset := 0, embedded := Bool.false, tag := "", pkgPath := "runtime", byteOffset := 0 }, { name := "addr", type := 12, offset := 1, embedded := Bool.false, tag := "", pkgPath := "runtime", byteOffset := 16 }]) := by kernel_rfl
@[simp] theorem Twin.runUnderlying14 : ∀ (w : Go.World), Go.Sem.run Go.Proofs.Twin.prog (Go.underlying 14) w = Go.Result.ok (Go.TypeDesc.struct #[{ name := "msg", type := 9, offset := 0, embedded := Bool.false, tag := "", pkgPath := "runtime", byteOffset := 0 }, { name := "addr", type := 12, offset := 1, embedded := Bool.false, tag := "", pkgPath := "runtime", byteOffset := 16 }]) w := fun w => by kernel_rfl
@[simp] theorem Twin.isAgg14 : ∀ (w : Go.World), Go.Sem.run Go.Proofs.Twin.prog (Go.isAgg 14) w = Go.Result.ok Bool.true w := fun w => by kernel_rfl
@[simp] theorem Twin.eqGuardType14 : Go.Program.eqGuardType Go.Proofs.Twin.prog (Go.Program.depth Go.Proofs.Twin.prog) 14 = Bool.false := by kernel_rfl
@[simp] theorem Twin.zeroValue14 : ∀ (w : Go.World), Go.Sem.run Go.Proofs.Twin.prog (Go.zeroValue 14) w = Go.Result.ok (Go.Value.agg #[Go.Value.string { data := #[] }, Go.Value.int Go.IntKind.u64 0]) w := fun w => by kernel_rfl
@[simp] theorem Twin.typeInfo14 (w : World) : Sem.run Twin.prog (typeInfo 14) w = .ok Try.t14 w := by kernel_rfl
@[simp] theorem Twin.type15 : (Go.Tables.types (Go.Program.toTables Go.Proofs.Twin.prog))[15]? = Option.some Go.Proofs.Try.t15 := by kernel_rfl
@[simp] theorem Twin.sizeOf15 : ∀ (w : Go.World), Go.Sem.run Go.Proofs.Twin.prog (Go.sizeOf 15) w = Go.Result.ok 1 w := fun w => by kernel_rfl
@[simp] theorem Twin.underlying15 : Go.Program.underlying Go.Proofs.Twin.prog 15 = Option.some (Go.TypeDesc.pointer 109) := by kernel_rfl
@[simp] theorem Twin.runUnderlying15 : ∀ (w : Go.World), Go.Sem.run Go.Proofs.Twin.prog (Go.underlying 15) w = Go.Result.ok (Go.TypeDesc.pointer 109) w := fun w => by kernel_rfl
@[simp] theorem Twin.isAgg15 : ∀ (w : Go.World), Go.Sem.run Go.Proofs.Twin.prog (Go.isAgg 15) w = Go.Result.ok Bool.false w := fun w => by kernel_rfl
@[simp] theorem Twin.zeroValue15 : ∀ (w : Go.World), Go.Sem.run Go.Proofs.Twin.prog (Go.zeroValue 15) w = Go.Result.ok (Go.Value.pointer Option.none) w := fun w => by kernel_rfl
@[simp] theorem Twin.typeInfo15 (w : World) : Sem.run Twin.prog (typeInfo 15) w = .ok Try.t15 w := by kernel_rfl
@[simp] theorem Twin.type16 : (Go.Tables.types (Go.Program.toTables Go.Proofs.Twin.prog))[16]? = Option.some Go.Proofs.Try.t16 := by kernel_rfl
@[simp] theorem Twin.sizeOf16 : ∀ (w : Go.World), Go.Sem.run Go.Proofs.Twin.prog (Go.sizeOf 16) w = Go.Result.ok 1 w := fun w => by kernel_rfl
@[simp] theorem Twin.underlying16 : Go.Program.underlying Go.Proofs.Twin.prog 16 = Option.some (Go.TypeDesc.pointer 112) := by kernel_rfl
@[simp] theorem Twin.runUnderlying16 : ∀ (w : Go.World), Go.Sem.run Go.Proofs.Twin.prog (Go.underlying 16) w = Go.Result.ok (Go.TypeDesc.pointer 112) w := fun w => by kernel_rfl
@[simp] theorem Twin.isAgg16 : ∀ (w : Go.World), Go.Sem.run Go.Proofs.Twin.prog (Go.isAgg 16) w = Go.Result.ok Bool.false w := fun w => by kernel_rfl
@[simp] theorem Twin.zeroValue16 : ∀ (w : Go.World), Go.Sem.run Go.Proofs.Twin.prog (Go.zeroValue 16) w = Go.Result.ok (Go.Value.pointer Option.none) w := fun w => by kernel_rfl
@[simp] theorem Twin.typeInfo16 (w : World) : Sem.run Twin.prog (typeInfo 16) w = .ok Try.t16 w := by kernel_rfl
@[simp] theorem Twin.type17 : (Go.Tables.types (Go.Program.toTables Go.Proofs.Twin.prog))[17]? = Option.some Go.Proofs.Try.t17 := by kernel_rfl
@[simp] theorem Twin.sizeOf17 : ∀ (w : Go.World), Go.Sem.run Go.Proofs.Twin.prog (Go.sizeOf 17) w = Go.Result.ok 1 w := fun w => by kernel_rfl
@[simp] theorem Twin.underlying17 : Go.Program.underlying Go.Proofs.Twin.prog 17 = Option.some (Go.TypeDesc.pointer 120) := by kernel_rfl
@[simp] theorem Twin.runUnderlying17 : ∀ (w : Go.World), Go.Sem.run Go.Proofs.Twin.prog (Go.underlying 17) w = Go.Result.ok (Go.TypeDesc.pointer 120) w := fun w => by kernel_rfl
@[simp] theorem Twin.isAgg17 : ∀ (w : Go.World), Go.Sem.run Go.Proofs.Twin.prog (Go.isAgg 17) w = Go.Result.ok Bool.false w := fun w => by kernel_rfl
@[simp] theorem Twin.zeroValue17 : ∀ (w : Go.World), Go.Sem.run Go.Proofs.Twin.prog (Go.zeroValue 17) w = Go.Result.ok (Go.Value.pointer Option.none) w := fun w => by kernel_rfl
@[simp] theorem Twin.typeInfo17 (w : World) : Sem.run Twin.prog (typeInfo 17) w = .ok Try.t17 w := by kernel_rfl
@[simp] theorem Twin.type18 : (Go.Tables.types (Go.Program.toTables Go.Proofs.Twin.prog))[18]? = Option.some Go.Proofs.Try.t18 := by kernel_rfl
@[simp] theorem Twin.sizeOf18 : ∀ (w : Go.World), Go.Sem.run Go.Proofs.Twin.prog (Go.sizeOf 18) w = Go.Result.ok 1 w := fun w => by kernel_rfl
@[simp] theorem Twin.underlying18 : Go.Program.underlying Go.Proofs.Twin.prog 18 = Option.some (Go.TypeDesc.struct #[{ name := "typ", type := 17, offset := 0, embedded := Bool.false, tag := "", pkgPath := "internal/runtime/maps", byteOffset := 0 }]) := by kernel_rfl
@[simp] theorem Twin.runUnderlying18 : ∀ (w : Go.World), Go.Sem.run Go.Proofs.Twin.prog (Go.underlying 18) w = Go.Result.ok (Go.TypeDesc.struct #[{ name := "typ", type := 17, offset := 0, embedded := Bool.false, tag := "", pkgPath := "internal/runtime/maps", byteOffset := 0 }]) w := fun w => by kernel_rfl
@[simp] theorem Twin.isAgg18 : ∀ (w : Go.World), Go.Sem.run Go.Proofs.Twin.prog (Go.isAgg 18) w = Go.Result.ok Bool.true w := fun w => by kernel_rfl
@[simp] theorem Twin.eqGuardType18 : Go.Program.eqGuardType Go.Proofs.Twin.prog (Go.Program.depth Go.Proofs.Twin.prog) 18 = Bool.false := by kernel_rfl
@[simp] theorem Twin.zeroValue18 : ∀ (w : Go.World), Go.Sem.run Go.Proofs.Twin.prog (Go.zeroValue 18) w = Go.Result.ok (Go.Value.agg #[Go.Value.pointer Option.none]) w := fun w => by kernel_rfl
@[simp] theorem Twin.typeInfo18 (w : World) : Sem.run Twin.prog (typeInfo 18) w = .ok Try.t18 w := by kernel_rfl
@[simp] theorem Twin.type19 : (Go.Tables.types (Go.Program.toTables Go.Proofs.Twin.prog))[19]? = Option.some Go.Proofs.Try.t19 := by kernel_rfl
@[simp] theorem Twin.sizeOf19 : ∀ (w : Go.World), Go.Sem.run Go.Proofs.Twin.prog (Go.sizeOf 19) w = Go.Result.ok 1 w := fun w => by kernel_rfl
@[simp] theorem Twin.underlying19 : Go.Program.underlying Go.Proofs.Twin.prog 19 = Option.some (Go.TypeDesc.struct #[{ name := "typ", type := 17, offset := 0, embedded := Bool.false, tag := "", pkgPath := "internal/runtime/maps", byteOffset := 0 }]) := by kernel_rfl
@[simp] theorem Twin.runUnderlying19 : ∀ (w : Go.World), Go.Sem.run Go.Proofs.Twin.prog (Go.underlying 19) w = Go.Result.ok (Go.TypeDesc.struct #[{ name := "typ", type := 17, offset := 0, embedded := Bool.false, tag := "", pkgPath := "internal/runtime/maps", byteOffset := 0 }]) w := fun w => by kernel_rfl
@[simp] theorem Twin.isAgg19 : ∀ (w : Go.World), Go.Sem.run Go.Proofs.Twin.prog (Go.isAgg 19) w = Go.Result.ok Bool.true w := fun w => by kernel_rfl
@[simp] theorem Twin.eqGuardType19 : Go.Program.eqGuardType Go.Proofs.Twin.prog (Go.Program.depth Go.Proofs.Twin.prog) 19 = Bool.false := by kernel_rfl
@[simp] theorem Twin.zeroValue19 : ∀ (w : Go.World), Go.Sem.run Go.Proofs.Twin.prog (Go.zeroValue 19) w = Go.Result.ok (Go.Value.agg #[Go.Value.pointer Option.none]) w := fun w => by kernel_rfl
@[simp] theorem Twin.typeInfo19 (w : World) : Sem.run Twin.prog (typeInfo 19) w = .ok Try.t19 w := by kernel_rfl
@[simp] theorem Twin.type20 : (Go.Tables.types (Go.Program.toTables Go.Proofs.Twin.prog))[20]? = Option.some Go.Proofs.Try.t20 := by kernel_rfl
@[simp] theorem Twin.sizeOf20 : ∀ (w : Go.World), Go.Sem.run Go.Proofs.Twin.prog (Go.sizeOf 20) w = Go.Result.ok 1 w := fun w => by kernel_rfl
@[simp] theorem Twin.underlying20 : Go.Program.underlying Go.Proofs.Twin.prog 20 = Option.some (Go.TypeDesc.interface #[]) := by kernel_rfl
@[simp] theorem Twin.runUnderlying20 : ∀ (w : Go.World), Go.Sem.run Go.Proofs.Twin.prog (Go.underlying 20) w = Go.Result.ok (Go.TypeDesc.interface #[]) w := fun w => by kernel_rfl
@[simp] theorem Twin.isAgg20 : ∀ (w : Go.World), Go.Sem.run Go.Proofs.Twin.prog (Go.isAgg 20) w = Go.Result.ok Bool.false w := fun w => by kernel_rfl
@[simp] theorem Twin.zeroValue20 : ∀ (w : Go.World), Go.Sem.run Go.Proofs.Twin.prog (Go.zeroValue 20) w = Go.Result.ok Go.Value.nilIface w := fun w => by kernel_rfl
@[simp] theorem Twin.typeInfo20 (w : World) : Sem.run Twin.prog (typeInfo 20) w = .ok Try.t20 w := by kernel_rfl
@[simp] theorem Twin.type21 : (Go.Tables.types (Go.Program.toTables Go.Proofs.Twin.prog))[21]? = Option.some Go.Proofs.Try.t21 := by kernel_rfl
@[simp] theorem Twin.sizeOf21 : ∀ (w : Go.World), Go.Sem.run Go.Proofs.Twin.prog (Go.sizeOf 21) w = Go.Result.ok 1 w := fun w => by kernel_rfl
@[simp] theorem Twin.underlying21 : Go.Program.underlying Go.Proofs.Twin.prog 21 = Option.some (Go.TypeDesc.int Go.IntKind.i32) := by kernel_rfl
@[simp] theorem Twin.runUnderlying21 : ∀ (w : Go.World), Go.Sem.run Go.Proofs.Twin.prog (Go.underlying 21) w = Go.Result.ok (Go.TypeDesc.int Go.IntKind.i32) w := fun w => by kernel_rfl
@[simp] theorem Twin.isAgg21 : ∀ (w : Go.World), Go.Sem.run Go.Proofs.Twin.prog (Go.isAgg 21) w = Go.Result.ok Bool.false w := fun w => by kernel_rfl
@[simp] theorem Twin.zeroValue21 : ∀ (w : Go.World), Go.Sem.run Go.Proofs.Twin.prog (Go.zeroValue 21) w = Go.Result.ok (Go.Value.int Go.IntKind.i32 0) w := fun w => by kernel_rfl
@[simp] theorem Twin.typeInfo21 (w : World) : Sem.run Twin.prog (typeInfo 21) w = .ok Try.t21 w := by kernel_rfl
@[simp] theorem Twin.type22 : (Go.Tables.types (Go.Program.toTables Go.Proofs.Twin.prog))[22]? = Option.some Go.Proofs.Try.t22 := by kernel_rfl
@[simp] theorem Twin.sizeOf22 : ∀ (w : Go.World), Go.Sem.run Go.Proofs.Twin.prog (Go.sizeOf 22) w = Go.Result.ok 1 w := fun w => by kernel_rfl
@[simp] theorem Twin.underlying22 : Go.Program.underlying Go.Proofs.Twin.prog 22 = Option.some (Go.TypeDesc.slice 5) := by kernel_rfl
@[simp] theorem Twin.runUnderlying22 : ∀ (w : Go.World), Go.Sem.run Go.Proofs.Twin.prog (Go.underlying 22) w = Go.Result.ok (Go.TypeDesc.slice 5) w := fun w => by kernel_rfl
@[simp] theorem Twin.isAgg22 : ∀ (w : Go.World), Go.Sem.run Go.Proofs.Twin.prog (Go.isAgg 22) w = Go.Result.ok Bool.false w := fun w => by kernel_rfl
@[simp] theorem Twin.zeroValue22 : ∀ (w : Go.World), Go.Sem.run Go.Proofs.Twin.prog (Go.zeroValue 22) w = Go.Result.ok (Go.Value.slice Option.none 0 0) w := fun w => by kernel_rfl
@[simp] theorem Twin.typeInfo22 (w : World) : Sem.run Twin.prog (typeInfo 22) w = .ok Try.t22 w := by kernel_rfl
@[simp] theorem Twin.type23 : (Go.Tables.types (Go.Program.toTables Go.Proofs.Twin.prog))[23]? = Option.some Go.Proofs.Try.t23 := by kernel_rfl
@[simp] theorem Twin.sizeOf23 : ∀ (w : Go.World), Go.Sem.run Go.Proofs.Twin.prog (Go.sizeOf 23) w = Go.Result.ok 1 w := fun w => by kernel_rfl
@[simp] theorem Twin.underlying23 : Go.Program.underlying Go.Proofs.Twin.prog 23 = Option.some (Go.TypeDesc.slice 3) := by kernel_rfl
@[simp] theorem Twin.runUnderlying23 : ∀ (w : Go.World), Go.Sem.run Go.Proofs.Twin.prog (Go.underlying 23) w = Go.Result.ok (Go.TypeDesc.slice 3) w := fun w => by kernel_rfl
@[simp] theorem Twin.isAgg23 : ∀ (w : Go.World), Go.Sem.run Go.Proofs.Twin.prog (Go.isAgg 23) w = Go.Result.ok Bool.false w := fun w => by kernel_rfl
@[simp] theorem Twin.zeroValue23 : ∀ (w : Go.World), Go.Sem.run Go.Proofs.Twin.prog (Go.zeroValue 23) w = Go.Result.ok (Go.Value.slice Option.none 0 0) w := fun w => by kernel_rfl
@[simp] theorem Twin.typeInfo23 (w : World) : Sem.run Twin.prog (typeInfo 23) w = .ok Try.t23 w := by kernel_rfl
@[simp] theorem Twin.type24 : (Go.Tables.types (Go.Program.toTables Go.Proofs.Twin.prog))[24]? = Option.some Go.Proofs.Try.t24 := by kernel_rfl
@[simp] theorem Twin.sizeOf24 : ∀ (w : Go.World), Go.Sem.run Go.Proofs.Twin.prog (Go.sizeOf 24) w = Go.Result.ok 1 w := fun w => by kernel_rfl
@[simp] theorem Twin.underlying24 : Go.Program.underlying Go.Proofs.Twin.prog 24 = Option.some (Go.TypeDesc.tuple #[23, 23]) := by kernel_rfl
@[simp] theorem Twin.runUnderlying24 : ∀ (w : Go.World), Go.Sem.run Go.Proofs.Twin.prog (Go.underlying 24) w = Go.Result.ok (Go.TypeDesc.tuple #[23, 23]) w := fun w => by kernel_rfl
@[simp] theorem Twin.isAgg24 : ∀ (w : Go.World), Go.Sem.run Go.Proofs.Twin.prog (Go.isAgg 24) w = Go.Result.ok Bool.false w := fun w => by kernel_rfl
@[simp] theorem Twin.zeroValue24 : ∀ (w : Go.World), Go.Sem.run Go.Proofs.Twin.prog (Go.zeroValue 24) w = Go.Result.ok (Go.Value.tuple #[Go.Value.slice Option.none 0 0, Go.Value.slice Option.none 0 0]) w := fun w => by kernel_rfl
@[simp] theorem Twin.typeInfo24 (w : World) : Sem.run Twin.prog (typeInfo 24) w = .ok Try.t24 w := by kernel_rfl
@[simp] theorem Twin.type25 : (Go.Tables.types (Go.Program.toTables Go.Proofs.Twin.prog))[25]? = Option.some Go.Proofs.Try.t25 := by kernel_rfl
@[simp] theorem Twin.sizeOf25 : ∀ (w : Go.World), Go.Sem.run Go.Proofs.Twin.prog (Go.sizeOf 25) w = Go.Result.ok 1 w := fun w => by kernel_rfl
@[simp] theorem Twin.underlying25 : Go.Program.underlying Go.Proofs.Twin.prog 25 = Option.some (Go.TypeDesc.func #[22] #[23, 23] Bool.false) := by kernel_rfl
@[simp] theorem Twin.runUnderlying25 : ∀ (w : Go.World), Go.Sem.run Go.Proofs.Twin.prog (Go.underlying 25) w = Go.Result.ok (Go.TypeDesc.func #[22] #[23, 23] Bool.false) w := fun w => by kernel_rfl
@[simp] theorem Twin.isAgg25 : ∀ (w : Go.World), Go.Sem.run Go.Proofs.Twin.prog (Go.isAgg 25) w = Go.Result.ok Bool.false w := fun w => by kernel_rfl
@[simp] theorem Twin.zeroValue25 : ∀ (w : Go.World), Go.Sem.run Go.Proofs.Twin.prog (Go.zeroValue 25) w = Go.Result.ok Go.Value.nilFunc w := fun w => by kernel_rfl
@[simp] theorem Twin.typeInfo25 (w : World) : Sem.run Twin.prog (typeInfo 25) w = .ok Try.t25 w := by kernel_rfl
@[simp] theorem Twin.type26 : (Go.Tables.types (Go.Program.toTables Go.Proofs.Twin.prog))[26]? = Option.some Go.Proofs.Try.t26 := by kernel_rfl
@[simp] theorem Twin.sizeOf26 : ∀ (w : Go.World), Go.Sem.run Go.Proofs.Twin.prog (Go.sizeOf 26) w = Go.Result.ok 1 w := fun w => by kernel_rfl
@[simp] theorem Twin.underlying26 : Go.Program.underlying Go.Proofs.Twin.prog 26 = Option.some (Go.TypeDesc.tuple #[23, 4]) := by kernel_rfl
@[simp] theorem Twin.runUnderlying26 : ∀ (w : Go.World), Go.Sem.run Go.Proofs.Twin.prog (Go.underlying 26) w = Go.Result.ok (Go.TypeDesc.tuple #[23, 4]) w := fun w => by kernel_rfl
@[simp] theorem Twin.isAgg26 : ∀ (w : Go.World), Go.Sem.run Go.Proofs.Twin.prog (Go.isAgg 26) w = Go.Result.ok Bool.false w := fun w => by kernel_rfl
@[simp] theorem Twin.zeroValue26 : ∀ (w : Go.World), Go.Sem.run Go.Proofs.Twin.prog (Go.zeroValue 26) w = Go.Result.ok (Go.Value.tuple #[Go.Value.slice Option.none 0 0, Go.Value.bool Bool.false]) w := fun w => by kernel_rfl
@[simp] theorem Twin.typeInfo26 (w : World) : Sem.run Twin.prog (typeInfo 26) w = .ok Try.t26 w := by kernel_rfl
@[simp] theorem Twin.type27 : (Go.Tables.types (Go.Program.toTables Go.Proofs.Twin.prog))[27]? = Option.some Go.Proofs.Try.t27 := by kernel_rfl
@[simp] theorem Twin.sizeOf27 : ∀ (w : Go.World), Go.Sem.run Go.Proofs.Twin.prog (Go.sizeOf 27) w = Go.Result.ok 1 w := fun w => by kernel_rfl
@[simp] theorem Twin.underlying27 : Go.Program.underlying Go.Proofs.Twin.prog 27 = Option.some (Go.TypeDesc.func #[23, 23] #[23, 4] Bool.false) := by kernel_rfl
@[simp] theorem Twin.runUnderlying27 : ∀ (w : Go.World), Go.Sem.run Go.Proofs.Twin.prog (Go.underlying 27) w = Go.Result.ok (Go.TypeDesc.func #[23, 23] #[23, 4] Bool.false) w := fun w => by kernel_rfl
@[simp] theorem Twin.isAgg27 : ∀ (w : Go.World), Go.Sem.run Go.Proofs.Twin.prog (Go.isAgg 27) w = Go.Result.ok Bool.false w := fun w => by kernel_rfl
@[simp] theorem Twin.zeroValue27 : ∀ (w : Go.World), Go.Sem.run Go.Proofs.Twin.prog (Go.zeroValue 27) w = Go.Result.ok Go.Value.nilFunc w := fun w => by kernel_rfl
@[simp] theorem Twin.typeInfo27 (w : World) : Sem.run Twin.prog (typeInfo 27) w = .ok Try.t27 w := by kernel_rfl
@[simp] theorem Twin.type28 : (Go.Tables.types (Go.Program.toTables Go.Proofs.Twin.prog))[28]? = Option.some Go.Proofs.Try.t28 := by kernel_rfl
@[simp] theorem Twin.sizeOf28 : ∀ (w : Go.World), Go.Sem.run Go.Proofs.Twin.prog (Go.sizeOf 28) w = Go.Result.ok 1 w := fun w => by kernel_rfl
@[simp] theorem Twin.underlying28 : Go.Program.underlying Go.Proofs.Twin.prog 28 = Option.some (Go.TypeDesc.func #[23, 23] #[4] Bool.false) := by kernel_rfl
@[simp] theorem Twin.runUnderlying28 : ∀ (w : Go.World), Go.Sem.run Go.Proofs.Twin.prog (Go.underlying 28) w = Go.Result.ok (Go.TypeDesc.func #[23, 23] #[4] Bool.false) w := fun w => by kernel_rfl
@[simp] theorem Twin.isAgg28 : ∀ (w : Go.World), Go.Sem.run Go.Proofs.Twin.prog (Go.isAgg 28) w = Go.Result.ok Bool.false w := fun w => by kernel_rfl
@[simp] theorem Twin.zeroValue28 : ∀ (w : Go.World), Go.Sem.run Go.Proofs.Twin.prog (Go.zeroValue 28) w = Go.Result.ok Go.Value.nilFunc w := fun w => by kernel_rfl
@[simp] theorem Twin.typeInfo28 (w : World) : Sem.run Twin.prog (typeInfo 28) w = .ok Try.t28 w := by kernel_rfl
@[simp] theorem Twin.type29 : (Go.Tables.types (Go.Program.toTables Go.Proofs.Twin.prog))[29]? = Option.some Go.Proofs.Try.t29 := by kernel_rfl
@[simp] theorem Twin.sizeOf29 : ∀ (w : Go.World), Go.Sem.run Go.Proofs.Twin.prog (Go.sizeOf 29) w = Go.Result.ok 1 w := fun w => by kernel_rfl
@[simp] theorem Twin.underlying29 : Go.Program.underlying Go.Proofs.Twin.prog 29 = Option.some (Go.TypeDesc.func #[3, 3] #[23] Bool.false) := by kernel_rfl
@[simp] theorem Twin.runUnderlying29 : ∀ (w : Go.World), Go.Sem.run Go.Proofs.Twin.prog (Go.underlying 29) w = Go.Result.ok (Go.TypeDesc.func #[3, 3] #[23] Bool.false) w := fun w => by kernel_rfl
@[simp] theorem Twin.isAgg29 : ∀ (w : Go.World), Go.Sem.run Go.Proofs.Twin.prog (Go.isAgg 29) w = Go.Result.ok Bool.false w := fun w => by kernel_rfl
@[simp] theorem Twin.zeroValue29 : ∀ (w : Go.World), Go.Sem.run Go.Proofs.Twin.prog (Go.zeroValue 29) w = Go.Result.ok Go.Value.nilFunc w := fun w => by kernel_rfl
@[simp] theorem Twin.typeInfo29 (w : World) : Sem.run Twin.prog (typeInfo 29) w = .ok Try.t29 w := by kernel_rfl
@[simp] theorem Twin.type30 : (Go.Tables.types (Go.Program.toTables Go.Proofs.Twin.prog))[30]? = Option.some Go.Proofs.Try.t30 := by kernel_rfl
@[simp] theorem Twin.sizeOf30 : ∀ (w : Go.World), Go.Sem.run Go.Proofs.Twin.prog (Go.sizeOf 30) w = Go.Result.ok 1 w := fun w => by kernel_rfl
@[simp] theorem Twin.underlying30 : Go.Program.underlying Go.Proofs.Twin.prog 30 = Option.some (Go.TypeDesc.tuple #[23, 23, 4]) := by kernel_rfl
@[simp] theorem Twin.runUnderlying30 : ∀ (w : Go.World), Go.Sem.run Go.Proofs.Twin.prog (Go.underlying 30) w = Go.Result.ok (Go.TypeDesc.tuple #[23, 23, 4]) w := fun w => by kernel_rfl
@[simp] theorem Twin.isAgg30 : ∀ (w : Go.World), Go.Sem.run Go.Proofs.Twin.prog (Go.isAgg 30) w = Go.Result.ok Bool.false w := fun w => by kernel_rfl
@[simp] theorem Twin.zeroValue30 : ∀ (w : Go.World), Go.Sem.run Go.Proofs.Twin.prog (Go.zeroValue 30) w = Go.Result.ok (Go.Value.tuple #[Go.Value.slice Option.none 0 0, Go.Value.slice Option.none 0 0, Go.Value.bool Bool.false]) w := fun w => by kernel_rfl
@[simp] theorem Twin.typeInfo30 (w : World) : Sem.run Twin.prog (typeInfo 30) w = .ok Try.t30 w := by kernel_rfl
@[simp] theorem Twin.type31 : (Go.Tables.types (Go.Program.toTables Go.Proofs.Twin.prog))[31]? = Option.some Go.Proofs.Try.t31 := by kernel_rfl
@[simp] theorem Twin.sizeOf31 : ∀ (w : Go.World), Go.Sem.run Go.Proofs.Twin.prog (Go.sizeOf 31) w = Go.Result.ok 1 w := fun w => by kernel_rfl
@[simp] theorem Twin.underlying31 : Go.Program.underlying Go.Proofs.Twin.prog 31 = Option.some (Go.TypeDesc.func #[23, 23] #[23, 23, 4] Bool.false) := by kernel_rfl
@[simp] theorem Twin.runUnderlying31 : ∀ (w : Go.World), Go.Sem.run Go.Proofs.Twin.prog (Go.underlying 31) w = Go.Result.ok (Go.TypeDesc.func #[23, 23] #[23, 23, 4] Bool.false) w := fun w => by kernel_rfl
@[simp] theorem Twin.isAgg31 : ∀ (w : Go.World), Go.Sem.run Go.Proofs.Twin.prog (Go.isAgg 31) w = Go.Result.ok Bool.false w := fun w => by kernel_rfl
@[simp] theorem Twin.zeroValue31 : ∀ (w : Go.World), Go.Sem.run Go.Proofs.Twin.prog (Go.zeroValue 31) w = Go.Result.ok Go.Value.nilFunc w := fun w => by kernel_rfl
@[simp] theorem Twin.typeInfo31 (w : World) : Sem.run Twin.prog (typeInfo 31) w = .ok Try.t31 w := by kernel_rfl
@[simp] theorem Twin.type32 : (Go.Tables.types (Go.Program.toTables Go.Proofs.Twin.prog))[32]? = Option.some Go.Proofs.Try.t32 := by kernel_rfl
@[simp] theorem Twin.sizeOf32 : ∀ (w : Go.World), Go.Sem.run Go.Proofs.Twin.prog (Go.sizeOf 32) w = Go.Result.ok 1 w := fun w => by kernel_rfl
@[simp] theorem Twin.underlying32 : Go.Program.underlying Go.Proofs.Twin.prog 32 = Option.some (Go.TypeDesc.func #[22, 22] #[4] Bool.false) := by kernel_rfl
@[simp] theorem Twin.runUnderlying32 : ∀ (w : Go.World), Go.Sem.run Go.Proofs.Twin.prog (Go.underlying 32) w = Go.Result.ok (Go.TypeDesc.func #[22, 22] #[4] Bool.false) w := fun w => by kernel_rfl
@[simp] theorem Twin.isAgg32 : ∀ (w : Go.World), Go.Sem.run Go.Proofs.Twin.prog (Go.isAgg 32) w = Go.Result.ok Bool.false w := fun w => by kernel_rfl
@[simp] theorem Twin.zeroValue32 : ∀ (w : Go.World), Go.Sem.run Go.Proofs.Twin.prog (Go.zeroValue 32) w = Go.Result.ok Go.Value.nilFunc w := fun w => by kernel_rfl
@[simp] theorem Twin.typeInfo32 (w : World) : Sem.run Twin.prog (typeInfo 32) w = .ok Try.t32 w := by kernel_rfl
@[simp] theorem Twin.type33 : (Go.Tables.types (Go.Program.toTables Go.Proofs.Twin.prog))[33]? = Option.some Go.Proofs.Try.t33 := by kernel_rfl
@[simp] theorem Twin.sizeOf33 : ∀ (w : Go.World), Go.Sem.run Go.Proofs.Twin.prog (Go.sizeOf 33) w = Go.Result.ok 1 w := fun w => by kernel_rfl
@[simp] theorem Twin.underlying33 : Go.Program.underlying Go.Proofs.Twin.prog 33 = Option.some (Go.TypeDesc.func #[3, 3] #[3] Bool.false) := by kernel_rfl
@[simp] theorem Twin.runUnderlying33 : ∀ (w : Go.World), Go.Sem.run Go.Proofs.Twin.prog (Go.underlying 33) w = Go.Result.ok (Go.TypeDesc.func #[3, 3] #[3] Bool.false) w := fun w => by kernel_rfl
@[simp] theorem Twin.isAgg33 : ∀ (w : Go.World), Go.Sem.run Go.Proofs.Twin.prog (Go.isAgg 33) w = Go.Result.ok Bool.false w := fun w => by kernel_rfl
@[simp] theorem Twin.zeroValue33 : ∀ (w : Go.World), Go.Sem.run Go.Proofs.Twin.prog (Go.zeroValue 33) w = Go.Result.ok Go.Value.nilFunc w := fun w => by kernel_rfl
@[simp] theorem Twin.typeInfo33 (w : World) : Sem.run Twin.prog (typeInfo 33) w = .ok Try.t33 w := by kernel_rfl
@[simp] theorem Twin.type34 : (Go.Tables.types (Go.Program.toTables Go.Proofs.Twin.prog))[34]? = Option.some Go.Proofs.Try.t34 := by kernel_rfl
@[simp] theorem Twin.sizeOf34 : ∀ (w : Go.World), Go.Sem.run Go.Proofs.Twin.prog (Go.sizeOf 34) w = Go.Result.ok 1 w := fun w => by kernel_rfl
@[simp] theorem Twin.underlying34 : Go.Program.underlying Go.Proofs.Twin.prog 34 = Option.some (Go.TypeDesc.func #[22] #[23] Bool.false) := by kernel_rfl
@[simp] theorem Twin.runUnderlying34 : ∀ (w : Go.World), Go.Sem.run Go.Proofs.Twin.prog (Go.underlying 34) w = Go.Result.ok (Go.TypeDesc.func #[22] #[23] Bool.false) w := fun w => by kernel_rfl
@[simp] theorem Twin.isAgg34 : ∀ (w : Go.World), Go.Sem.run Go.Proofs.Twin.prog (Go.isAgg 34) w = Go.Result.ok Bool.false w := fun w => by kernel_rfl
@[simp] theorem Twin.zeroValue34 : ∀ (w : Go.World), Go.Sem.run Go.Proofs.Twin.prog (Go.zeroValue 34) w = Go.Result.ok Go.Value.nilFunc w := fun w => by kernel_rfl
@[simp] theorem Twin.typeInfo34 (w : World) : Sem.run Twin.prog (typeInfo 34) w = .ok Try.t34 w := by kernel_rfl
@[simp] theorem Twin.type35 : (Go.Tables.types (Go.Program.toTables Go.Proofs.Twin.prog))[35]? = Option.some Go.Proofs.Try.t35 := by kernel_rfl
@[simp] theorem Twin.sizeOf35 : ∀ (w : Go.World), Go.Sem.run Go.Proofs.Twin.prog (Go.sizeOf 35) w = Go.Result.ok 1 w := fun w => by kernel_rfl
@[simp] theorem Twin.underlying35 : Go.Program.underlying Go.Proofs.Twin.prog 35 = Option.some (Go.TypeDesc.func #[23] #[23] Bool.false) := by kernel_rfl
@[simp] theorem Twin.runUnderlying35 : ∀ (w : Go.World), Go.Sem.run Go.Proofs.Twin.prog (Go.underlying 35) w = Go.Result.ok (Go.TypeDesc.func #[23] #[23] Bool.false) w := fun w => by kernel_rfl
@[simp] theorem Twin.isAgg35 : ∀ (w : Go.World), Go.Sem.run Go.Proofs.Twin.prog (Go.isAgg 35) w = Go.Result.ok Bool.false w := fun w => by kernel_rfl
@[simp] theorem Twin.zeroValue35 : ∀ (w : Go.World), Go.Sem.run Go.Proofs.Twin.prog (Go.zeroValue 35) w = Go.Result.ok Go.Value.nilFunc w := fun w => by kernel_rfl
@[simp] theorem Twin.typeInfo35 (w : World) : Sem.run Twin.prog (typeInfo 35) w = .ok Try.t35 w := by kernel_rfl
@[simp] theorem Twin.type36 : (Go.Tables.types (Go.Program.toTables Go.Proofs.Twin.prog))[36]? = Option.some Go.Proofs.Try.t36 := by kernel_rfl
@[simp] theorem Twin.sizeOf36 : ∀ (w : Go.World), Go.Sem.run Go.Proofs.Twin.prog (Go.sizeOf 36) w = Go.Result.ok 1 w := fun w => by kernel_rfl
@[simp] theorem Twin.underlying36 : Go.Program.underlying Go.Proofs.Twin.prog 36 = Option.some (Go.TypeDesc.func #[23] #[4] Bool.false) := by kernel_rfl
@[simp] theorem Twin.runUnderlying36 : ∀ (w : Go.World), Go.Sem.run Go.Proofs.Twin.prog (Go.underlying 36) w = Go.Result.ok (Go.TypeDesc.func #[23] #[4] Bool.false) w := fun w => by kernel_rfl
@[simp] theorem Twin.isAgg36 : ∀ (w : Go.World), Go.Sem.run Go.Proofs.Twin.prog (Go.isAgg 36) w = Go.Result.ok Bool.false w := fun w => by kernel_rfl
@[simp] theorem Twin.zeroValue36 : ∀ (w : Go.World), Go.Sem.run Go.Proofs.Twin.prog (Go.zeroValue 36) w = Go.Result.ok Go.Value.nilFunc w := fun w => by kernel_rfl
@[simp] theorem Twin.typeInfo36 (w : World) : Sem.run Twin.prog (typeInfo 36) w = .ok Try.t36 w := by kernel_rfl
@[simp] theorem Twin.type37 : (Go.Tables.types (Go.Program.toTables Go.Proofs.Twin.prog))[37]? = Option.some Go.Proofs.Try.t37 := by kernel_rfl
@[simp] theorem Twin.sizeOf37 : ∀ (w : Go.World), Go.Sem.run Go.Proofs.Twin.prog (Go.sizeOf 37) w = Go.Result.ok 1 w := fun w => by kernel_rfl
@[simp] theorem Twin.underlying37 : Go.Program.underlying Go.Proofs.Twin.prog 37 = Option.some (Go.TypeDesc.func #[23, 3] #[3] Bool.false) := by kernel_rfl
@[simp] theorem Twin.runUnderlying37 : ∀ (w : Go.World), Go.Sem.run Go.Proofs.Twin.prog (Go.underlying 37) w = Go.Result.ok (Go.TypeDesc.func #[23, 3] #[3] Bool.false) w := fun w => by kernel_rfl
@[simp] theorem Twin.isAgg37 : ∀ (w : Go.World), Go.Sem.run Go.Proofs.Twin.prog (Go.isAgg 37) w = Go.Result.ok Bool.false w := fun w => by kernel_rfl
@[simp] theorem Twin.zeroValue37 : ∀ (w : Go.World), Go.Sem.run Go.Proofs.Twin.prog (Go.zeroValue 37) w = Go.Result.ok Go.Value.nilFunc w := fun w => by kernel_rfl
@[simp] theorem Twin.typeInfo37 (w : World) : Sem.run Twin.prog (typeInfo 37) w = .ok Try.t37 w := by kernel_rfl
@[simp] theorem Twin.type38 : (Go.Tables.types (Go.Program.toTables Go.Proofs.Twin.prog))[38]? = Option.some Go.Proofs.Try.t38 := by kernel_rfl
@[simp] theorem Twin.sizeOf38 : ∀ (w : Go.World), Go.Sem.run Go.Proofs.Twin.prog (Go.sizeOf 38) w = Go.Result.ok 1 w := fun w => by kernel_rfl
@[simp] theorem Twin.underlying38 : Go.Program.underlying Go.Proofs.Twin.prog 38 = Option.some (Go.TypeDesc.func #[22] #[4] Bool.false) := by kernel_rfl
@[simp] theorem Twin.runUnderlying38 : ∀ (w : Go.World), Go.Sem.run Go.Proofs.Twin.prog (Go.underlying 38) w = Go.Result.ok (Go.TypeDesc.func #[22] #[4] Bool.false) w := fun w => by kernel_rfl
@[simp] theorem Twin.isAgg38 : ∀ (w : Go.World), Go.Sem.run Go.Proofs.Twin.prog (Go.isAgg 38) w = Go.Result.ok Bool.false w := fun w => by kernel_rfl
@[simp] theorem Twin.zeroValue38 : ∀ (w : Go.World), Go.Sem.run Go.Proofs.Twin.prog (Go.zeroValue 38) w = Go.Result.ok Go.Value.nilFunc w := fun w => by kernel_rfl
@[simp] theorem Twin.typeInfo38 (w : World) : Sem.run Twin.prog (typeInfo 38) w = .ok Try.t38 w := by kernel_rfl
@[simp] theorem Twin.type39 : (Go.Tables.types (Go.Program.toTables Go.Proofs.Twin.prog))[39]? = Option.some Go.Proofs.Try.t39 := by kernel_rfl
@[simp] theorem Twin.sizeOf39 : ∀ (w : Go.World), Go.Sem.run Go.Proofs.Twin.prog (Go.sizeOf 39) w = Go.Result.ok 1 w := fun w => by kernel_rfl
@[simp] theorem Twin.underlying39 : Go.Program.underlying Go.Proofs.Twin.prog 39 = Option.some (Go.TypeDesc.tuple #[3, 3]) := by kernel_rfl
@[simp] theorem Twin.runUnderlying39 : ∀ (w : Go.World), Go.Sem.run Go.Proofs.Twin.prog (Go.underlying 39) w = Go.Result.ok (Go.TypeDesc.tuple #[3, 3]) w := fun w => by kernel_rfl
@[simp] theorem Twin.isAgg39 : ∀ (w : Go.World), Go.Sem.run Go.Proofs.Twin.prog (Go.isAgg 39) w = Go.Result.ok Bool.false w := fun w => by kernel_rfl
@[simp] theorem Twin.zeroValue39 : ∀ (w : Go.World), Go.Sem.run Go.Proofs.Twin.prog (Go.zeroValue 39) w = Go.Result.ok (Go.Value.tuple #[Go.Value.int Go.IntKind.i64 0, Go.Value.int Go.IntKind.i64 0]) w := fun w => by kernel_rfl
@[simp] theorem Twin.typeInfo39 (w : World) : Sem.run Twin.prog (typeInfo 39) w = .ok Try.t39 w := by kernel_rfl
@[simp] theorem Twin.type40 : (Go.Tables.types (Go.Program.toTables Go.Proofs.Twin.prog))[40]? = Option.some Go.Proofs.Try.t40 := by kernel_rfl
@[simp] theorem Twin.sizeOf40 : ∀ (w : Go.World), Go.Sem.run Go.Proofs.Twin.prog (Go.sizeOf 40) w = Go.Result.ok 1 w := fun w => by kernel_rfl
@[simp] theorem Twin.underlying40 : Go.Program.underlying Go.Proofs.Twin.prog 40 = Option.some (Go.TypeDesc.func #[22] #[3, 3] Bool.false) := by kernel_rfl
@[simp] theorem Twin.runUnderlying40 : ∀ (w : Go.World), Go.Sem.run Go.Proofs.Twin.prog (Go.underlying 40) w = Go.Result.ok (Go.TypeDesc.func #[22] #[3, 3] Bool.false) w := fun w => by kernel_rfl
@[simp] theorem Twin.isAgg40 : ∀ (w : Go.World), Go.Sem.run Go.Proofs.Twin.prog (Go.isAgg 40) w = Go.Result.ok Bool.false w := fun w => by kernel_rfl
@[simp] theorem Twin.zeroValue40 : ∀ (w : Go.World), Go.Sem.run Go.Proofs.Twin.prog (Go.zeroValue 40) w = Go.Result.ok Go.Value.nilFunc w := fun w => by kernel_rfl
@[simp] theorem Twin.typeInfo40 (w : World) : Sem.run Twin.prog (typeInfo 40) w = .ok Try.t40 w := by kernel_rfl
@[simp] theorem Twin.type41 : (Go.Tables.types (Go.Program.toTables Go.Proofs.Twin.prog))[41]? = Option.some Go.Proofs.Try.t41 := by kernel_rfl
@[simp] theorem Twin.sizeOf41 : ∀ (w : Go.World), Go.Sem.run Go.Proofs.Twin.prog (Go.sizeOf 41) w = Go.Result.ok 1 w := fun w => by kernel_rfl
@[simp] theorem Twin.underlying41 : Go.Program.underlying Go.Proofs.Twin.prog 41 = Option.some (Go.TypeDesc.func #[3, 3] #[23, 4] Bool.false) := by kernel_rfl
@[simp] theorem Twin.runUnderlying41 : ∀ (w : Go.World), Go.Sem.run Go.Proofs.Twin.prog (Go.underlying 41) w = Go.Result.ok (Go.TypeDesc.func #[3, 3] #[23, 4] Bool.false) w := fun w => by kernel_rfl
@[simp] theorem Twin.isAgg41 : ∀ (w : Go.World), Go.Sem.run Go.Proofs.Twin.prog (Go.isAgg 41) w = Go.Result.ok Bool.false w := fun w => by kernel_rfl
@[simp] theorem Twin.zeroValue41 : ∀ (w : Go.World), Go.Sem.run Go.Proofs.Twin.prog (Go.zeroValue 41) w = Go.Result.ok Go.Value.nilFunc w := fun w => by kernel_rfl
@[simp] theorem Twin.typeInfo41 (w : World) : Sem.run Twin.prog (typeInfo 41) w = .ok Try.t41 w := by kernel_rfl
@[simp] theorem Twin.type42 : (Go.Tables.types (Go.Program.toTables Go.Proofs.Twin.prog))[42]? = Option.some Go.Proofs.Try.t42 := by kernel_rfl
@[simp] theorem Twin.sizeOf42 : ∀ (w : Go.World), Go.Sem.run Go.Proofs.Twin.prog (Go.sizeOf 42) w = Go.Result.ok 1 w := fun w => by kernel_rfl
@[simp] theorem Twin.underlying42 : Go.Program.underlying Go.Proofs.Twin.prog 42 = Option.some (Go.TypeDesc.func #[43] #[23, 23] Bool.false) := by kernel_rfl
@[simp] theorem Twin.runUnderlying42 : ∀ (w : Go.World), Go.Sem.run Go.Proofs.Twin.prog (Go.underlying 42) w = Go.Result.ok (Go.TypeDesc.func #[43] #[23, 23] Bool.false) w := fun w => by kernel_rfl
@[simp] theorem Twin.isAgg42 : ∀ (w : Go.World), Go.Sem.run Go.Proofs.Twin.prog (Go.isAgg 42) w = Go.Result.ok Bool.false w := fun w => by kernel_rfl
@[simp] theorem Twin.zeroValue42 : ∀ (w : Go.World), Go.Sem.run Go.Proofs.Twin.prog (Go.zeroValue 42) w = Go.Result.ok Go.Value.nilFunc w := fun w => by kernel_rfl
@[simp] theorem Twin.typeInfo42 (w : World) : Sem.run Twin.prog (typeInfo 42) w = .ok Try.t42 w := by kernel_rfl
@[simp] theorem Twin.type43 : (Go.Tables.types (Go.Program.toTables Go.Proofs.Twin.prog))[43]? = Option.some Go.Proofs.Try.t43 := by kernel_rfl
@[simp] theorem Twin.sizeOf43 : ∀ (w : Go.World), Go.Sem.run Go.Proofs.Twin.prog (Go.sizeOf 43) w = Go.Result.ok 1 w := fun w => by kernel_rfl
@[simp] theorem Twin.underlying43 : Go.Program.underlying Go.Proofs.Twin.prog 43 = Option.some (Go.TypeDesc.pointer 62) := by kernel_rfl
@[simp] theorem Twin.runUnderlying43 : ∀ (w : Go.World), Go.Sem.run Go.Proofs.Twin.prog (Go.underlying 43) w = Go.Result.ok (Go.TypeDesc.pointer 62) w := fun w => by kernel_rfl
@[simp] theorem Twin.isAgg43 : ∀ (w : Go.World), Go.Sem.run Go.Proofs.Twin.prog (Go.isAgg 43) w = Go.Result.ok Bool.false w := fun w => by kernel_rfl
@[simp] theorem Twin.zeroValue43 : ∀ (w : Go.World), Go.Sem.run Go.Proofs.Twin.prog (Go.zeroValue 43) w = Go.Result.ok (Go.Value.pointer Option.none) w := fun w => by kernel_rfl
@[simp] theorem Twin.typeInfo43 (w : World) : Sem.run Twin.prog (typeInfo 43) w = .ok Try.t43 w := by kernel_rfl
@[simp] theorem Twin.type44 : (Go.Tables.types (Go.Program.toTables Go.Proofs.Twin.prog))[44]? = Option.some Go.Proofs.Try.t44 := by kernel_rfl
@[simp] theorem Twin.sizeOf44 : ∀ (w : Go.World), Go.Sem.run Go.Proofs.Twin.prog (Go.sizeOf 44) w = Go.Result.ok 1 w := fun w => by kernel_rfl
@[simp] theorem Twin.underlying44 : Go.Program.underlying Go.Proofs.Twin.prog 44 = Option.some (Go.TypeDesc.func #[22] #[43] Bool.false) := by kernel_rfl
@[simp] theorem Twin.runUnderlying44 : ∀ (w : Go.World), Go.Sem.run Go.Proofs.Twin.prog (Go.underlying 44) w = Go.Result.ok (Go.TypeDesc.func #[22] #[43] Bool.false) w := fun w => by kernel_rfl
@[simp] theorem Twin.isAgg44 : ∀ (w : Go.World), Go.Sem.run Go.Proofs.Twin.prog (Go.isAgg 44) w = Go.Result.ok Bool.false w := fun w => by kernel_rfl
@[simp] theorem Twin.zeroValue44 : ∀ (w : Go.World), Go.Sem.run Go.Proofs.Twin.prog (Go.zeroValue 44) w = Go.Result.ok Go.Value.nilFunc w := fun w => by kernel_rfl
@[simp] theorem Twin.typeInfo44 (w : World) : Sem.run Twin.prog (typeInfo 44) w = .ok Try.t44 w := by kernel_rfl
@[simp] theorem Twin.type45 : (Go.Tables.types (Go.Program.toTables Go.Proofs.Twin.prog))[45]? = Option.some Go.Proofs.Try.t45 := by kernel_rfl
@[simp] theorem Twin.sizeOf45 : ∀ (w : Go.World), Go.Sem.run Go.Proofs.Twin.prog (Go.sizeOf 45) w = Go.Result.ok 1 w := fun w => by kernel_rfl
@[simp] theorem Twin.underlying45 : Go.Program.underlying Go.Proofs.Twin.prog 45 = Option.some (Go.TypeDesc.func #[23, 23, 46] #[23, 4] Bool.false) := by kernel_rfl
@[simp] theorem Twin.runUnderlying45 : ∀ (w : Go.World), Go.Sem.run Go.Proofs.Twin.prog (Go.underlying 45) w = Go.Result.ok (Go.TypeDesc.func #[23, 23, 46] #[23, 4] Bool.false) w := fun w => by kernel_rfl
@[simp] theorem Twin.isAgg45 : ∀ (w : Go.World), Go.Sem.run Go.Proofs.Twin.prog (Go.isAgg 45) w = Go.Result.ok Bool.false w := fun w => by kernel_rfl
@[simp] theorem Twin.zeroValue45 : ∀ (w : Go.World), Go.Sem.run Go.Proofs.Twin.prog (Go.zeroValue 45) w = Go.Result.ok Go.Value.nilFunc w := fun w => by kernel_rfl
@[simp] theorem Twin.typeInfo45 (w : World) : Sem.run Twin.prog (typeInfo 45) w = .ok Try.t45 w := by kernel_rfl
@[simp] theorem Twin.type46 : (Go.Tables.types (Go.Program.toTables Go.Proofs.Twin.prog))[46]? = Option.some Go.Proofs.Try.t46 := by kernel_rfl
@[simp] theorem Twin.sizeOf46 : ∀ (w : Go.World), Go.Sem.run Go.Proofs.Twin.prog (Go.sizeOf 46) w = Go.Result.ok 1 w := fun w => by kernel_rfl
@[simp] theorem Twin.underlying46 : Go.Program.underlying Go.Proofs.Twin.prog 46 = Option.some (Go.TypeDesc.func #[48, 48] #[48] Bool.false) := by kernel_rfl
@[simp] theorem Twin.runUnderlying46 : ∀ (w : Go.World), Go.Sem.run Go.Proofs.Twin.prog (Go.underlying 46) w = Go.Result.ok (Go.TypeDesc.func #[48, 48] #[48] Bool.false) w := fun w => by kernel_rfl
@[simp] theorem Twin.isAgg46 : ∀ (w : Go.World), Go.Sem.run Go.Proofs.Twin.prog (Go.isAgg 46) w = Go.Result.ok Bool.false w := fun w => by kernel_rfl
@[simp] theorem Twin.zeroValue46 : ∀ (w : Go.World), Go.Sem.run Go.Proofs.Twin.prog (Go.zeroValue 46) w = Go.Result.ok Go.Value.nilFunc w := fun w => by kernel_rfl
@[simp] theorem Twin.typeInfo46 (w : World) : Sem.run Twin.prog (typeInfo 46) w = .ok Try.t46 w := by kernel_rfl
@[simp] theorem Twin.type47 : (Go.Tables.types (Go.Program.toTables Go.Proofs.Twin.prog))[47]? = Option.some Go.Proofs.Try.t47 := by kernel_rfl
@[simp] theorem Twin.sizeOf47 : ∀ (w : Go.World), Go.Sem.run Go.Proofs.Twin.prog (Go.sizeOf 47) w = Go.Result.ok 1 w := fun w => by kernel_rfl
@[simp] theorem Twin.underlying47 : Go.Program.underlying Go.Proofs.Twin.prog 47 = Option.some (Go.TypeDesc.func #[48] #[48] Bool.false) := by kernel_rfl
@[simp] theorem Twin.runUnderlying47 : ∀ (w : Go.World), Go.Sem.run Go.Proofs.Twin.prog (Go.underlying 47) w = Go.Result.ok (Go.TypeDesc.func #[48] #[48] Bool.false) w := fun w => by kernel_rfl
@[simp] theorem Twin.isAgg47 : ∀ (w : Go.World), Go.Sem.run Go.Proofs.Twin.prog (Go.isAgg 47) w = Go.Result.ok Bool.false w := fun w => by kernel_rfl
@[simp] theorem Twin.zeroValue47 : ∀ (w : Go.World), Go.Sem.run Go.Proofs.Twin.prog (Go.zeroValue 47) w = Go.Result.ok Go.Value.nilFunc w := fun w => by kernel_rfl
@[simp] theorem Twin.typeInfo47 (w : World) : Sem.run Twin.prog (typeInfo 47) w = .ok Try.t47 w := by kernel_rfl
@[simp] theorem Twin.type48 : (Go.Tables.types (Go.Program.toTables Go.Proofs.Twin.prog))[48]? = Option.some Go.Proofs.Try.t48 := by kernel_rfl
@[simp] theorem Twin.sizeOf48 : ∀ (w : Go.World), Go.Sem.run Go.Proofs.Twin.prog (Go.sizeOf 48) w = Go.Result.ok 1 w := fun w => by kernel_rfl
@[simp] theorem Twin.underlying48 : Go.Program.underlying Go.Proofs.Twin.prog 48 = Option.some (Go.TypeDesc.int Go.IntKind.i64) := by kernel_rfl
@[simp] theorem Twin.runUnderlying48 : ∀ (w : Go.World), Go.Sem.run Go.Proofs.Twin.prog (Go.underlying 48) w = Go.Result.ok (Go.TypeDesc.int Go.IntKind.i64) w := fun w => by kernel_rfl
@[simp] theorem Twin.isAgg48 : ∀ (w : Go.World), Go.Sem.run Go.Proofs.Twin.prog (Go.isAgg 48) w = Go.Result.ok Bool.false w := fun w => by kernel_rfl
@[simp] theorem Twin.zeroValue48 : ∀ (w : Go.World), Go.Sem.run Go.Proofs.Twin.prog (Go.zeroValue 48) w = Go.Result.ok (Go.Value.int Go.IntKind.i64 0) w := fun w => by kernel_rfl
@[simp] theorem Twin.typeInfo48 (w : World) : Sem.run Twin.prog (typeInfo 48) w = .ok Try.t48 w := by kernel_rfl
@[simp] theorem Twin.type49 : (Go.Tables.types (Go.Program.toTables Go.Proofs.Twin.prog))[49]? = Option.some Go.Proofs.Try.t49 := by kernel_rfl
@[simp] theorem Twin.sizeOf49 : ∀ (w : Go.World), Go.Sem.run Go.Proofs.Twin.prog (Go.sizeOf 49) w = Go.Result.ok 1 w := fun w => by kernel_rfl
@[simp] theorem Twin.underlying49 : Go.Program.underlying Go.Proofs.Twin.prog 49 = Option.some (Go.TypeDesc.func #[3] #[3] Bool.false) := by kernel_rfl
@[simp] theorem Twin.runUnderlying49 : ∀ (w : Go.World), Go.Sem.run Go.Proofs.Twin.prog (Go.underlying 49) w = Go.Result.ok (Go.TypeDesc.func #[3] #[3] Bool.false) w := fun w => by kernel_rfl
@[simp] theorem Twin.isAgg49 : ∀ (w : Go.World), Go.Sem.run Go.Proofs.Twin.prog (Go.isAgg 49) w = Go.Result.ok Bool.false w := fun w => by kernel_rfl
@[simp] theorem Twin.zeroValue49 : ∀ (w : Go.World), Go.Sem.run Go.Proofs.Twin.prog (Go.zeroValue 49) w = Go.Result.ok Go.Value.nilFunc w := fun w => by kernel_rfl
@[simp] theorem Twin.typeInfo49 (w : World) : Sem.run Twin.prog (typeInfo 49) w = .ok Try.t49 w := by kernel_rfl
@[simp] theorem Twin.type50 : (Go.Tables.types (Go.Program.toTables Go.Proofs.Twin.prog))[50]? = Option.some Go.Proofs.Try.t50 := by kernel_rfl
@[simp] theorem Twin.sizeOf50 : ∀ (w : Go.World), Go.Sem.run Go.Proofs.Twin.prog (Go.sizeOf 50) w = Go.Result.ok 1 w := fun w => by kernel_rfl
@[simp] theorem Twin.underlying50 : Go.Program.underlying Go.Proofs.Twin.prog 50 = Option.some (Go.TypeDesc.func #[23, 23] #[23] Bool.false) := by kernel_rfl
@[simp] theorem Twin.runUnderlying50 : ∀ (w : Go.World), Go.Sem.run Go.Proofs.Twin.prog (Go.underlying 50) w = Go.Result.ok (Go.TypeDesc.func #[23, 23] #[23] Bool.false) w := fun w => by kernel_rfl
@[simp] theorem Twin.isAgg50 : ∀ (w : Go.World), Go.Sem.run Go.Proofs.Twin.prog (Go.isAgg 50) w = Go.Result.ok Bool.false w := fun w => by kernel_rfl
@[simp] theorem Twin.zeroValue50 : ∀ (w : Go.World), Go.Sem.run Go.Proofs.Twin.prog (Go.zeroValue 50) w = Go.Result.ok Go.Value.nilFunc w := fun w => by kernel_rfl
@[simp] theorem Twin.typeInfo50 (w : World) : Sem.run Twin.prog (typeInfo 50) w = .ok Try.t50 w := by kernel_rfl
@[simp] theorem Twin.type51 : (Go.Tables.types (Go.Program.toTables Go.Proofs.Twin.prog))[51]? = Option.some Go.Proofs.Try.t51 := by kernel_rfl
@[simp] theorem Twin.sizeOf51 : ∀ (w : Go.World), Go.Sem.run Go.Proofs.Twin.prog (Go.sizeOf 51) w = Go.Result.ok 1 w := fun w => by kernel_rfl
@[simp] theorem Twin.underlying51 : Go.Program.underlying Go.Proofs.Twin.prog 51 = Option.some (Go.TypeDesc.func #[3] #[4] Bool.false) := by kernel_rfl
@[simp] theorem Twin.runUnderlying51 : ∀ (w : Go.World), Go.Sem.run Go.Proofs.Twin.prog (Go.underlying 51) w = Go.Result.ok (Go.TypeDesc.func #[3] #[4] Bool.false) w := fun w => by kernel_rfl
@[simp] theorem Twin.isAgg51 : ∀ (w : Go.World), Go.Sem.run Go.Proofs.Twin.prog (Go.isAgg 51) w = Go.Result.ok Bool.false w := fun w => by kernel_rfl
@[simp] theorem Twin.zeroValue51 : ∀ (w : Go.World), Go.Sem.run Go.Proofs.Twin.prog (Go.zeroValue 51) w = Go.Result.ok Go.Value.nilFunc w := fun w => by kernel_rfl
@[simp] theorem Twin.typeInfo51 (w : World) : Sem.run Twin.prog (typeInfo 51) w = .ok Try.t51 w := by kernel_rfl
@[simp] theorem Twin.type52 : (Go.Tables.types (Go.Program.toTables Go.Proofs.Twin.prog))[52]? = Option.some Go.Proofs.Try.t52 := by kernel_rfl
@[simp] theorem Twin.sizeOf52 : ∀ (w : Go.World), Go.Sem.run Go.Proofs.Twin.prog (Go.sizeOf 52) w = Go.Result.ok 1 w := fun w => by kernel_rfl
@[simp] theorem Twin.underlying52 : Go.Program.underlying Go.Proofs.Twin.prog 52 = Option.some (Go.TypeDesc.func #[43, 3] #[23] Bool.false) := by kernel_rfl
@[simp] theorem Twin.runUnderlying52 : ∀ (w : Go.World), Go.Sem.run Go.Proofs.Twin.prog (Go.underlying 52) w = Go.Result.ok (Go.TypeDesc.func #[43, 3] #[23] Bool.false) w := fun w => by kernel_rfl
@[simp] theorem Twin.isAgg52 : ∀ (w : Go.World), Go.Sem.run Go.Proofs.Twin.prog (Go.isAgg 52) w = Go.Result.ok Bool.false w := fun w => by kernel_rfl
@[simp] theorem Twin.zeroValue52 : ∀ (w : Go.World), Go.Sem.run Go.Proofs.Twin.prog (Go.zeroValue 52) w = Go.Result.ok Go.Value.nilFunc w := fun w => by kernel_rfl
@[simp] theorem Twin.typeInfo52 (w : World) : Sem.run Twin.prog (typeInfo 52) w = .ok Try.t52 w := by kernel_rfl
@[simp] theorem Twin.type53 : (Go.Tables.types (Go.Program.toTables Go.Proofs.Twin.prog))[53]? = Option.some Go.Proofs.Try.t53 := by kernel_rfl
@[simp] theorem Twin.sizeOf53 : ∀ (w : Go.World), Go.Sem.run Go.Proofs.Twin.prog (Go.sizeOf 53) w = Go.Result.ok 1 w := fun w => by kernel_rfl
@[simp] theorem Twin.underlying53 : Go.Program.underlying Go.Proofs.Twin.prog 53 = Option.some (Go.TypeDesc.func #[23, 3] #[4] Bool.false) := by kernel_rfl
@[simp] theorem Twin.runUnderlying53 : ∀ (w : Go.World), Go.Sem.run Go.Proofs.Twin.prog (Go.underlying 53) w = Go.Result.ok (Go.TypeDesc.func #[23, 3] #[4] Bool.false) w := fun w => by kernel_rfl
@[simp] theorem Twin.isAgg53 : ∀ (w : Go.World), Go.Sem.run Go.Proofs.Twin.prog (Go.isAgg 53) w = Go.Result.ok Bool.false w := fun w => by kernel_rfl
@[simp] theorem Twin.zeroValue53 : ∀ (w : Go.World), Go.Sem.run Go.Proofs.Twin.prog (Go.zeroValue 53) w = Go.Result.ok Go.Value.nilFunc w := fun w => by kernel_rfl
@[simp] theorem Twin.typeInfo53 (w : World) : Sem.run Twin.prog (typeInfo 53) w = .ok Try.t53 w := by kernel_rfl
@[simp] theorem Twin.type54 : (Go.Tables.types (Go.Program.toTables Go.Proofs.Twin.prog))[54]? = Option.some Go.Proofs.Try.t54 := by kernel_rfl
@[simp] theorem Twin.sizeOf54 : ∀ (w : Go.World), Go.Sem.run Go.Proofs.Twin.prog (Go.sizeOf 54) w = Go.Result.ok 1 w := fun w => by kernel_rfl
@[simp] theorem Twin.underlying54 : Go.Program.underlying Go.Proofs.Twin.prog 54 = Option.some (Go.TypeDesc.func #[43] #[3, 3] Bool.false) := by kernel_rfl
@[simp] theorem Twin.runUnderlying54 : ∀ (w : Go.World), Go.Sem.run Go.Proofs.Twin.prog (Go.underlying 54) w = Go.Result.ok (Go.TypeDesc.func #[43] #[3, 3] Bool.false) w := fun w => by kernel_rfl
@[simp] theorem Twin.isAgg54 : ∀ (w : Go.World), Go.Sem.run Go.Proofs.Twin.prog (Go.isAgg 54) w = Go.Result.ok Bool.false w := fun w => by kernel_rfl
@[simp] theorem Twin.zeroValue54 : ∀ (w : Go.World), Go.Sem.run Go.Proofs.Twin.prog (Go.zeroValue 54) w = Go.Result.ok Go.Value.nilFunc w := fun w => by kernel_rfl
@[simp] theorem Twin.typeInfo54 (w : World) : Sem.run Twin.prog (typeInfo 54) w = .ok Try.t54 w := by kernel_rfl
@[simp] theorem Twin.type55 : (Go.Tables.types (Go.Program.toTables Go.Proofs.Twin.prog))[55]? = Option.some Go.Proofs.Try.t55 := by kernel_rfl
@[simp] theorem Twin.sizeOf55 : ∀ (w : Go.World), Go.Sem.run Go.Proofs.Twin.prog (Go.sizeOf 55) w = Go.Result.ok 1 w := fun w => by kernel_rfl
@[simp] theorem Twin.underlying55 : Go.Program.underlying Go.Proofs.Twin.prog 55 = Option.some (Go.TypeDesc.func #[3, 3, 3] #[4] Bool.false) := by kernel_rfl
@[simp] theorem Twin.runUnderlying55 : ∀ (w : Go.World), Go.Sem.run Go.Proofs.Twin.prog (Go.underlying 55) w = Go.Result.ok (Go.TypeDesc.func #[3, 3, 3] #[4] Bool.false) w := fun w => by kernel_rfl
@[simp] theorem Twin.isAgg55 : ∀ (w : Go.World), Go.Sem.run Go.Proofs.Twin.prog (Go.isAgg 55) w = Go.Result.ok Bool.false w := fun w => by kernel_rfl
@[simp] theorem Twin.zeroValue55 : ∀ (w : Go.World), Go.Sem.run Go.Proofs.Twin.prog (Go.zeroValue 55) w = Go.Result.ok Go.Value.nilFunc w := fun w => by kernel_rfl
@[simp] theorem Twin.typeInfo55 (w : World) : Sem.run Twin.prog (typeInfo 55) w = .ok Try.t55 w := by kernel_rfl
@[simp] theorem Twin.type56 : (Go.Tables.types (Go.Program.toTables Go.Proofs.Twin.prog))[56]? = Option.some Go.Proofs.Try.t56 := by kernel_rfl
@[simp] theorem Twin.sizeOf56 : ∀ (w : Go.World), Go.Sem.run Go.Proofs.Twin.prog (Go.sizeOf 56) w = Go.Result.ok 1 w := fun w => by kernel_rfl
@[simp] theorem Twin.underlying56 : Go.Program.underlying Go.Proofs.Twin.prog 56 = Option.some (Go.TypeDesc.interface #[("loop.example/scrutineer/impl.encode", 60), ("loop.example/scrutineer/impl.size", 59), ("loop.example/scrutineer/impl.values", 59)]) := by kernel_rfl
@[simp] theorem Twin.runUnderlying56 : ∀ (w : Go.World), Go.Sem.run Go.Proofs.Twin.prog (Go.underlying 56) w = Go.Result.ok (Go.TypeDesc.interface #[("loop.example/scrutineer/impl.encode", 60), ("loop.example/scrutineer/impl.size", 59), ("loop.example/scrutineer/impl.values", 59)]) w := fun w => by kernel_rfl
@[simp] theorem Twin.isAgg56 : ∀ (w : Go.World), Go.Sem.run Go.Proofs.Twin.prog (Go.isAgg 56) w = Go.Result.ok Bool.false w := fun w => by kernel_rfl
@[simp] theorem Twin.zeroValue56 : ∀ (w : Go.World), Go.Sem.run Go.Proofs.Twin.prog (Go.zeroValue 56) w = Go.Result.ok Go.Value.nilIface w := fun w => by kernel_rfl
@[simp] theorem Twin.typeInfo56 (w : World) : Sem.run Twin.prog (typeInfo 56) w = .ok Try.t56 w := by kernel_rfl
@[simp] theorem Twin.type57 : (Go.Tables.types (Go.Program.toTables Go.Proofs.Twin.prog))[57]? = Option.some Go.Proofs.Try.t57 := by kernel_rfl
@[simp] theorem Twin.sizeOf57 : ∀ (w : Go.World), Go.Sem.run Go.Proofs.Twin.prog (Go.sizeOf 57) w = Go.Result.ok 1 w := fun w => by kernel_rfl
@[simp] theorem Twin.underlying57 : Go.Program.underlying Go.Proofs.Twin.prog 57 = Option.some (Go.TypeDesc.interface #[("loop.example/scrutineer/impl.encode", 60), ("loop.example/scrutineer/impl.size", 59), ("loop.example/scrutineer/impl.values", 59)]) := by kernel_rfl
@[simp] theorem Twin.runUnderlying57 : ∀ (w : Go.World), Go.Sem.run Go.Proofs.Twin.prog (Go.underlying 57) w = Go.Result.ok (Go.TypeDesc.interface #[("loop.example/scrutineer/impl.encode", 60), ("loop.example/scrutineer/impl.size", 59), ("loop.example/scrutineer/impl.values", 59)]) w := fun w => by kernel_rfl
@[simp] theorem Twin.isAgg57 : ∀ (w : Go.World), Go.Sem.run Go.Proofs.Twin.prog (Go.isAgg 57) w = Go.Result.ok Bool.false w := fun w => by kernel_rfl
@[simp] theorem Twin.zeroValue57 : ∀ (w : Go.World), Go.Sem.run Go.Proofs.Twin.prog (Go.zeroValue 57) w = Go.Result.ok Go.Value.nilIface w := fun w => by kernel_rfl
@[simp] theorem Twin.typeInfo57 (w : World) : Sem.run Twin.prog (typeInfo 57) w = .ok Try.t57 w := by kernel_rfl
@[simp] theorem Twin.type58 : (Go.Tables.types (Go.Program.toTables Go.Proofs.Twin.prog))[58]? = Option.some Go.Proofs.Try.t58 := by kernel_rfl
@[simp] theorem Twin.sizeOf58 : ∀ (w : Go.World), Go.Sem.run Go.Proofs.Twin.prog (Go.sizeOf 58) w = Go.Result.ok 1 w := fun w => by kernel_rfl
@[simp] theorem Twin.underlying58 : Go.Program.underlying Go.Proofs.Twin.prog 58 = Option.some (Go.TypeDesc.func #[3] #[57] Bool.false) := by kernel_rfl
@[simp] theorem Twin.runUnderlying58 : ∀ (w : Go.World), Go.Sem.run Go.Proofs.Twin.prog (Go.underlying 58) w = Go.Result.ok (Go.TypeDesc.func #[3] #[57] Bool.false) w := fun w => by kernel_rfl
@[simp] theorem Twin.isAgg58 : ∀ (w : Go.World), Go.Sem.run Go.Proofs.Twin.prog (Go.isAgg 58) w = Go.Result.ok Bool.false w := fun w => by kernel_rfl
@[simp] theorem Twin.zeroValue58 : ∀ (w : Go.World), Go.Sem.run Go.Proofs.Twin.prog (Go.zeroValue 58) w = Go.Result.ok Go.Value.nilFunc w := fun w => by kernel_rfl
@[simp] theorem Twin.typeInfo58 (w : World) : Sem.run Twin.prog (typeInfo 58) w = .ok Try.t58 w := by kernel_rfl
@[simp] theorem Twin.type59 : (Go.Tables.types (Go.Program.toTables Go.Proofs.Twin.prog))[59]? = Option.some Go.Proofs.Try.t59 := by kernel_rfl
@[simp] theorem Twin.sizeOf59 : ∀ (w : Go.World), Go.Sem.run Go.Proofs.Twin.prog (Go.sizeOf 59) w = Go.Result.ok 1 w := fun w => by kernel_rfl
@[simp] theorem Twin.underlying59 : Go.Program.underlying Go.Proofs.Twin.prog 59 = Option.some (Go.TypeDesc.func #[] #[3] Bool.false) := by kernel_rfl
@[simp] theorem Twin.runUnderlying59 : ∀ (w : Go.World), Go.Sem.run Go.Proofs.Twin.prog (Go.underlying 59) w = Go.Result.ok (Go.TypeDesc.func #[] #[3] Bool.false) w := fun w => by kernel_rfl
@[simp] theorem Twin.isAgg59 : ∀ (w : Go.World), Go.Sem.run Go.Proofs.Twin.prog (Go.isAgg 59) w = Go.Result.ok Bool.false w := fun w => by kernel_rfl
@[simp] theorem Twin.zeroValue59 : ∀ (w : Go.World), Go.Sem.run Go.Proofs.Twin.prog (Go.zeroValue 59) w = Go.Result.ok Go.Value.nilFunc w := fun w => by kernel_rfl
@[simp] theorem Twin.typeInfo59 (w : World) : Sem.run Twin.prog (typeInfo 59) w = .ok Try.t59 w := by kernel_rfl
@[simp] theorem Twin.type60 : (Go.Tables.types (Go.Program.toTables Go.Proofs.Twin.prog))[60]? = Option.some Go.Proofs.Try.t60 := by kernel_rfl
@[simp] theorem Twin.sizeOf60 : ∀ (w : Go.World), Go.Sem.run Go.Proofs.Twin.prog (Go.sizeOf 60) w = Go.Result.ok 1 w := fun w => by kernel_rfl
@[simp] theorem Twin.underlying60 : Go.Program.underlying Go.Proofs.Twin.prog 60 = Option.some (Go.TypeDesc.func #[3] #[23] Bool.false) := by kernel_rfl
@[simp] theorem Twin.runUnderlying60 : ∀ (w : Go.World), Go.Sem.run Go.Proofs.Twin.prog (Go.underlying 60) w = Go.Result.ok (Go.TypeDesc.func #[3] #[23] Bool.false) w := fun w => by kernel_rfl
@[simp] theorem Twin.isAgg60 : ∀ (w : Go.World), Go.Sem.run Go.Proofs.Twin.prog (Go.isAgg 60) w = Go.Result.ok Bool.false w := fun w => by kernel_rfl
@[simp] theorem Twin.zeroValue60 : ∀ (w : Go.World), Go.Sem.run Go.Proofs.Twin.prog (Go.zeroValue 60) w = Go.Result.ok Go.Value.nilFunc w := fun w => by kernel_rfl
@[simp] theorem Twin.typeInfo60 (w : World) : Sem.run Twin.prog (typeInfo 60) w = .ok Try.t60 w := by kernel_rfl
@[simp] theorem Twin.type61 : (Go.Tables.types (Go.Program.toTables Go.Proofs.Twin.prog))[61]? = Option.some Go.Proofs.Try.t61 := by kernel_rfl
@[simp] theorem Twin.sizeOf61 : ∀ (w : Go.World), Go.Sem.run Go.Proofs.Twin.prog (Go.sizeOf 61) w = Go.Result.ok 2 w := fun w => by kernel_rfl
@[simp] theorem Twin.underlying61 : Go.Program.underlying Go.Proofs.Twin.prog 61 = Option.some (Go.TypeDesc.struct #[{ name := "b", type := 22, offset := 0, embedded := Bool.false, tag := "", pkgPath := "loop.example/scrutineer/spec", byteOffset := 0 }, { name := "p", type := 3, offset := 1, embedded := Bool.false, tag := "", pkgPath := "loop.example/scrutineer/spec", byteOffset := 24 }]) := by kernel_rfl
@[simp] theorem Twin.runUnderlying61 : ∀ (w : Go.World), Go.Sem.run Go.Proofs.Twin.prog (Go.underlying 61) w = Go.Result.ok (Go.TypeDesc.struct #[{ name := "b", type := 22, offset := 0, embedded := Bool.false, tag := "", pkgPath := "loop.example/scrutineer/spec", byteOffset := 0 }, { name := "p", type := 3, offset := 1, embedded := Bool.false, tag := "", pkgPath := "loop.example/scrutineer/spec", byteOffset := 24 }]) w := fun w => by kernel_rfl
@[simp] theorem Twin.isAgg61 : ∀ (w : Go.World), Go.Sem.run Go.Proofs.Twin.prog (Go.isAgg 61) w = Go.Result.ok Bool.true w := fun w => by kernel_rfl
@[simp] theorem Twin.eqGuardType61 : Go.Program.eqGuardType Go.Proofs.Twin.prog (Go.Program.depth Go.Proofs.Twin.prog) 61 = Bool.false := by kernel_rfl
@[simp] theorem Twin.zeroValue61 : ∀ (w : Go.World), Go.Sem.run Go.Proofs.Twin.prog (Go.zeroValue 61) w = Go.Result.ok (Go.Value.agg #[Go.Value.slice Option.none 0 0, Go.Value.int Go.IntKind.i64 0]) w := fun w => by kernel_rfl
@[simp] theorem Twin.typeInfo61 (w : World) : Sem.run Twin.prog (typeInfo 61) w = .ok Try.t61 w := by kernel_rfl
@[simp] theorem Twin.type62 : (Go.Tables.types (Go.Program.toTables Go.Proofs.Twin.prog))[62]? = Option.some Go.Proofs.Try.t62 := by kernel_rfl
@[simp] theorem Twin.sizeOf62 : ∀ (w : Go.World), Go.Sem.run Go.Proofs.Twin.prog (Go.sizeOf 62) w = Go.Result.ok 2 w := fun w => by kernel_rfl
@[simp] theorem Twin.underlying62 : Go.Program.underlying Go.Proofs.Twin.prog 62 = Option.some (Go.TypeDesc.struct #[{ name := "b", type := 22, offset := 0, embedded := Bool.false, tag := "", pkgPath := "loop.example/scrutineer/spec", byteOffset := 0 }, { name := "p", type := 3, offset := 1, embedded := Bool.false, tag := "", pkgPath := "loop.example/scrutineer/spec", byteOffset := 24 }]) := by kernel_rfl
@[simp] theorem Twin.runUnderlying62 : ∀ (w : Go.World), Go.Sem.run Go.Proofs.Twin.prog (Go.underlying 62) w = Go.Result.ok (Go.TypeDesc.struct #[{ name := "b", type := 22, offset := 0, embedded := Bool.false, tag := "", pkgPath := "loop.example/scrutineer/spec", byteOffset := 0 }, { name := "p", type := 3, offset := 1, embedded := Bool.false, tag := "", pkgPath := "loop.example/scrutineer/spec", byteOffset := 24 }]) w := fun w => by kernel_rfl
@[simp] theorem Twin.isAgg62 : ∀ (w : Go.World), Go.Sem.run Go.Proofs.Twin.prog (Go.isAgg 62) w = Go.Result.ok Bool.true w := fun w => by kernel_rfl
@[simp] theorem Twin.eqGuardType62 : Go.Program.eqGuardType Go.Proofs.Twin.prog (Go.Program.depth Go.Proofs.Twin.prog) 62 = Bool.false := by kernel_rfl
@[simp] theorem Twin.zeroValue62 : ∀ (w : Go.World), Go.Sem.run Go.Proofs.Twin.prog (Go.zeroValue 62) w = Go.Result.ok (Go.Value.agg #[Go.Value.slice Option.none 0 0, Go.Value.int Go.IntKind.i64 0]) w := fun w => by kernel_rfl
@[simp] theorem Twin.typeInfo62 (w : World) : Sem.run Twin.prog (typeInfo 62) w = .ok Try.t62 w := by kernel_rfl
@[simp] theorem Twin.type63 : (Go.Tables.types (Go.Program.toTables Go.Proofs.Twin.prog))[63]? = Option.some Go.Proofs.Try.t63 := by kernel_rfl
@[simp] theorem Twin.sizeOf63 : ∀ (w : Go.World), Go.Sem.run Go.Proofs.Twin.prog (Go.sizeOf 63) w = Go.Result.ok 0 w := fun w => by kernel_rfl
@[simp] theorem Twin.underlying63 : Go.Program.underlying Go.Proofs.Twin.prog 63 = Option.some (Go.TypeDesc.struct #[]) := by kernel_rfl
@[simp] theorem Twin.runUnderlying63 : ∀ (w : Go.World), Go.Sem.run Go.Proofs.Twin.prog (Go.underlying 63) w = Go.Result.ok (Go.TypeDesc.struct #[]) w := fun w => by kernel_rfl
@[simp] theorem Twin.isAgg63 : ∀ (w : Go.World), Go.Sem.run Go.Proofs.Twin.prog (Go.isAgg 63) w = Go.Result.ok Bool.true w := fun w => by kernel_rfl
@[simp] theorem Twin.eqGuardType63 : Go.Program.eqGuardType Go.Proofs.Twin.prog (Go.Program.depth Go.Proofs.Twin.prog) 63 = Bool.false := by kernel_rfl
@[simp] theorem Twin.zeroValue63 : ∀ (w : Go.World), Go.Sem.run Go.Proofs.Twin.prog (Go.zeroValue 63) w = Go.Result.ok (Go.Value.agg #[]) w := fun w => by kernel_rfl
@[simp] theorem Twin.typeInfo63 (w : World) : Sem.run Twin.prog (typeInfo 63) w = .ok Try.t63 w := by kernel_rfl
end Go.Proofs
end

section
namespace Go.Proofs
abbrev Try.link : Go.Conc.Lib.WgLink := { add := 68, done := 70, wait := 71, relMerge := 84, disable := 85, enable := 86, inBubble := 87, associate := 88, fatal := 89, uOr := 90, uAdd := 91, raceRead := 92, uLoad := 93, uStore := 94, disassociate := 95, semrelease := 96, acquire := 97, isAssociated := 98, uCas := 99, raceWrite := 100, semacquire := 101, orU64 := 103, addU64 := 104, loadU64 := 105, storeU64 := 106, casU64 := 107, tWgP := 83, tUP := 85, tAssoc := 87, tWg := 72, tAU := 69, tU64 := 67, tUint := 91, tU32 := 70, tPU32 := 92, tPAU := 101, tPU64 := 103, tNoCopy := 64, tANoCopy := 65, tAlign64 := 66 }
theorem Try.wgLib : Go.Conc.Lib.WgLib Try.prog Try.link :=
  ⟨Try.func68, Try.func70, Try.func71, Try.func84, Try.func85, Try.func86, Try.func87, Try.func88, Try.func89, Try.func90, Try.func91, Try.func92, Try.func93, Try.func94, Try.func95, Try.func96, Try.func97, Try.func98, Try.func99, Try.func100, Try.func101, Try.func103, Try.func104, Try.func105, Try.func106, Try.func107, Try.underlying83, Try.runUnderlying83, Try.sizeOf83, Try.isAgg83, Try.zeroValue83, Try.underlying85, Try.runUnderlying85, Try.sizeOf85, Try.isAgg85, Try.zeroValue85, Try.underlying87, Try.runUnderlying87, Try.sizeOf87, Try.isAgg87, Try.zeroValue87, Try.underlying72, Try.runUnderlying72, Try.sizeOf72, Try.isAgg72, Try.zeroValue72, Try.underlying69, Try.runUnderlying69, Try.sizeOf69, Try.isAgg69, Try.zeroValue69, Try.underlying67, Try.runUnderlying67, Try.sizeOf67, Try.isAgg67, Try.zeroValue67, Try.underlying91, Try.runUnderlying91, Try.sizeOf91, Try.isAgg91, Try.zeroValue91, Try.underlying70, Try.runUnderlying70, Try.sizeOf70, Try.isAgg70, Try.zeroValue70, Try.underlying92, Try.runUnderlying92, Try.sizeOf92, Try.isAgg92, Try.zeroValue92, Try.underlying101, Try.runUnderlying101, Try.sizeOf101, Try.isAgg101, Try.zeroValue101, Try.underlying103, Try.runUnderlying103, Try.sizeOf103, Try.isAgg103, Try.zeroValue103, Try.underlying0, Try.runUnderlying0, Try.sizeOf0, Try.isAgg0, Try.zeroValue0, Try.underlying3, Try.runUnderlying3, Try.sizeOf3, Try.isAgg3, Try.zeroValue3, Try.underlying4, Try.runUnderlying4, Try.sizeOf4, Try.isAgg4, Try.zeroValue4, Try.underlying9, Try.runUnderlying9, Try.sizeOf9, Try.isAgg9, Try.zeroValue9, Try.underlying20, Try.runUnderlying20, Try.sizeOf20, Try.isAgg20, Try.zeroValue20, Try.underlying21, Try.runUnderlying21, Try.sizeOf21, Try.isAgg21, Try.zeroValue21, (by kernel_rfl), (by kernel_rfl)⟩
end Go.Proofs
end

section
namespace Go.Tw
open Go.Conc
section
variable {P : Program} {main : Bool} {R : World → World → Prop} {D : World → World → Array Event → Prop}
theorem runT_callv {a : Act} {o : Oper} {x : Operand} {args : Array Operand} {ats : Array TypeId} {f : FuncId} {vs : Array Value} (hop : o.op = .call { callee := .value x, args, argTypes := ats }) (hx : a.eval x = .func (.func f) #[] #[]) (hargs : args.map a.eval = vs)
    {fn : Func} {c : Code} (hf : P.funcs[f]? = some fn) (hname : (fn.name == "runtime.NumGoroutine") = false) (hb : fn.body = some c) (w : World) : (execOp a.eval o).runT P w #[] = (.ok (.enter f vs) w, #[]) := by
  obtain ⟨dst, op, ty, pos, after, guard⟩ := o
  simp only at hop
  subst hop
  have e : resolve a.eval { callee := .value x, args, argTypes := ats } ty = Pure.pure { target := .fn (.func f) #[], args := #[] ++ args.map a.eval } := by unfold resolve; simp only [hx]; rfl
  show (resolve a.eval { callee := .value x, args, argTypes := ats } ty >>= fun d => Go.invoke d.target d.args).runT P w #[] = _
  rw [e, hargs]
  show (Go.callFunc f ((#[] ++ vs) ++ #[])).runT P w #[] = _
  rw [Array.append_empty, Array.empty_append]
  exact callFunc_enter hf (by rw [hb]; rfl) hname vs w #[]
theorem goes_callv (T : Terms R D) {b : Frame} {a : Act} {k : List Item} {cs : List Frame} {w : World} {ops : Array Oper} {i : Nat} {rest : List Nat} {o : Oper} {x : Operand} {f : FuncId} {args : Array Operand} {ats : Array TypeId} {vs : Array Value}
    {nf m : Nat} {Post : Value → World → Prop} {Stop : Goroutine → World → Prop}
    (ho : ops[i]? = some o) (hw : Region.wanted o (yielded ops a.tmps) = true) (hk : b.kind ≠ .early) (hop : o.op = .call { callee := .value x, args, argTypes := ats }) (hx : a.eval x = .func (.func f) #[] #[]) (hargs : args.map a.eval = vs)
    (hcall : CallsC P main R D f vs nf w Post)
    (hnext : ∀ v w', Post v w' → Goes P main R D Stop m (G (b.at (a.put o.dst v) (.inRegion ops rest :: k)) cs) w') :
    Goes P main R D Stop (m + nf + 3) (G (b.at a (.inRegion ops (i :: rest) :: k)) cs) w := by
  obtain ⟨fn, c, hf, hname, hbody, hwp⟩ := hcall
  have hfin : ∀ v, (b.at a (.inRegion ops (i :: rest) :: k)).finish v = b.at (a.put o.dst v) (.inRegion ops rest :: k) := fun v => by rw [Frame.finish_at, ho]; rfl
  have back : ∀ (a' : Act) (w' : World) (todo : List Item), (a'.defers = [] ∧ ∃ v, ResultsC P fn a'.tmps v ∧ Post v w') →
      Goes P main R D Stop (m + 1) (G { (base f).at a' todo with mode := .returning } (b.at a (.inRegion ops (i :: rest) :: k) :: cs)) w' := by
    rintro a' w' todo ⟨hd, v, hr, hp⟩
    refine Goes.step rfl fun w₁ h₁ => ?_
    rw [stepG_leave (b := base f) rfl hd hf (hr w₁).1 (hr w₁).2, hfin]
    exact ⟨T.idle _, (hnext v w' hp).rely T.trans h₁⟩
  have body : Goes P main R D Stop (m + 2 + nf) (G ((base f).at { tmps := vs ++ Array.replicate (fn.ntmps - vs.size) undef, defers := [] } [.code c]) (b.at a (.inRegion ops (i :: rest) :: k) :: cs)) w := by
    refine hwp (base f) [] _ Stop (m + 2) rfl (by simp [base]) fun e a' w' q => ?_
    cases e with
    | normal => exact Goes.step rfl fun w₁ h₁ => by rw [stepG_end]; exact ⟨T.idle _, (back a' w' [] q).rely T.trans h₁⟩
    | ret => exact fun todo => (back a' w' todo q).more
    | exit id => exact q.elim
    | goto l => exact q.elim
    | panic ch => exact q.elim
    | outgrown => exact q.elim
  have e : m + nf + 3 = (m + 2 + nf) + 1 := by omega
  rw [e]
  refine Goes.step rfl fun w₁ h₁ => ?_
  have hrT := runT_callv hop hx hargs hf hname hbody w₁
  have hr : (execOp a.eval o).run P w₁ = .ok (.enter f vs) w₁ := by rw [← Sem.runT_fst P _ w₁ #[], hrT]
  have hl : listed P b.fn a o w₁ = #[] := by
    have he : (execOp a.eval o).events P w₁ #[] = #[] := congrArg Prod.snd hrT
    unfold listed
    rw [he]
    exact seen_none P _
  rw [stepG_enter ho hw hk hr, hl, enter_at vs hf hbody]
  exact ⟨T.idle _, body.rely T.trans h₁⟩
theorem opsC_callv (T : Terms R D) {fn : FuncId} {Q : Exit → Act → World → Prop} {a : Act} {w : World} {ops : Array Oper} {i : Nat} {rest : List Nat} {o : Oper} {x : Operand} {f : FuncId} {args : Array Operand} {ats : Array TypeId} {vs : Array Value} {nf n : Nat} {Post : Value → World → Prop}
    (ho : ops[i]? = some o) (hw : Region.wanted o (yielded ops a.tmps) = true) (hop : o.op = .call { callee := .value x, args, argTypes := ats }) (hx : a.eval x = .func (.func f) #[] #[]) (hargs : args.map a.eval = vs)
    (hcall : CallsC P main R D f vs nf w Post) (hnext : ∀ v w', Post v w' → OpsC P main R D fn ops rest n Q (a.put o.dst v) w') : OpsC P main R D fn ops (i :: rest) (n + nf + 3) Q a w := by
  intro b k cs Stop m hb hk hc
  have := goes_callv (Stop := Stop) (m := m + n) (b := b) (k := k) (cs := cs) T ho hw hk hop hx hargs hcall fun v w' hp => hnext v w' hp b k cs Stop m hb hk hc
  exact this.mono (by omega)
end
end Go.Tw
end

section
namespace Go.Proofs.Ytcdnmnipaaooiaa
open Go.Conc Go.RowKit Go.Tw
/-- The element that a number stands for, aas the program reckons it. -/
def elt (q : Int) : Int := (IntKind.i64.wrap (q.tmod 31 + 31)).tmod 31
/-- What make2 makes of two numbers: function 47, 49 or 50. -/
def made (f : Nat) (x y : Int) : Int := if f = 47 then elt (IntKind.i64.wrap (x + y)) else if f = 49 then elt (IntKind.i64.wrap (x - y)) else y
section
variable {main : Bool} {R : World → World → Prop} {D : World → World → Array Event → Prop} {H : World → Prop}
theorem call72 (T : Terms R D) (rl : ∀ {x y}, H x → R x y → H y) : ∃ n, ∀ (q : Int) (w : World), H w → CallsC Try.prog main R D 72 #[.int .i64 q] n w (fun v w' => v = .int .i64 (elt q) ∧ H w') := by
  co_apply Exists.intro
  intro q w hF
  co_apply callsC_of_wpC Try.func72
  · kernel_rfl
  · rfl
  walk_nrmf Try.f72
  co_go T rl hF (co_quiet T)
  exact ⟨rfl, _, resultsC_tmp rfl _, rfl, hF⟩
theorem call47 (T : Terms R D) (rl : ∀ {x y}, H x → R x y → H y) : ∃ n, ∀ (x y : Int) (w : World), H w → CallsC Try.prog main R D 47 #[.int .i64 x, .int .i64 y] n w (fun v w' => v = .int .i64 (made 47 x y) ∧ H w') := by
  obtain ⟨n, h72⟩ := call72 (main := main) T rl
  co_apply Exists.intro
  intro x y w hF
  co_apply callsC_of_wpC Try.func47
  · kernel_rfl
  · rfl
  walk_nrmf Try.f47
  co_go T rl hF (co_quiet T)
  co_apply opsC_callv T rfl rfl rfl rfl (vs := #[.int .i64 (IntKind.i64.wrap (x + y))]) (by simp [Act.eval]) (h72 _ _ hF)
  rintro v w' ⟨rfl, hF⟩
  co_go T rl hF (co_quiet T)
  exact ⟨rfl, _, resultsC_tmp rfl _, rfl, hF⟩
theorem call49 (T : Terms R D) (rl : ∀ {x y}, H x → R x y → H y) : ∃ n, ∀ (x y : Int) (w : World), H w → CallsC Try.prog main R D 49 #[.int .i64 x, .int .i64 y] n w (fun v w' => v = .int .i64 (made 49 x y) ∧ H w') := by
  obtain ⟨n, h72⟩ := call72 (main := main) T rl
  co_apply Exists.intro
  intro x y w hF
  co_apply callsC_of_wpC Try.func49
  · kernel_rfl
  · rfl
  walk_nrmf Try.f49
  co_go T rl hF (co_quiet T)
  co_apply opsC_callv T rfl rfl rfl rfl (vs := #[.int .i64 (IntKind.i64.wrap (x - y))]) (by simp [Act.eval]) (h72 _ _ hF)
  rintro v w' ⟨rfl, hF⟩
  co_go T rl hF (co_quiet T)
  exact ⟨rfl, _, resultsC_tmp rfl _, rfl, hF⟩
theorem call50 (T : Terms R D) (rl : ∀ {x y}, H x → R x y → H y) : ∃ n, ∀ (x y : Int) (w : World), H w → CallsC Try.prog main R D 50 #[.int .i64 x, .int .i64 y] n w (fun v w' => v = .int .i64 (made 50 x y) ∧ H w') := by
  co_apply Exists.intro
  intro x y w hF
  co_apply callsC_of_wpC Try.func50
  · kernel_rfl
  · rfl
  walk_nrmf Try.f50
  co_go T rl hF (co_quiet T)
  exact ⟨rfl, _, resultsC_tmp rfl _, rfl, hF⟩
def IsMake (f : Nat) : Prop := f = 47 ∨ f = 49 ∨ f = 50
theorem callMake {f : Nat} (hf : IsMake f) (T : Terms R D) (rl : ∀ {x y}, H x → R x y → H y) : ∃ n, ∀ (x y : Int) (w : World), H w → CallsC Try.prog main R D f #[.int .i64 x, .int .i64 y] n w (fun v w' => v = .int .i64 (made f x y) ∧ H w') := by
  rcases hf with rfl | rfl | rfl
  · exact call47 T rl
  · exact call49 T rl
  · exact call50 T rl
end
end Go.Proofs.Ytcdnmnipaaooiaa
end

section
namespace Go.Tw
open Go.Conc
section
variable {P : Program} {main : Bool} {R : World → World → Prop} {D : World → World → Array Event → Prop} {fn : FuncId} {ops : Array Oper} {Q : Exit → Act → World → Prop} {md : Region.Mode}
/-- Operation i comes up: at most n steps, and K. -/
def Takes (P : Program) (main : Bool) (R : World → World → Prop) (D : World → World → Array Event → Prop) (fn : FuncId) (ops : Array Oper) (n i : Nat) (a : Act) (w : World) (K : Act → World → Prop) : Prop :=
  ∀ rest m Q, (∀ a' w', K a' w' → OpsC P main R D fn ops rest m Q a' w') → OpsC P main R D fn ops (i :: rest) (m + n) Q a w
def AnyX (P : Program) (main : Bool) (R : World → World → Prop) (D : World → World → Array Event → Prop) (fn : FuncId) (md : Region.Mode) (ops : Array Oper) (Q : Exit → Act → World → Prop) (c : Nat) : Nat → Array Bool → Act → World → Prop
  | 0, listed, a, w => Region.ready md ops listed = [] ∧ Q .normal a w
  | fuel + 1, listed, a, w =>
    (Region.ready md ops listed = [] → Q .normal a w) ∧
    ∀ i ∈ Region.ready md ops listed, Takes P main R D fn ops c i a w (fun a' w' => AnyX P main R D fn md ops Q c fuel (listed.setIfInBounds i true) a' w')
theorem anyX_sound (T : Terms R D) {c : Nat} : ∀ (fuel t : Nat) (listed : Array Bool) (a : Act) (w : World), AnyX P main R D fn md ops Q c fuel listed a w →
    OpsC P main R D fn ops (Region.linearise.go md ops fuel t listed []) (fuel * c + 1) Q a w := by
  intro fuel
  induction fuel with
  | zero => intro t listed a w h; simpa [Region.linearise.go] using opsC_nil T h.2
  | succ fuel ih =>
    intro t listed a w h
    obtain ⟨h₀, h₁⟩ := h
    simp only [Region.linearise.go]
    change OpsC P main R D fn ops (match (Region.ready md ops listed)[t % (Region.ready md ops listed).length]? with
      | some i => Region.linearise.go md ops fuel (t / (Region.ready md ops listed).length) (listed.setIfInBounds i true) [i]
      | none => [].reverse) ((fuel + 1) * c + 1) Q a w
    cases hi : (Region.ready md ops listed)[t % (Region.ready md ops listed).length]? with
    | none =>
      have hnil : Region.ready md ops listed = [] := by
        cases hr : Region.ready md ops listed with
        | nil => rfl
        | cons x xs =>
          rw [hr] at hi
          have hlt : t % (x :: xs).length < (x :: xs).length := Nat.mod_lt _ (by simp)
          exact absurd (List.getElem?_eq_none_iff.1 hi) (by omega)
      exact opsC_more (by simpa using opsC_nil T (h₀ hnil)) (by omega)
    | some i =>
      simp only []
      rw [linearise_go_acc, List.reverse_singleton, List.singleton_append]
      have := h₁ i (List.mem_of_getElem? hi) (Region.linearise.go md ops fuel (t / (Region.ready md ops listed).length) (listed.setIfInBounds i true) []) (fuel * c + 1) Q fun a' w' hk => ih (t / (Region.ready md ops listed).length) _ a' w' hk
      exact opsC_more this (by rw [Nat.succ_mul]; omega)
theorem wpC_region_any (T : Terms R D) (hd : LetsDraw D) {id c : Nat} {a : Act} {w : World} (hm : P.follows .mixedOrders = true)
    (h : ∀ w₁, R w w₁ → AnyX P main R D fn .any ops Q c ops.size (Array.replicate ops.size false) a { w₁ with drawn := w₁.drawn + 1 }) : (Code.region id ops true).wpC P main R D fn (ops.size * c + 1 + 1) Q a w :=
  wpC_region_draw hd fun w₁ h₁ t => by
    simp only [Region.schedule, hm, Bool.true_or, if_true]
    exact anyX_sound T ops.size t _ a _ (h w₁ h₁)
/-- An operation that yields a value and leaves the world. -/
theorem takes_value {c i : Nat} (hc : 1 ≤ c) {o : Oper} {a : Act} {w : World} {v : Value} (ho : ops[i]? = some o) (hw : Region.wanted o (yielded ops a.tmps) = true) {K : Act → World → Prop}
    (hv : ∀ w₁, R w w₁ → (execOp a.eval o).run P w₁ = .ok (.value v) w₁ ∧ D w₁ w₁ (listed P fn a o w₁) ∧ K (a.put o.dst v) w₁) : Takes P main R D fn ops c i a w K := by
  intro rest m Q hK
  have : OpsC P main R D fn ops (i :: rest) (m + 1) Q a w := opsC_cons ho hw fun w₁ h₁ => by
    obtain ⟨e, d, k⟩ := hv w₁ h₁
    rw [e]
    exact ⟨d, hK _ _ k⟩
  exact opsC_more this (by omega)
/-- An operation that yields nothing and turns the world. -/
theorem takes_skip {c i : Nat} (hc : 1 ≤ c) {o : Oper} {a : Act} {w : World} (ho : ops[i]? = some o) (hw : Region.wanted o (yielded ops a.tmps) = true) {K : Act → World → Prop}
    (hv : ∀ w₁, R w w₁ → ∃ w₂, (execOp a.eval o).run P w₁ = .ok .skip w₂ ∧ D w₁ w₂ (listed P fn a o w₁) ∧ K (a.put o.dst undef) w₂) : Takes P main R D fn ops c i a w K := by
  intro rest m Q hK
  have : OpsC P main R D fn ops (i :: rest) (m + 1) Q a w := opsC_cons ho hw fun w₁ h₁ => by
    obtain ⟨w₂, e, d, k⟩ := hv w₁ h₁
    rw [e]
    exact ⟨d, hK _ _ k⟩
  exact opsC_more this (by omega)
/-- A call. -/
theorem takes_call (T : Terms R D) {c i nf : Nat} (hc : nf + 3 ≤ c) {o : Oper} {a : Act} {w : World} {x : Operand} {f : FuncId} {args : Array Operand} {ats : Array TypeId} {vs : Array Value} {Post : Value → World → Prop}
    (ho : ops[i]? = some o) (hw : Region.wanted o (yielded ops a.tmps) = true) (hop : o.op = .call { callee := .value x, args, argTypes := ats }) (hx : a.eval x = .func (.func f) #[] #[]) (hargs : args.map a.eval = vs)
    {K : Act → World → Prop} (hcall : CallsC P main R D f vs nf w Post) (hk : ∀ v w', Post v w' → K (a.put o.dst v) w') : Takes P main R D fn ops c i a w K := by
  intro rest m Q hK
  exact opsC_more (opsC_callv T ho hw hop hx hargs hcall fun v w' hp => hK _ _ (hk v w' hp)) (by omega)
end
end Go.Tw
end
