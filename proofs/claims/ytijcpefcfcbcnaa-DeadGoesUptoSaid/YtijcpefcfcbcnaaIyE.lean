import Derived.Test.YtijcpefcfcbcnaaIyD
set_option linter.unusedSimpArgs false
set_option linter.unusedVariables false
namespace Go.Cm
open Go.Proofs
variable {F:aW}{L:List (Nat×CV)}{m:Mem}{Q:CE→TS→Prop}
noncomputable section
abbrev R75:=rg 75 Try.f75
def c75l0:SC:=
 (.seq (.seq (.reg false (some [0,1,5,6,7,8,49]) (R75 11)) (.cond (.tmp 49) .nop (.exit 2))) (.seq (.block 3 (.seq (.reg false (some [0,1,5,6,7,8,9]) (R75 13)) (.seq (.reg false (some [0,1,5,6,7,8,9,71]) (R75 14)) (.cond (.tmp 71) (.reg false (some [0,1,5,6,7,8]) (R75 15)) .nop)))) (.reg false (some [0,1,5,6,7,8]) (R75 12))))
def c75l1:SC:=
 (.seq (.seq (.reg false (some [0,1,5,6,24]) (R75 5)) (.cond (.tmp 24) .nop (.exit 0))) (.block 1 (.seq (.reg false (some [0,1,5,6,7]) (R75 6)) (.seq (.reg false (some [0,1,5,6,7]) (R75 7)) (.seq (.seq (.reg false (some [0,1,5,6,7,39]) (R75 8)) (.cond (.tmp 39) (.exit 1) .nop)) (.seq (.reg false (some [0,1,5,6,7]) (R75 9)) (.seq (.reg false (some [0,1,5,6,7,8]) (R75 10)) (.block 2 (.loop c75l0)))))))))
def c75:SC:=
 (.seq (.reg false (some [0,1]) (R75 0)) (.seq (.reg false (some [0,1,5]) (R75 1)) (.seq (.seq (.reg false (some [0,1,5,19]) (R75 2)) (.cond (.tmp 19) (.seq (.reg false (some [4]) (R75 3)) .ret) .nop)) (.seq (.reg false (some [0,1,5,6]) (R75 4)) (.seq (.block 0 (.loop c75l1)) (.seq (.reg false (some [4]) (R75 16)) .ret))))))
theorem s75:Try.f75.body.bind (bh Try.prog An 75 Try.f75.ntmps)=some c75:=by kernel_rfl
theorem g75:An.glob 75=[]:=rfl
theorem r75:Try.f75.results.toList=[(.tmp 4)]:=by kernel_rfl
theorem Fu (h:Q .normal ⟨tk L [0,1] [],m⟩):Rg F 75 [0,1] (R75 0) L m Q:=Tq h
theorem Fv (h:Obt (lenS (ac L 0)) λa0=>Obt (mkX false 192 1 1 [.bool false] a0 a0 m) λa1=>Q .normal ⟨tk L [0,1] [(5,a1.1)],a1.2⟩):Rg F 75 [0,1,5] (R75 1) L m Q:=Tq h
theorem FA (h:Obt (lenS (ac L 0)) λa0=>Obt (aw Try.prog .eql 3 (.tmp 14) (.const (.int .i64 0)) a0 (.int .i64 0)) λa1=>Obt (gW a1 false (ac L 1) m) λa2=>Obt (gV a1 false (aw Try.prog .eql 3 (.tmp 17) (.const (.int .i64 0)) a2.1 (.int .i64 0)) a2.2) λa3=>Obt (aT a1 (.bool true) a3.1) λa4=>Q .normal ⟨tk L [0,1,5] [(19,a4)],a3.2⟩):Rg F 75 [0,1,5,19] (R75 2) L m Q:=Tq h
theorem t75r3 (h:Q .normal ⟨[(4,(ac L 5))],m⟩):Rg F 75 [4] (R75 3) L m Q:=Tq h
theorem t75r4 (h:Obt (be false 336 1 1 [.int .i64 0] [(0,1,(.int .i64 0))] m) λa0=>Q .normal ⟨tk L [0,1,5] [(6,a0.1)],a0.2⟩):Rg F 75 [0,1,5,6] (R75 4) L m Q:=Tq h
theorem FB (h:Obt (lenS (ac L 6)) λa0=>Obt (aw Try.prog .gtr 3 (.tmp 23) (.const (.int .i64 0)) a0 (.int .i64 0)) λa1=>Q .normal ⟨tk L [0,1,5,6] [(24,a1)],m⟩):Rg F 75 [0,1,5,6,24] (R75 5) L m Q:=Tq h
theorem t75r6 (h:Obt (lenS (ac L 6)) λa0=>Obt (aw Try.prog .sub 3 (.tmp 27) (.const (.int .i64 1)) a0 (.int .i64 1)) λa1=>Obt (bd 1 (ac L 6) a1) λa2=>Obt (ld1 m a2) λa3=>Q .normal ⟨tk L [0,1,5,6] [(7,a3)],m⟩):Rg F 75 [0,1,5,6,7] (R75 6) L m Q:=Tq h
theorem t75r7 (h:Obt (lenS (ac L 6)) λa0=>Obt (aw Try.prog .sub 3 (.tmp 33) (.const (.int .i64 1)) a0 (.int .i64 1)) λa1=>Obt (sJ 1 (ac L 6) none (some a1) none m) λa2=>Q .normal ⟨tk L [0,1,5] ((6,a2)::tk L [7] []),m⟩):Rg F 75 [0,1,5,6,7] (R75 7) L m Q:=Tq h
theorem t75r8 (h:Obt (bd 1 (ac L 5) (ac L 7)) λa0=>Obt (ld1 m a0) λa1=>Q .normal ⟨tk L [0,1,5,6,7] [(39,a1)],m⟩):Rg F 75 [0,1,5,6,7,39] (R75 8) L m Q:=Tq h
theorem t75r9 (h:Obt (bd 1 (ac L 5) (ac L 7)) λa0=>Obt (stX 1 m a0 (.bool true)) λa1=>Q .normal ⟨tk L [0,1,5,6,7] [],a1⟩):Rg F 75 [0,1,5,6,7] (R75 9) L m Q:=Tq h
theorem t75r10 (h:Q .normal ⟨tk L [0,1,5,6,7] [(8,(.int .i64 0))],m⟩):Rg F 75 [0,1,5,6,7,8] (R75 10) L m Q:=Tq h
theorem uD (h:Obt (bd 1 (ac L 0) (ac L 7)) λa0=>Obt (ld1 m a0) λa1=>Obt (lenS a1) λa2=>Obt (aw Try.prog .lss 3 (.tmp 43) (.tmp 48) (ac L 8) a2) λa3=>Q .normal ⟨tk L [0,1,5,6,7,8] [(49,a3)],m⟩):Rg F 75 [0,1,5,6,7,8,49] (R75 11) L m Q:=Tq h
theorem Fy (h:Obt (bd 1 (ac L 0) (ac L 7)) λa0=>Obt (ld1 m a0) λa1=>Obt (bd 1 a1 (ac L 8)) λa2=>Obt (ld1 m a2) λa3=>Q .normal ⟨tk L [0,1,5,6,7,8] [(9,a3)],m⟩):Rg F 75 [0,1,5,6,7,8,9] (R75 13) L m Q:=Tq h
theorem Fz (h:Obt (aw Try.prog .geq 3 (.tmp 59) (.const (.int .i64 0)) (ac L 9) (.int .i64 0)) λa0=>Obt (gW a0 true (ac L 9) m) λa1=>Obt (gW a0 true (ac L 0) a1.2) λa2=>Obt (gV a0 true (lenS a2.1) a2.2) λa3=>Obt (gV a0 true (aw Try.prog .lss 3 (.tmp 62) (.tmp 64) a1.1 a3.1) a3.2) λa4=>Obt (aT a0 a4.1 (.bool false)) λa5=>Obt (gW a5 true (ac L 9) a4.2) λa6=>Obt (gW a5 true (ac L 1) a6.2) λa7=>Obt (gV a5 true (aw Try.prog .neq 3 (.tmp 68) (.tmp 69) a6.1 a7.1) a7.2) λa8=>Obt (aT a5 a8.1 (.bool false)) λa9=>Q .normal ⟨tk L [0,1,5,6,7,8,9] [(71,a9)],a8.2⟩):Rg F 75 [0,1,5,6,7,8,9,71] (R75 14) L m Q:=Tq h
theorem t75r15 (h:Obt (be false 1184 1 1 [.int .i64 0] [(0,1,(ac L 9))] m) λa0=>Obt (ej false 1200 1 8 (ac L 6) a0.1 a0.2) λa1=>Q .normal ⟨tk L [0,1,5] ((6,a1.1)::tk L [7,8] []),a1.2⟩):Rg F 75 [0,1,5,6,7,8] (R75 15) L m Q:=Tq h
theorem Fx (h:Obt (aw Try.prog .add 3 (.tmp 50) (.const (.int .i64 1)) (ac L 8) (.int .i64 1)) λa0=>Q .normal ⟨tk L [0,1,5,6,7] [(8,a0)],m⟩):Rg F 75 [0,1,5,6,7,8] (R75 12) L m Q:=Tq h
theorem t75r16 (h:Q .normal ⟨[(4,(ac L 5))],m⟩):Rg F 75 [4] (R75 16) L m Q:=Tq h
abbrev R72:=rg 72 Try.f72
def c72:SC:=
 (.seq (.reg false (some [0]) (R72 0)) (.seq (.reg false (some [2]) (R72 1)) .ret))
theorem s72:Try.f72.body.bind (bh Try.prog An 72 Try.f72.ntmps)=some c72:=by kernel_rfl
theorem g72:An.glob 72=[]:=rfl
theorem r72:Try.f72.results.toList=[(.tmp 2)]:=by kernel_rfl
theorem t72r0 (h:Q .normal ⟨tk L [0] [],m⟩):Rg F 72 [0] (R72 0) L m Q:=Tq h
theorem t72r1 (h:Obt (aB An F 72 (some 4) 75 [(ac L 0),(.int .i64 (-1))] m) λa0=>Q .normal ⟨[(2,a0.1)],a0.2⟩):Rg F 72 [2] (R72 1) L m Q:=Tq h
abbrev R49:=rg 49 Try.f49
def c49l0:SC:=
 (.seq (.seq (.reg false (some [0,3,4,5,6,7,8,26]) (R49 9)) (.cond (.tmp 26) .nop (.exit 2))) (.seq (.block 3 (.reg false (some [0,3,4,5,6,7,8]) (R49 11))) (.reg false (some [0,3,4,5,6,7,8]) (R49 10))))
def c49l1:SC:=
 (.seq (.seq (.reg false (some [0,3,4,5,14]) (R49 4)) (.cond (.tmp 14) .nop (.exit 0))) (.seq (.block 1 (.seq (.reg false (some [0,3,4,5,6]) (R49 6)) (.seq (.reg false (some [0,3,4,5,6,7]) (R49 7)) (.seq (.seq (.reg false (some [0,3,4,5,6,7,8]) (R49 8)) (.block 2 (.loop c49l0))) (.reg false (some [0,3,4,5]) (R49 12)))))) (.reg false (some [0,3,4,5]) (R49 5))))
def c49:SC:=
 (.seq (.reg false (some [0]) (R49 0)) (.seq (.reg false (some [0,3]) (R49 1)) (.seq (.reg false (some [0,3,4]) (R49 2)) (.seq (.seq (.reg false (some [0,3,4,5]) (R49 3)) (.block 0 (.loop c49l1))) (.seq (.reg false (some [2]) (R49 13)) .ret)))))
theorem s49:Try.f49.body.bind (bh Try.prog An 49 Try.f49.ntmps)=some c49:=by kernel_rfl
theorem g49:An.glob 49=[]:=rfl
theorem r49:Try.f49.results.toList=[(.tmp 2)]:=by kernel_rfl
theorem t49r0 (h:Q .normal ⟨tk L [0] [],m⟩):Rg F 49 [0] (R49 0) L m Q:=Tq h
theorem t49r1 (h:Obt (aB An F 49 (some 10) 72 [(ac L 0)] m) λa0=>Q .normal ⟨tk L [0] [(3,a0.1)],a0.2⟩):Rg F 49 [0,3] (R49 1) L m Q:=Tq h
theorem t49r2 (h:Q .normal ⟨tk L [0,3] [(4,.nil)],m⟩):Rg F 49 [0,3,4] (R49 2) L m Q:=Tq h
theorem t49r3 (h:Q .normal ⟨tk L [0,3,4] [(5,(.int .i64 0))],m⟩):Rg F 49 [0,3,4,5] (R49 3) L m Q:=Tq h
theorem t49r4 (h:Obt (lenS (ac L 0)) λa0=>Obt (aw Try.prog .lss 3 (.tmp 11) (.tmp 13) (ac L 5) a0) λa1=>Q .normal ⟨tk L [0,3,4,5] [(14,a1)],m⟩):Rg F 49 [0,3,4,5,14] (R49 4) L m Q:=Tq h
theorem t49r6 (h:Obt (aB An F 49 (some 19) 75 [(ac L 0),(ac L 5)] m) λa0=>Q .normal ⟨tk L [0,3,4,5] [(6,a0.1)],a0.2⟩):Rg F 49 [0,3,4,5,6] (R49 6) L m Q:=Tq h
theorem t49r7 (h:Obt (lenS (ac L 0)) λa0=>Obt (mkX false 352 1 1 [.bool false] a0 a0 m) λa1=>Q .normal ⟨tk L [0,3,4,5,6] [(7,a1.1)],a1.2⟩):Rg F 49 [0,3,4,5,6,7] (R49 7) L m Q:=Tq h
theorem t49r8 (h:Q .normal ⟨tk L [0,3,4,5,6,7] [(8,(.int .i64 0))],m⟩):Rg F 49 [0,3,4,5,6,7,8] (R49 8) L m Q:=Tq h
theorem Fb (h:Obt (lenS (ac L 0)) λa0=>Obt (aw Try.prog .lss 3 (.tmp 23) (.tmp 25) (ac L 8) a0) λa1=>Q .normal ⟨tk L [0,3,4,5,6,7,8] [(26,a1)],m⟩):Rg F 49 [0,3,4,5,6,7,8,26] (R49 9) L m Q:=Tq h
theorem Fa (h:Obt (bd 1 (ac L 3) (ac L 5)) λa0=>Obt (ld1 m a0) λa1=>Obt (gW a1 true (ac L 3) m) λa2=>Obt (gW a1 true (ac L 8) a2.2) λa3=>Obt (gV a1 true (bd 1 a2.1 a3.1) a3.2) λa4=>Obt (gV a1 true (ld1 a4.2 a4.1) a4.2) λa5=>Obt (aT a1 a5.1 (.bool false)) λa6=>Obt (gW a6 true (ac L 5) a5.2) λa7=>Obt (gW a6 true (ac L 8) a7.2) λa8=>Obt (gV a6 true (aw Try.prog .eql 3 (.tmp 42) (.tmp 43) a7.1 a8.1) a8.2) λa9=>Obt (gW a6 true a9.1 a9.2) λa10=>Obt (gW a10.1 false (ac L 6) a10.2) λa11=>Obt (gW a10.1 false (ac L 8) a11.2) λa12=>Obt (gV a10.1 false (bd 1 a11.1 a12.1) a12.2) λa13=>Obt (gV a10.1 false (ld1 a13.2 a13.1) a13.2) λa14=>Obt (gV a10.1 false (cun .not a14.1) a14.2) λa15=>Obt (gV a6 true (aT a10.1 (.bool true) a15.1) a15.2) λa16=>Obt (aT a6 a16.1 (.bool false)) λa17=>Obt (bd 1 (ac L 7) (ac L 8)) λa18=>Obt (stX 1 a16.2 a18 a17) λa19=>Q .normal ⟨tk L [0,3,4,5,6,7,8] [],a19⟩):Rg F 49 [0,3,4,5,6,7,8] (R49 11) L m Q:=Tq h
theorem E9 (h:Obt (aw Try.prog .add 3 (.tmp 27) (.const (.int .i64 1)) (ac L 8) (.int .i64 1)) λa0=>Q .normal ⟨tk L [0,3,4,5,6,7] [(8,a0)],m⟩):Rg F 49 [0,3,4,5,6,7,8] (R49 10) L m Q:=Tq h
theorem t49r12 (h:Obt (be false 896 1 1 [.nil] [(0,1,(ac L 7))] m) λa0=>Obt (ej false 912 1 24 (ac L 4) a0.1 a0.2) λa1=>Q .normal ⟨tk L [0,3] ((4,a1.1)::tk L [5] []),a1.2⟩):Rg F 49 [0,3,4,5] (R49 12) L m Q:=Tq h
theorem t49r5 (h:Obt (aw Try.prog .add 3 (.tmp 15) (.const (.int .i64 1)) (ac L 5) (.int .i64 1)) λa0=>Q .normal ⟨tk L [0,3,4] [(5,a0)],m⟩):Rg F 49 [0,3,4,5] (R49 5) L m Q:=Tq h
theorem t49r13 (h:Q .normal ⟨[(2,(ac L 4))],m⟩):Rg F 49 [2] (R49 13) L m Q:=Tq h
abbrev R44:=rg 44 Try.f44
def c44l0:SC:=
 (.seq (.seq (.reg false (some [0,1,5,14]) (R44 4)) (.cond (.tmp 14) .nop (.exit 0))) (.seq (.block 1 (.seq (.reg true (some [0,1,5,25]) (R44 6)) (.cond (.tmp 25) (.seq (.reg false (some [4]) (R44 7)) .ret) .nop))) (.reg false (some [0,1,5]) (R44 5))))
def c44:SC:=
 (.seq (.reg false (some [0,1]) (R44 0)) (.seq (.seq (.reg false (some [0,1,10]) (R44 1)) (.cond (.tmp 10) (.seq (.reg false (some [4]) (R44 2)) .ret) .nop)) (.seq (.seq (.reg false (some [0,1,5]) (R44 3)) (.block 0 (.loop c44l0))) (.seq (.reg false (some [4]) (R44 8)) .ret))))
theorem s44:Try.f44.body.bind (bh Try.prog An 44 Try.f44.ntmps)=some c44:=by kernel_rfl
theorem g44:An.glob 44=[]:=rfl
theorem r44:Try.f44.results.toList=[(.tmp 4)]:=by kernel_rfl
theorem t44r0 (h:Q .normal ⟨tk L [0,1] [],m⟩):Rg F 44 [0,1] (R44 0) L m Q:=Tq h
theorem t44r1 (h:Obt (lenS (ac L 0)) λa0=>Obt (lenS (ac L 1)) λa1=>Obt (aw Try.prog .neq 3 (.tmp 7) (.tmp 9) a0 a1) λa2=>Q .normal ⟨tk L [0,1] [(10,a2)],m⟩):Rg F 44 [0,1,10] (R44 1) L m Q:=Tq h
theorem t44r2 (h:Q .normal ⟨[(4,(.bool false))],m⟩):Rg F 44 [4] (R44 2) L m Q:=Tq h
theorem t44r3 (h:Q .normal ⟨tk L [0,1] [(5,(.int .i64 0))],m⟩):Rg F 44 [0,1,5] (R44 3) L m Q:=Tq h
theorem EU (h:Obt (lenS (ac L 0)) λa0=>Obt (aw Try.prog .lss 3 (.tmp 11) (.tmp 13) (ac L 5) a0) λa1=>Q .normal ⟨tk L [0,1,5] [(14,a1)],m⟩):Rg F 44 [0,1,5,14] (R44 4) L m Q:=Tq h
theorem t44r6 (h:Obt (bd 1 (ac L 0) (ac L 5)) λa0=>Obt (ld1 m a0) λa1=>Obt (bd 1 (ac L 1) (ac L 5)) λa2=>Obt (ld1 m a2) λa3=>Obt (aw Try.prog .neq 3 (.tmp 20) (.tmp 24) a1 a3) λa4=>Q .normal ⟨tk L [0,1,5] [(25,a4)],m⟩):Rt F 44 [0,1,5,25] (R44 6) L m Q:=Tq h
theorem t44r7 (h:Q .normal ⟨[(4,(.bool false))],m⟩):Rg F 44 [4] (R44 7) L m Q:=Tq h
theorem t44r5 (h:Obt (aw Try.prog .add 3 (.tmp 15) (.const (.int .i64 1)) (ac L 5) (.int .i64 1)) λa0=>Q .normal ⟨tk L [0,1] [(5,a0)],m⟩):Rg F 44 [0,1,5] (R44 5) L m Q:=Tq h
theorem t44r8 (h:Q .normal ⟨[(4,(.bool true))],m⟩):Rg F 44 [4] (R44 8) L m Q:=Tq h
abbrev R46:=rg 46 Try.f46
def c46l0:SC:=
 (.seq (.seq (.reg false (some [1,3,4,11]) (R46 3)) (.cond (.tmp 11) .nop (.exit 0))) (.seq (.block 1 (.seq (.reg false (some [1,3,4,5]) (R46 5)) (.seq (.reg false (some [1,3,4,5,6]) (R46 6)) (.seq (.seq (.reg false (some [1,3,4,5,6,27]) (R46 7)) (.cond (.tmp 27) (.reg false (some [1,3,4,5,6]) (R46 8)) .nop)) (.seq (.seq (.reg false (some [1,3,4,5,6,35]) (R46 9)) (.cond (.tmp 35) (.reg false (some [1,3,4,5]) (R46 10)) .nop)) (.reg false (some [1,3,4]) (R46 11))))))) (.reg false (some [1,3,4]) (R46 4))))
def c46:SC:=
 (.seq (.reg false (some [1]) (R46 0)) (.seq (.reg false (some [1,3]) (R46 1)) (.seq (.seq (.reg false (some [1,3,4]) (R46 2)) (.block 0 (.loop c46l0))) (.seq (.reg false (some [2]) (R46 12)) .ret))))
theorem s46:Try.f46.body.bind (bh Try.prog An 46 Try.f46.ntmps)=some c46:=by kernel_rfl
theorem g46:An.glob 46=[]:=rfl
theorem r46:Try.f46.results.toList=[(.tmp 2)]:=by kernel_rfl
theorem t46r0 (h:Obt (ap (ac L 0)) λa0=>Q .normal ⟨[(1,(bo m 16))],(bw m 16 a0)⟩):Rg F 46 [1] (R46 0) L m Q:=Tq h
theorem t46r1 (h:Q .normal ⟨tk L [1] [(3,.nil)],m⟩):Rg F 46 [1,3] (R46 1) L m Q:=Tq h
theorem t46r2 (h:Q .normal ⟨tk L [1,3] [(4,(.int .i64 0))],m⟩):Rg F 46 [1,3,4] (R46 2) L m Q:=Tq h
theorem ww (h:Obt (aA 0 (ac L 1)) λa0=>Obt (ld1 m a0) λa1=>Obt (lenS a1) λa2=>Obt (aw Try.prog .lss 3 (.tmp 7) (.tmp 10) (ac L 4) a2) λa3=>Q .normal ⟨tk L [1,3,4] [(11,a3)],m⟩):Rg F 46 [1,3,4,11] (R46 3) L m Q:=Tq h
theorem EW (h:Q .normal ⟨tk L [1,3,4] [(5,.nil)],m⟩):Rg F 46 [1,3,4,5] (R46 5) L m Q:=Tq h
theorem EX (h:Obt (aA 0 (ac L 1)) λa0=>Obt (ld1 m a0) λa1=>Obt (bd 10 a1 (ac L 4)) λa2=>Obt (aA 3 a2) λa3=>Obt (ldA 7 m a3) λa4=>Obt (stX 7 (bw m 96 [.int .i64 0,.int .i64 0,.bool false,.int .i64 0,.int .i64 0,.int .i64 0,.int .i64 0]) (bo m 96) a4) λa5=>Q .normal ⟨tk L [1,3,4,5] [(6,(bo m 96))],a5⟩):Rg F 46 [1,3,4,5,6] (R46 6) L m Q:=Tq h
theorem EY (h:Obt (aA 0 (ac L 6)) λa0=>Obt (ld1 m a0) λa1=>Obt (aw Try.prog .eql 54 (.tmp 21) (.const (.int .i64 1)) a1 (.int .i64 1)) λa2=>Obt (gV a2 false (aA 0 (ac L 6)) m) λa3=>Obt (gV a2 false (ld1 a3.2 a3.1) a3.2) λa4=>Obt (gV a2 false (aw Try.prog .eql 54 (.tmp 25) (.const (.int .i64 2)) a4.1 (.int .i64 2)) a4.2) λa5=>Obt (aT a2 (.bool true) a5.1) λa6=>Q .normal ⟨tk L [1,3,4,5,6] [(27,a6)],a5.2⟩):Rg F 46 [1,3,4,5,6,27] (R46 7) L m Q:=Tq h
theorem t46r8 (h:Obt (aA 5 (ac L 6)) λa0=>Obt (ld1 m a0) λa1=>Obt (be false 496 1 1 [.int .i64 0] [(0,1,a1)] m) λa2=>Obt (ej false 512 1 8 (ac L 5) a2.1 a2.2) λa3=>Q .normal ⟨tk L [1,3,4] ((5,a3.1)::tk L [6] []),a3.2⟩):Rg F 46 [1,3,4,5,6] (R46 8) L m Q:=Tq h
theorem EZ (h:Obt (aA 0 (ac L 6)) λa0=>Obt (ld1 m a0) λa1=>Obt (aw Try.prog .eql 54 (.tmp 34) (.const (.int .i64 2)) a1 (.int .i64 2)) λa2=>Q .normal ⟨tk L [1,3,4,5,6] [(35,a2)],m⟩):Rg F 46 [1,3,4,5,6,35] (R46 9) L m Q:=Tq h
theorem t46r10 (h:Obt (aA 6 (ac L 6)) λa0=>Obt (ld1 m a0) λa1=>Obt (be false 624 1 1 [.int .i64 0] [(0,1,a1)] m) λa2=>Obt (ej false 640 1 8 (ac L 5) a2.1 a2.2) λa3=>Q .normal ⟨tk L [1,3,4] [(5,a3.1)],a3.2⟩):Rg F 46 [1,3,4,5] (R46 10) L m Q:=Tq h
theorem ut (h:Obt (be false 688 1 1 [.nil] [(0,1,(ac L 5))] m) λa0=>Obt (ej false 704 1 24 (ac L 3) a0.1 a0.2) λa1=>Q .normal ⟨tk L [1] ((3,a1.1)::tk L [4] []),a1.2⟩):Rg F 46 [1,3,4] (R46 11) L m Q:=Tq h
theorem EV (h:Obt (aw Try.prog .add 3 (.tmp 12) (.const (.int .i64 1)) (ac L 4) (.int .i64 1)) λa0=>Q .normal ⟨tk L [1,3] [(4,a0)],m⟩):Rg F 46 [1,3,4] (R46 4) L m Q:=Tq h
theorem t46r12 (h:Q .normal ⟨[(2,(ac L 3))],m⟩):Rg F 46 [2] (R46 12) L m Q:=Tq h
abbrev R47:=rg 47 Try.f47
def c47l0:SC:=
 (.seq (.seq (.reg false (some [1,2,5,6,10,66]) (R47 10)) (.cond (.tmp 66) .nop (.exit 2))) (.seq (.block 3 (.seq (.reg false (some [1,2,5,6,10,87]) (R47 12)) (.cond (.tmp 87) (.seq (.reg false (some [4]) (R47 13)) .ret) .nop))) (.reg false (some [1,2,5,6,10]) (R47 11))))
def c47l1:SC:=
 (.seq (.seq (.reg false (some [1,2,5,6,21]) (R47 3)) (.cond (.tmp 21) .nop (.exit 0))) (.seq (.block 1 (.seq (.reg false (some [1,2,5,6,7]) (R47 5)) (.seq (.reg false (some [1,2,5,6,7,9]) (R47 6)) (.seq (.seq (.reg false (some [1,2,5,6,59]) (R47 7)) (.cond (.tmp 59) (.seq (.reg false (some [4]) (R47 8)) .ret) .nop)) (.seq (.reg false (some [1,2,5,6,10]) (R47 9)) (.block 2 (.loop c47l0))))))) (.reg false (some [1,2,5,6]) (R47 4))))
def c47l2:SC:=
 (.seq (.seq (.reg false (some [1,2,5,11,12,13,14,15,106]) (R47 23)) (.cond (.tmp 106) .nop (.exit 8))) (.seq (.block 9 (.seq (.reg false (some [1,2,5,11,12,13,14,15,117]) (R47 25)) (.cond (.tmp 117) (.reg false (some [1,2,5,11,12,13,14,15]) (R47 26)) .nop))) (.reg false (some [1,2,5,11,12,13,14,15]) (R47 24))))
def c47l3:SC:=
 (.seq (.seq (.reg false (some [1,2,5,11,12,13,14,97]) (R47 20)) (.cond (.tmp 97) .nop (.exit 6))) (.seq (.block 7 (.seq (.reg false (some [1,2,5,11,12,13,14,15]) (R47 22)) (.block 8 (.loop c47l2)))) (.reg false (some [1,2,5,11,12,13,14]) (R47 21))))
def c47l4:SC:=
 (.seq (.seq (.reg false (some [1,2,5,11,12,92]) (R47 16)) (.cond (.tmp 92) .nop (.exit 4))) (.seq (.block 5 (.seq (.reg false (some [1,2,5,11,12,13]) (R47 18)) (.seq (.seq (.reg false (some [1,2,5,11,12,13,14]) (R47 19)) (.block 6 (.loop c47l3))) (.seq (.reg false (some [1,2,5,11,12,137]) (R47 27)) (.cond (.tmp 137) (.seq (.reg false (some [4]) (R47 28)) .ret) .nop))))) (.reg false (some [1,2,5,11,12]) (R47 17))))
def c47:SC:=
 (.seq (.reg false (some [1,2]) (R47 0)) (.seq (.reg false (some [1,2,5]) (R47 1)) (.seq (.seq (.reg false (some [1,2,5,6]) (R47 2)) (.block 0 (.loop c47l1))) (.seq (.reg false (some [1,2,5,11]) (R47 14)) (.seq (.seq (.reg false (some [1,2,5,11,12]) (R47 15)) (.block 4 (.loop c47l4))) (.seq (.reg false (some [4]) (R47 29)) .ret))))))
theorem s47:Try.f47.body.bind (bh Try.prog An 47 Try.f47.ntmps)=some c47:=by kernel_rfl
theorem g47:An.glob 47=[]:=rfl
theorem r47:Try.f47.results.toList=[(.tmp 4)]:=by kernel_rfl
theorem t47r0 (h:Obt (ap (ac L 0)) λa0=>Q .normal ⟨tk L [1] [(2,(bo m 32))],(bw m 32 a0)⟩):Rg F 47 [1,2] (R47 0) L m Q:=Tq h
theorem t47r1 (h:Obt (aA 0 (ac L 2)) λa0=>Obt (ld1 m a0) λa1=>Obt (lenS a1) λa2=>Q .normal ⟨tk L [1,2] [(5,a2)],m⟩):Rg F 47 [1,2,5] (R47 1) L m Q:=Tq h
theorem t47r2 (h:Q .normal ⟨tk L [1,2,5] [(6,(.int .i64 0))],m⟩):Rg F 47 [1,2,5,6] (R47 2) L m Q:=Tq h
theorem p8 (h:Obt (aw Try.prog .lss 3 (.tmp 19) (.tmp 20) (ac L 6) (ac L 5)) λa0=>Q .normal ⟨tk L [1,2,5,6] [(21,a0)],m⟩):Rg F 47 [1,2,5,6,21] (R47 3) L m Q:=Tq h
theorem sV (h:Obt (aA 0 (ac L 2)) λa0=>Obt (ld1 m a0) λa1=>Obt (bd 10 a1 (ac L 6)) λa2=>Obt (aA 3 a2) λa3=>Obt (ldA 7 m a3) λa4=>Obt (stX 7 (bw m 112 [.int .i64 0,.int .i64 0,.bool false,.int .i64 0,.int .i64 0,.int .i64 0,.int .i64 0]) (bo m 112) a4) λa5=>Q .normal ⟨tk L [1,2,5,6] [(7,(bo m 112))],a5⟩):Rg F 47 [1,2,5,6,7] (R47 5) L m Q:=Tq h
theorem sW (h:Obt (aA 1 (ac L 7)) λa0=>Obt (ld1 m a0) λa1=>Obt (aB An F 47 (some 33) 71 [a1,(.int .u64 0),(.int .u64 0),(.bool true)] m) λa2=>Obt (cV 0 a2.1) λa3=>Obt (cV 1 a2.1) λa4=>Q .normal ⟨tk L [1,2,5,6,7] [(9,a4)],a2.2⟩):Rg F 47 [1,2,5,6,7,9] (R47 6) L m Q:=Tq h
theorem sX (h:Obt (aA 0 (ac L 7)) λa0=>Obt (ld1 m a0) λa1=>Obt (aw Try.prog .lss 54 (.tmp 37) (.const (.int .i64 1)) a1 (.int .i64 1)) λa2=>Obt (gV a2 false (aA 0 (ac L 7)) m) λa3=>Obt (gV a2 false (ld1 a3.2 a3.1) a3.2) λa4=>Obt (gV a2 false (aw Try.prog .gtr 54 (.tmp 41) (.const (.int .i64 3)) a4.1 (.int .i64 3)) a4.2) λa5=>Obt (aT a2 (.bool true) a5.1) λa6=>Obt (gV a6 false (aA 0 (ac L 7)) a5.2) λa7=>Obt (gV a6 false (ld1 a7.2 a7.1) a7.2) λa8=>Obt (gV a6 false (aw Try.prog .eql 54 (.tmp 46) (.const (.int .i64 2)) a8.1 (.int .i64 2)) a8.2) λa9=>Obt (gW a6 false a9.1 a9.2) λa10=>Obt (gW a10.1 true (ac L 9) a10.2) λa11=>Obt (gV a10.1 true (cun .not a11.1) a11.2) λa12=>Obt (gW a10.1 true a12.1 a12.2) λa13=>Obt (gV a13.1 false (aA 5 (ac L 7)) a13.2) λa14=>Obt (gV a13.1 false (ld1 a14.2 a14.1) a14.2) λa15=>Obt (gV a13.1 false (aA 6 (ac L 7)) a15.2) λa16=>Obt (gV a13.1 false (ld1 a16.2 a16.1) a16.2) λa17=>Obt (gV a13.1 false (aw Try.prog .eql 3 (.tmp 53) (.tmp 55) a15.1 a17.1) a17.2) λa18=>Obt (gV a10.1 true (aT a13.1 (.bool true) a18.1) a18.2) λa19=>Obt (gV a6 false (aT a10.1 a19.1 (.bool false)) a19.2) λa20=>Obt (aT a6 (.bool true) a20.1) λa21=>Q .normal ⟨tk L [1,2,5,6] [(59,a21)],a20.2⟩):Rg F 47 [1,2,5,6,59] (R47 7) L m Q:=Tq h
theorem wx (h:Q .normal ⟨[(4,(.bool false))],m⟩):Rg F 47 [4] (R47 8) L m Q:=Tq h
theorem t47r9 (h:Q .normal ⟨tk L [1,2,5,6] [(10,(.int .i64 0))],m⟩):Rg F 47 [1,2,5,6,10] (R47 9) L m Q:=Tq h
theorem rc (h:Obt (bd 1 (ac L 1) (ac L 6)) λa0=>Obt (ld1 m a0) λa1=>Obt (lenS a1) λa2=>Obt (aw Try.prog .lss 3 (.tmp 60) (.tmp 65) (ac L 10) a2) λa3=>Q .normal ⟨tk L [1,2,5,6,10] [(66,a3)],m⟩):Rg F 47 [1,2,5,6,10,66] (R47 10) L m Q:=Tq h
theorem uu (h:Obt (bd 1 (ac L 1) (ac L 6)) λa0=>Obt (ld1 m a0) λa1=>Obt (bd 1 a1 (ac L 10)) λa2=>Obt (ld1 m a2) λa3=>Obt (aw Try.prog .lss 3 (.tmp 75) (.const (.int .i64 0)) a3 (.int .i64 0)) λa4=>Obt (gW a4 false (ac L 1) m) λa5=>Obt (gW a4 false (ac L 6) a5.2) λa6=>Obt (gV a4 false (bd 1 a5.1 a6.1) a6.2) λa7=>Obt (gV a4 false (ld1 a7.2 a7.1) a7.2) λa8=>Obt (gW a4 false (ac L 10) a8.2) λa9=>Obt (gV a4 false (bd 1 a8.1 a9.1) a9.2) λa10=>Obt (gV a4 false (ld1 a10.2 a10.1) a10.2) λa11=>Obt (gW a4 false (ac L 5) a11.2) λa12=>Obt (gV a4 false (aw Try.prog .geq 3 (.tmp 84) (.tmp 85) a11.1 a12.1) a12.2) λa13=>Obt (aT a4 (.bool true) a13.1) λa14=>Q .normal ⟨tk L [1,2,5,6,10] [(87,a14)],a13.2⟩):Rg F 47 [1,2,5,6,10,87] (R47 12) L m Q:=Tq h
theorem E0 (h:Q .normal ⟨[(4,(.bool false))],m⟩):Rg F 47 [4] (R47 13) L m Q:=Tq h
theorem t47r11 (h:Obt (aw Try.prog .add 3 (.tmp 67) (.const (.int .i64 1)) (ac L 10) (.int .i64 1)) λa0=>Q .normal ⟨tk L [1,2,5,6] [(10,a0)],m⟩):Rg F 47 [1,2,5,6,10] (R47 11) L m Q:=Tq h
theorem t47r4 (h:Obt (aw Try.prog .add 3 (.tmp 22) (.const (.int .i64 1)) (ac L 6) (.int .i64 1)) λa0=>Q .normal ⟨tk L [1,2,5] [(6,a0)],m⟩):Rg F 47 [1,2,5,6] (R47 4) L m Q:=Tq h
theorem t47r14 (h:Obt (aB An F 47 (some 89) 72 [(ac L 1)] m) λa0=>Q .normal ⟨tk L [1,2,5] [(11,a0.1)],a0.2⟩):Rg F 47 [1,2,5,11] (R47 14) L m Q:=Tq h
theorem t47r15 (h:Q .normal ⟨tk L [1,2,5,11] [(12,(.int .i64 0))],m⟩):Rg F 47 [1,2,5,11,12] (R47 15) L m Q:=Tq h
theorem E2 (h:Obt (aw Try.prog .lss 3 (.tmp 90) (.tmp 91) (ac L 12) (ac L 5)) λa0=>Q .normal ⟨tk L [1,2,5,11,12] [(92,a0)],m⟩):Rg F 47 [1,2,5,11,12,92] (R47 16) L m Q:=Tq h
theorem t47r18 (h:Q .normal ⟨tk L [1,2,5,11,12] [(13,.nil)],m⟩):Rg F 47 [1,2,5,11,12,13] (R47 18) L m Q:=Tq h
theorem t47r19 (h:Q .normal ⟨tk L [1,2,5,11,12,13] [(14,(.int .i64 0))],m⟩):Rg F 47 [1,2,5,11,12,13,14] (R47 19) L m Q:=Tq h
theorem rd (h:Obt (aw Try.prog .lss 3 (.tmp 95) (.tmp 96) (ac L 14) (ac L 5)) λa0=>Q .normal ⟨tk L [1,2,5,11,12,13,14] [(97,a0)],m⟩):Rg F 47 [1,2,5,11,12,13,14,97] (R47 20) L m Q:=Tq h
theorem t47r22 (h:Q .normal ⟨tk L [1,2,5,11,12,13,14] [(15,(.int .i64 0))],m⟩):Rg F 47 [1,2,5,11,12,13,14,15] (R47 22) L m Q:=Tq h
theorem uv (h:Obt (bd 1 (ac L 1) (ac L 14)) λa0=>Obt (ld1 m a0) λa1=>Obt (lenS a1) λa2=>Obt (aw Try.prog .lss 3 (.tmp 100) (.tmp 105) (ac L 15) a2) λa3=>Q .normal ⟨tk L [1,2,5,11,12,13,14,15] [(106,a3)],m⟩):Rg F 47 [1,2,5,11,12,13,14,15,106] (R47 23) L m Q:=Tq h
theorem E4 (h:Obt (bd 1 (ac L 1) (ac L 14)) λa0=>Obt (ld1 m a0) λa1=>Obt (bd 1 a1 (ac L 15)) λa2=>Obt (ld1 m a2) λa3=>Obt (aw Try.prog .eql 3 (.tmp 115) (.tmp 116) a3 (ac L 12)) λa4=>Q .normal ⟨tk L [1,2,5,11,12,13,14,15] [(117,a4)],m⟩):Rg F 47 [1,2,5,11,12,13,14,15,117] (R47 25) L m Q:=Tq h
theorem t47r26 (h:Obt (be false 1920 1 1 [.int .i64 0] [(0,1,(ac L 14))] m) λa0=>Obt (ej false 1936 1 8 (ac L 13) a0.1 a0.2) λa1=>Q .normal ⟨tk L [1,2,5,11,12] ((13,a1.1)::tk L [14,15] []),a1.2⟩):Rg F 47 [1,2,5,11,12,13,14,15] (R47 26) L m Q:=Tq h
theorem E3 (h:Obt (aw Try.prog .add 3 (.tmp 107) (.const (.int .i64 1)) (ac L 15) (.int .i64 1)) λa0=>Q .normal ⟨tk L [1,2,5,11,12,13,14] [(15,a0)],m⟩):Rg F 47 [1,2,5,11,12,13,14,15] (R47 24) L m Q:=Tq h
theorem t47r21 (h:Obt (aw Try.prog .add 3 (.tmp 98) (.const (.int .i64 1)) (ac L 14) (.int .i64 1)) λa0=>Q .normal ⟨tk L [1,2,5,11,12,13] [(14,a0)],m⟩):Rg F 47 [1,2,5,11,12,13,14] (R47 21) L m Q:=Tq h
theorem uw (h:Obt (bd 1 (ac L 11) (ac L 12)) λa0=>Obt (ld1 m a0) λa1=>Obt (cun .not a1) λa2=>Obt (gW a2 false (ac L 13) m) λa3=>Obt (gV a2 false (aA 0 (ac L 2)) a3.2) λa4=>Obt (gV a2 false (ld1 a4.2 a4.1) a4.2) λa5=>Obt (gW a2 false (ac L 12) a5.2) λa6=>Obt (gV a2 false (bd 10 a5.1 a6.1) a6.2) λa7=>Obt (gV a2 false (aA 0 a7.1) a7.2) λa8=>Obt (gV a2 false (ld1 a8.2 a8.1) a8.2) λa9=>Obt (gdO a2 false (aB An F 47 (some 135) 44 [a3.1,a9.1] a9.2) (.tuple [],a9.2)) λa10=>Obt (gV a2 false (cun .not a10.1) a10.2) λa11=>Obt (aT a2 (.bool true) a11.1) λa12=>Q .normal ⟨tk L [1,2,5,11,12] [(137,a12)],a11.2⟩):Rg F 47 [1,2,5,11,12,137] (R47 27) L m Q:=Tq h
theorem E5 (h:Q .normal ⟨[(4,(.bool false))],m⟩):Rg F 47 [4] (R47 28) L m Q:=Tq h
theorem t47r17 (h:Obt (aw Try.prog .add 3 (.tmp 93) (.const (.int .i64 1)) (ac L 12) (.int .i64 1)) λa0=>Q .normal ⟨tk L [1,2,5,11] [(12,a0)],m⟩):Rg F 47 [1,2,5,11,12] (R47 17) L m Q:=Tq h
theorem t47r29 (h:Obt (aA 0 (ac L 2)) λa0=>Obt (ld1 m a0) λa1=>Obt (bd 10 a1 (.int .i64 0)) λa2=>Obt (aA 0 a2) λa3=>Obt (ld1 m a3) λa4=>Obt (lenS a4) λa5=>Obt (aw Try.prog .eql 3 (.tmp 143) (.const (.int .i64 0)) a5 (.int .i64 0)) λa6=>Q .normal ⟨[(4,a6)],m⟩):Rg F 47 [4] (R47 29) L m Q:=Tq h
abbrev R71:=rg 71 Try.f71
def c71:SC:=
 (.seq (.reg false (some [0,1,2,3]) (R71 0)) (.seq (.seq (.reg false (some [0,1,2,3,11]) (R71 1)) (.cond (.tmp 11) (.seq (.reg false (some [0,1,2,3]) (R71 2)) (.reg false (some [0,1,2,3]) (R71 3))) .nop)) (.seq (.seq (.reg false (some [1,2,3,16]) (R71 4)) (.block 0 (.seq (.reg false (some [1,2,3,16,17]) (R71 5)) (.cond (.tmp 17) (.seq (.reg false (some [8,9]) (R71 6)) .ret) (.seq (.reg false (some [1,2,3,16,22]) (R71 7)) (.cond (.tmp 22) (.seq (.reg false (some [8,9]) (R71 8)) .ret) (.seq (.reg false (some [1,2,3,16,27]) (R71 9)) (.cond (.tmp 27) (.seq (.reg false (some [8,9]) (R71 10)) .ret) (.seq (.reg false (some [1,2,3,16,33]) (R71 11)) (.cond (.tmp 33) (.seq (.reg false (some [8,9]) (R71 12)) .ret) (.seq (.reg false (some [1,2,3,16,39]) (R71 13)) (.cond (.tmp 39) (.seq (.reg false (some [8,9]) (R71 14)) .ret) (.seq (.reg false (some [1,2,3,16,46]) (R71 15)) (.cond (.tmp 46) (.seq (.reg false (some [8,9]) (R71 16)) .ret) (.seq (.reg false (some [1,2,3,16,52]) (R71 17)) (.cond (.tmp 52) (.seq (.reg false (some [8,9]) (R71 18)) .ret) (.seq (.reg false (some [1,2,3,16,59]) (R71 19)) (.cond (.tmp 59) (.seq (.reg false (some [8,9]) (R71 20)) .ret) (.seq (.reg false (some [1,2,3,16,65]) (R71 21)) (.cond (.tmp 65) (.seq (.reg false (some [8,9]) (R71 22)) .ret) (.seq (.reg false (some [1,2,3,16,72]) (R71 23)) (.cond (.tmp 72) (.seq (.reg false (some [8,9]) (R71 24)) .ret) (.seq (.reg false (some [1,2,3,78]) (R71 25)) (.cond (.tmp 78) (.seq (.reg false (some [8,9]) (R71 26)) .ret) .nop)))))))))))))))))))))))) (.seq (.reg false (some [8,9]) (R71 27)) .ret))))
theorem s71:Try.f71.body.bind (bh Try.prog An 71 Try.f71.ntmps)=some c71:=by kernel_rfl
theorem g71:An.glob 71=[]:=rfl
theorem r71:Try.f71.results.toList=[(.tmp 8),(.tmp 9)]:=by kernel_rfl
theorem t71r0 (h:Q .normal ⟨tk L [0,1,2,3] [],m⟩):Rg F 71 [0,1,2,3] (R71 0) L m Q:=Tq h
theorem t71r1 (h:Obt (cun .not (ac L 3)) λa0=>Q .normal ⟨tk L [0,1,2,3] [(11,a0)],m⟩):Rg F 71 [0,1,2,3,11] (R71 1) L m Q:=Tq h
theorem t71r4 (h:Q .normal ⟨tk L [1,2,3] [(16,(ac L 0))],m⟩):Rg F 71 [1,2,3,16] (R71 4) L m Q:=Tq h
theorem t71r5 (h:Obt (aw Try.prog .eql 3 (.tmp 16) (.const (.int .i64 16)) (ac L 16) (.int .i64 16)) λa0=>Q .normal ⟨tk L [1,2,3,16] [(17,a0)],m⟩):Rg F 71 [1,2,3,16,17] (R71 5) L m Q:=Tq h
theorem t71r7 (h:Obt (aw Try.prog .eql 3 (.tmp 16) (.const (.int .i64 80)) (ac L 16) (.int .i64 80)) λa0=>Q .normal ⟨tk L [1,2,3,16] [(22,a0)],m⟩):Rg F 71 [1,2,3,16,22] (R71 7) L m Q:=Tq h
theorem t71r9 (h:Obt (aw Try.prog .eql 3 (.tmp 16) (.const (.int .i64 64)) (ac L 16) (.int .i64 64)) λa0=>Q .normal ⟨tk L [1,2,3,16] [(27,a0)],m⟩):Rg F 71 [1,2,3,16,27] (R71 9) L m Q:=Tq h
theorem t71r11 (h:Obt (aw Try.prog .eql 3 (.tmp 16) (.const (.int .i64 32)) (ac L 16) (.int .i64 32)) λa0=>Q .normal ⟨tk L [1,2,3,16] [(33,a0)],m⟩):Rg F 71 [1,2,3,16,33] (R71 11) L m Q:=Tq h
theorem t71r13 (h:Obt (aw Try.prog .eql 3 (.tmp 16) (.const (.int .i64 48)) (ac L 16) (.int .i64 48)) λa0=>Q .normal ⟨tk L [1,2,3,16] [(39,a0)],m⟩):Rg F 71 [1,2,3,16,39] (R71 13) L m Q:=Tq h
theorem t71r15 (h:Obt (aw Try.prog .eql 3 (.tmp 16) (.const (.int .i64 160)) (ac L 16) (.int .i64 160)) λa0=>Q .normal ⟨tk L [1,2,3,16] [(46,a0)],m⟩):Rg F 71 [1,2,3,16,46] (R71 15) L m Q:=Tq h
theorem t71r17 (h:Obt (aw Try.prog .eql 3 (.tmp 16) (.const (.int .i64 176)) (ac L 16) (.int .i64 176)) λa0=>Q .normal ⟨tk L [1,2,3,16] [(52,a0)],m⟩):Rg F 71 [1,2,3,16,52] (R71 17) L m Q:=Tq h
theorem t71r19 (h:Obt (aw Try.prog .eql 3 (.tmp 16) (.const (.int .i64 96)) (ac L 16) (.int .i64 96)) λa0=>Q .normal ⟨tk L [1,2,3,16] [(59,a0)],m⟩):Rg F 71 [1,2,3,16,59] (R71 19) L m Q:=Tq h
theorem t71r21 (h:Obt (aw Try.prog .eql 3 (.tmp 16) (.const (.int .i64 112)) (ac L 16) (.int .i64 112)) λa0=>Q .normal ⟨tk L [1,2,3,16] [(65,a0)],m⟩):Rg F 71 [1,2,3,16,65] (R71 21) L m Q:=Tq h
theorem t71r23 (h:Obt (aw Try.prog .eql 3 (.tmp 16) (.const (.int .i64 192)) (ac L 16) (.int .i64 192)) λa0=>Q .normal ⟨tk L [1,2,3,16] [(72,a0)],m⟩):Rg F 71 [1,2,3,16,72] (R71 23) L m Q:=Tq h
theorem t71r25 (h:Obt (aw Try.prog .eql 3 (.tmp 16) (.const (.int .i64 208)) (ac L 16) (.int .i64 208)) λa0=>Q .normal ⟨tk L [1,2,3] [(78,a0)],m⟩):Rg F 71 [1,2,3,78] (R71 25) L m Q:=Tq h
theorem t71r27 (h:Q .normal ⟨[(8,(.bool false)),(9,(.bool false))],m⟩):Rg F 71 [8,9] (R71 27) L m Q:=Tq h
abbrev Jt:=rg 101 Try.f101
def c101:SC:=
 (.seq (.reg false (some [0,1,2,3]) (Jt 0)) (.seq (.reg false (some [0,1,2,3,10]) (Jt 1)) (.seq (.seq (.reg false (some [0,1,2,3,10,13]) (Jt 2)) (.cond (.tmp 13) (.seq (.reg false (some [0,1,2,3,10]) (Jt 3)) (.seq (.reg false (some [0,1,2,3,10]) (Jt 4)) (.reg false (some [0,1,2,3,10]) (Jt 5)))) .nop)) (.seq (.reg false (some [0,1,2,3,10,11]) (Jt 6)) (.seq (.seq (.reg false (some [0,1,2,3,10,11,18]) (Jt 7)) (.block 0 (.seq (.reg false (some [0,1,2,3,10,11,18,19]) (Jt 9)) (.cond (.tmp 19) (.reg false (some [3,11]) (Jt 10)) (.seq (.reg false (some [0,1,2,3,10,11,18,24]) (Jt 11)) (.cond (.tmp 24) (.reg false (some [3,11]) (Jt 12)) (.seq (.reg false (some [0,1,2,3,10,11,18,29]) (Jt 13)) (.cond (.tmp 29) (.reg false (some [3,11]) (Jt 14)) (.seq (.reg false (some [0,1,2,3,10,11,18,34]) (Jt 15)) (.cond (.tmp 34) (.seq (.reg false (some [1,2,3,11,37]) (Jt 16)) (.cond (.tmp 37) (.reg false (some [3,11]) (Jt 17)) .nop)) (.seq (.reg false (some [0,1,2,3,10,18,41]) (Jt 18)) (.cond (.tmp 41) (.seq (.reg false (some [1,2,3,11]) (Jt 19)) (.seq (.reg false (some [1,2,3,11,45]) (Jt 20)) (.cond (.tmp 45) (.reg false (some [3,11]) (Jt 21)) .nop))) (.seq (.reg false (some [0,1,2,3,10,18,49]) (Jt 22)) (.cond (.tmp 49) (.reg false (some [3,11]) (Jt 23)) (.seq (.reg false (some [0,1,2,3,10,18,54]) (Jt 24)) (.cond (.tmp 54) (.reg false (some [3,11]) (Jt 25)) (.seq (.reg false (some [0,1,2,3,10,18,59]) (Jt 26)) (.cond (.tmp 59) (.reg false (some [3,11]) (Jt 27)) (.seq (.seq (.reg false (some [0,1,2,3,10,18,64]) (Jt 28)) (.cond (.tmp 64) .nop (.seq (.reg false (some [0,1,2,3,10,18,64]) (Jt 29)) (.cond (.tmp 64) .nop (.reg false (some [0,1,2,3,10,18,64]) (Jt 30)))))) (.cond (.tmp 64) (.reg false (some [3,11]) (Jt 31)) (.seq (.reg false (some [1,2,3,18,76]) (Jt 32)) (.cond (.tmp 76) (.reg false (some [3,11]) (Jt 33)) (.seq (.reg false (some [2,3,80]) (Jt 34)) (.cond (.tmp 80) (.reg false (some [3,11]) (Jt 35)) (.seq (.reg false (some [8,9]) (Jt 8)) .ret))))))))))))))))))))))))) (.seq (.seq (.reg false (some [11,84]) (Jt 36)) (.cond (.tmp 84) (.reg false (some [11]) (Jt 37)) .nop)) (.seq (.reg false (some [8,9]) (Jt 38)) .ret)))))))
theorem s101:Try.f101.body.bind (bh Try.prog An 101 Try.f101.ntmps)=some c101:=by kernel_rfl
theorem g101:An.glob 101=[]:=rfl
theorem r101:Try.f101.results.toList=[(.tmp 8),(.tmp 9)]:=by kernel_rfl
theorem t101r0 (h:Q .normal ⟨tk L [0,1,2,3] [],m⟩):Rg F 101 [0,1,2,3] (Jt 0) L m Q:=Tq h
theorem t101r1 (h:Q .normal ⟨tk L [0,1,2,3] [(10,(.int .u64 64))],m⟩):Rg F 101 [0,1,2,3,10] (Jt 1) L m Q:=Tq h
theorem t101r2 (h:Obt (cun .not (ac L 3)) λa0=>Q .normal ⟨tk L [0,1,2,3,10] [(13,a0)],m⟩):Rg F 101 [0,1,2,3,10,13] (Jt 2) L m Q:=Tq h
theorem t101r6 (h:Q .normal ⟨tk L [0,1,2,3,10] [(11,(.int .u64 0))],m⟩):Rg F 101 [0,1,2,3,10,11] (Jt 6) L m Q:=Tq h
theorem t101r7 (h:Q .normal ⟨tk L [0,1,2,3,10,11] [(18,(ac L 0))],m⟩):Rg F 101 [0,1,2,3,10,11,18] (Jt 7) L m Q:=Tq h
theorem t101r9 (h:Obt (aw Try.prog .eql 3 (.tmp 18) (.const (.int .i64 0)) (ac L 18) (.int .i64 0)) λa0=>Q .normal ⟨tk L [0,1,2,3,10,11,18] [(19,a0)],m⟩):Rg F 101 [0,1,2,3,10,11,18,19] (Jt 9) L m Q:=Tq h
theorem t101r11 (h:Obt (aw Try.prog .eql 3 (.tmp 18) (.const (.int .i64 16)) (ac L 18) (.int .i64 16)) λa0=>Q .normal ⟨tk L [0,1,2,3,10,11,18] [(24,a0)],m⟩):Rg F 101 [0,1,2,3,10,11,18,24] (Jt 11) L m Q:=Tq h
theorem t101r13 (h:Obt (aw Try.prog .eql 3 (.tmp 18) (.const (.int .i64 32)) (ac L 18) (.int .i64 32)) λa0=>Q .normal ⟨tk L [0,1,2,3,10,11,18] [(29,a0)],m⟩):Rg F 101 [0,1,2,3,10,11,18,29] (Jt 13) L m Q:=Tq h
theorem t101r15 (h:Obt (aw Try.prog .eql 3 (.tmp 18) (.const (.int .i64 48)) (ac L 18) (.int .i64 48)) λa0=>Q .normal ⟨tk L [0,1,2,3,10,11,18] [(34,a0)],m⟩):Rg F 101 [0,1,2,3,10,11,18,34] (Jt 15) L m Q:=Tq h
theorem t101r18 (h:Obt (aw Try.prog .eql 3 (.tmp 18) (.const (.int .i64 144)) (ac L 18) (.int .i64 144)) λa0=>Q .normal ⟨tk L [0,1,2,3,10,18] [(41,a0)],m⟩):Rg F 101 [0,1,2,3,10,18,41] (Jt 18) L m Q:=Tq h
theorem t101r22 (h:Obt (aw Try.prog .eql 3 (.tmp 18) (.const (.int .i64 64)) (ac L 18) (.int .i64 64)) λa0=>Q .normal ⟨tk L [0,1,2,3,10,18] [(49,a0)],m⟩):Rg F 101 [0,1,2,3,10,18,49] (Jt 22) L m Q:=Tq h
theorem t101r24 (h:Obt (aw Try.prog .eql 3 (.tmp 18) (.const (.int .i64 80)) (ac L 18) (.int .i64 80)) λa0=>Q .normal ⟨tk L [0,1,2,3,10,18] [(54,a0)],m⟩):Rg F 101 [0,1,2,3,10,18,54] (Jt 24) L m Q:=Tq h
theorem t101r26 (h:Obt (aw Try.prog .eql 3 (.tmp 18) (.const (.int .i64 160)) (ac L 18) (.int .i64 160)) λa0=>Q .normal ⟨tk L [0,1,2,3,10,18] [(59,a0)],m⟩):Rg F 101 [0,1,2,3,10,18,59] (Jt 26) L m Q:=Tq h
theorem t101r28 (h:Obt (aw Try.prog .eql 3 (.tmp 18) (.const (.int .i64 96)) (ac L 18) (.int .i64 96)) λa0=>Q .normal ⟨tk L [0,1,2,3,10,18] [(64,a0)],m⟩):Rg F 101 [0,1,2,3,10,18,64] (Jt 28) L m Q:=Tq h
theorem t101r29 (h:Obt (aw Try.prog .eql 3 (.tmp 18) (.const (.int .i64 112)) (ac L 18) (.int .i64 112)) λa0=>Q .normal ⟨tk L [0,1,2,3,10,18] [(64,a0)],m⟩):Rg F 101 [0,1,2,3,10,18,64] (Jt 29) L m Q:=Tq h
theorem t101r30 (h:Obt (aw Try.prog .eql 3 (.tmp 18) (.const (.int .i64 192)) (ac L 18) (.int .i64 192)) λa0=>Q .normal ⟨tk L [0,1,2,3,10,18] [(64,a0)],m⟩):Rg F 101 [0,1,2,3,10,18,64] (Jt 30) L m Q:=Tq h
theorem t101r32 (h:Obt (aw Try.prog .eql 3 (.tmp 18) (.const (.int .i64 128)) (ac L 18) (.int .i64 128)) λa0=>Q .normal ⟨tk L [1,2,3,18] [(76,a0)],m⟩):Rg F 101 [1,2,3,18,76] (Jt 32) L m Q:=Tq h
theorem t101r34 (h:Obt (aw Try.prog .eql 3 (.tmp 18) (.const (.int .i64 176)) (ac L 18) (.int .i64 176)) λa0=>Q .normal ⟨tk L [2,3] [(80,a0)],m⟩):Rg F 101 [2,3,80] (Jt 34) L m Q:=Tq h
theorem t101r8 (h:Q .normal ⟨[(8,(.int .u64 0)),(9,(.bool false))],m⟩):Rg F 101 [8,9] (Jt 8) L m Q:=Tq h
abbrev R102:=rg 102 Try.f102
def c102:SC:=
 (.seq (.reg false (some [0]) (R102 0)) (.seq (.reg false (some [2]) (R102 1)) .ret))
theorem s102:Try.f102.body.bind (bh Try.prog An 102 Try.f102.ntmps)=some c102:=by kernel_rfl
theorem g102:An.glob 102=[]:=rfl
theorem r102:Try.f102.results.toList=[(.tmp 2)]:=by kernel_rfl
theorem t102r0 (h:Q .normal ⟨tk L [0] [],m⟩):Rg F 102 [0] (R102 0) L m Q:=Tq h
theorem t102r1 (h:Obt (aw Try.prog .eql 3 (.tmp 3) (.const (.int .i64 1)) (ac L 0) (.int .i64 1)) λa0=>Obt (gW a0 false (ac L 0) m) λa1=>Obt (gV a0 false (aw Try.prog .eql 3 (.tmp 6) (.const (.int .i64 2)) a1.1 (.int .i64 2)) a1.2) λa2=>Obt (aT a0 (.bool true) a2.1) λa3=>Obt (gW a3 false (ac L 0) a2.2) λa4=>Obt (gV a3 false (aw Try.prog .eql 3 (.tmp 10) (.const (.int .i64 4)) a4.1 (.int .i64 4)) a4.2) λa5=>Obt (aT a3 (.bool true) a5.1) λa6=>Obt (gW a6 false (ac L 0) a5.2) λa7=>Obt (gV a6 false (aw Try.prog .eql 3 (.tmp 14) (.const (.int .i64 8)) a7.1 (.int .i64 8)) a7.2) λa8=>Obt (aT a6 (.bool true) a8.1) λa9=>Q .normal ⟨[(2,a9)],a8.2⟩):Rg F 102 [2] (R102 1) L m Q:=Tq h
abbrev Jx:=rg 103 Try.f103
def c103:SC:=
 (.seq (.reg false (some [0,2]) (Jx 0)) (.seq (.seq (.reg false (some [2,4]) (Jx 1)) (.block 0 (.seq (.reg false (some [2,4,5]) (Jx 2)) (.cond (.tmp 5) (.seq (.reg false (some [2,3]) (Jx 3)) .ret) (.seq (.reg false (some [2,4,8]) (Jx 4)) (.cond (.tmp 8) (.seq (.reg false (some [2,3]) (Jx 5)) .ret) (.seq (.reg false (some [2,4,12]) (Jx 6)) (.cond (.tmp 12) (.seq (.reg false (some [2,3]) (Jx 7)) .ret) (.seq (.reg false (some [2,4,16]) (Jx 8)) (.cond (.tmp 16) (.seq (.reg false (some [2,3]) (Jx 9)) .ret) (.seq (.reg false (some [2,20]) (Jx 10)) (.cond (.tmp 20) (.seq (.reg false (some [2,3]) (Jx 11)) .ret) .nop)))))))))))) (.seq (.reg false (some [2,3]) (Jx 12)) .ret)))
theorem s103:Try.f103.body.bind (bh Try.prog An 103 Try.f103.ntmps)=some c103:=by kernel_rfl
theorem g103:An.glob 103=[]:=rfl
theorem r103:Try.f103.results.toList=[(.cell 2 174),(.tmp 3)]:=by kernel_rfl
theorem t103r0 (h:Q .normal ⟨tk L [0] [(2,(bo m 32))],(bw m 32 [.str .empty,.nil,.int .i64 0])⟩):Rg F 103 [0,2] (Jx 0) L m Q:=Tq h
theorem t103r1 (h:Q .normal ⟨tk L [2] [(4,(ac L 0))],m⟩):Rg F 103 [2,4] (Jx 1) L m Q:=Tq h
theorem t103r2 (h:Obt (aw Try.prog .eql 3 (.tmp 4) (.const (.int .i64 1)) (ac L 4) (.int .i64 1)) λa0=>Q .normal ⟨tk L [2,4] [(5,a0)],m⟩):Rg F 103 [2,4,5] (Jx 2) L m Q:=Tq h
theorem t103r4 (h:Obt (aw Try.prog .eql 3 (.tmp 4) (.const (.int .i64 2)) (ac L 4) (.int .i64 2)) λa0=>Q .normal ⟨tk L [2,4] [(8,a0)],m⟩):Rg F 103 [2,4,8] (Jx 4) L m Q:=Tq h
theorem t103r6 (h:Obt (aw Try.prog .eql 3 (.tmp 4) (.const (.int .i64 3)) (ac L 4) (.int .i64 3)) λa0=>Q .normal ⟨tk L [2,4] [(12,a0)],m⟩):Rg F 103 [2,4,12] (Jx 6) L m Q:=Tq h
theorem t103r8 (h:Obt (aw Try.prog .eql 3 (.tmp 4) (.const (.int .i64 4)) (ac L 4) (.int .i64 4)) λa0=>Q .normal ⟨tk L [2,4] [(16,a0)],m⟩):Rg F 103 [2,4,16] (Jx 8) L m Q:=Tq h
theorem t103r10 (h:Obt (aw Try.prog .eql 3 (.tmp 4) (.const (.int .i64 5)) (ac L 4) (.int .i64 5)) λa0=>Q .normal ⟨tk L [2] [(20,a0)],m⟩):Rg F 103 [2,20] (Jx 10) L m Q:=Tq h
theorem t103r12 (h:Obt ((bg [.str .empty,.nil,.int .i64 0] []).map CV.agg) λa0=>Obt (stX 3 m (ac L 2) a0) λa1=>Q .normal ⟨tk L [2] [(3,(.bool false))],a1⟩):Rg F 103 [2,3] (Jx 12) L m Q:=Tq h
abbrev R74:=rg 74 Try.f74
def c74:SC:=
 (.seq (.reg false (some [1]) (R74 0)) (.seq (.reg false (some [1,3]) (R74 1)) (.seq (.seq (.reg false (some [1,3,17]) (R74 2)) (.block 0 (.seq (.seq (.reg false (some [1,3,17,18]) (R74 3)) (.cond (.tmp 18) .nop (.seq (.reg false (some [1,3,17,18]) (R74 4)) (.cond (.tmp 18) .nop (.reg false (some [1,3,17,18]) (R74 5)))))) (.cond (.tmp 18) (.seq (.reg false (some [2]) (R74 6)) .ret) (.seq (.reg false (some [1,3,17,22]) (R74 7)) (.cond (.tmp 22) (.seq (.reg false (some [5]) (R74 8)) (.seq (.reg false (some [2]) (R74 9)) .ret)) (.seq (.reg false (some [1,3,17,31]) (R74 10)) (.cond (.tmp 31) (.seq (.reg false (some [2]) (R74 11)) .ret) (.seq (.reg false (some [1,3,17,39]) (R74 12)) (.cond (.tmp 39) (.seq (.reg false (some [2]) (R74 13)) .ret) (.seq (.reg false (some [1,52]) (R74 14)) (.cond (.tmp 52) (.seq (.seq (.reg false (some [1,56]) (R74 15)) (.cond (.tmp 56) (.seq (.reg false (some [2]) (R74 16)) .ret) .nop)) (.seq (.reg false (some [1,6,7]) (R74 17)) (.seq (.reg false (some [2]) (R74 18)) .ret))) .nop)))))))))))) (.seq (.reg false (some [2]) (R74 19)) .ret))))
theorem s74:Try.f74.body.bind (bh Try.prog An 74 Try.f74.ntmps)=some c74:=by kernel_rfl
theorem g74:An.glob 74=[]:=rfl
theorem r74:Try.f74.results.toList=[(.tmp 2)]:=by kernel_rfl
theorem iZ (h:Obt (ap (ac L 0)) λa0=>Q .normal ⟨[(1,(bo m 16))],(bw m 16 a0)⟩):Rg F 74 [1] (R74 0) L m Q:=Tq h
theorem ja (h:Obt (aA 8 (ac L 1)) λa0=>Obt (ld1 m a0) λa1=>Obt (aw Try.prog .geq 3 (.tmp 9) (.const (.int .i64 (-32768))) a1 (.int .i64 (-32768))) λa2=>Obt (gV a2 true (aA 8 (ac L 1)) m) λa3=>Obt (gV a2 true (ld1 a3.2 a3.1) a3.2) λa4=>Obt (gV a2 true (aw Try.prog .leq 3 (.tmp 13) (.const (.int .i64 32767)) a4.1 (.int .i64 32767)) a4.2) λa5=>Obt (aT a2 a5.1 (.bool false)) λa6=>Q .normal ⟨tk L [1] [(3,a6)],a5.2⟩):Rg F 74 [1,3] (R74 1) L m Q:=Tq h
theorem jb (h:Obt (aA 0 (ac L 1)) λa0=>Obt (ld1 m a0) λa1=>Q .normal ⟨tk L [1,3] [(17,a1)],m⟩):Rg F 74 [1,3,17] (R74 2) L m Q:=Tq h
theorem jc (h:Obt (aw Try.prog .eql 64 (.tmp 17) (.const (.int .i64 1)) (ac L 17) (.int .i64 1)) λa0=>Q .normal ⟨tk L [1,3,17] [(18,a0)],m⟩):Rg F 74 [1,3,17,18] (R74 3) L m Q:=Tq h
theorem jO (h:Obt (aw Try.prog .eql 64 (.tmp 17) (.const (.int .i64 2)) (ac L 17) (.int .i64 2)) λa0=>Q .normal ⟨tk L [1,3,17] [(18,a0)],m⟩):Rg F 74 [1,3,17,18] (R74 4) L m Q:=Tq h
theorem lk (h:Obt (aw Try.prog .eql 64 (.tmp 17) (.const (.int .i64 3)) (ac L 17) (.int .i64 3)) λa0=>Q .normal ⟨tk L [1,3,17] [(18,a0)],m⟩):Rg F 74 [1,3,17,18] (R74 5) L m Q:=Tq h
theorem Ft (h:Q .normal ⟨[(2,(.bool true))],m⟩):Rg F 74 [2] (R74 6) L m Q:=Tq h
theorem mq (h:Obt (aw Try.prog .eql 64 (.tmp 17) (.const (.int .i64 4)) (ac L 17) (.int .i64 4)) λa0=>Q .normal ⟨tk L [1,3,17] [(22,a0)],m⟩):Rg F 74 [1,3,17,22] (R74 7) L m Q:=Tq h
theorem t74r8 (h:Obt (aA 2 (ac L 1)) λa0=>Obt (ld1 m a0) λa1=>Obt (aB An F 74 (some 27) 101 [a1,(.int .u64 0),(.int .u64 0),(.bool true)] m) λa2=>Obt (cV 0 a2.1) λa3=>Obt (cV 1 a2.1) λa4=>Q .normal ⟨[(5,a4)],a2.2⟩):Rg F 74 [5] (R74 8) L m Q:=Tq h
theorem t74r9 (h:Q .normal ⟨[(2,(ac L 5))],m⟩):Rg F 74 [2] (R74 9) L m Q:=Tq h
theorem ki (h:Obt (aw Try.prog .eql 64 (.tmp 17) (.const (.int .i64 5)) (ac L 17) (.int .i64 5)) λa0=>Q .normal ⟨tk L [1,3,17] [(31,a0)],m⟩):Rg F 74 [1,3,17,31] (R74 10) L m Q:=Tq h
theorem t74r11 (h:Obt (aA 7 (ac L 1)) λa0=>Obt (ld1 m a0) λa1=>Obt (aB An F 74 (some 35) 102 [a1] m) λa2=>Obt (gW a2.1 true (ac L 3) a2.2) λa3=>Obt (aT a2.1 a3.1 (.bool false)) λa4=>Q .normal ⟨[(2,a4)],a3.2⟩):Rg F 74 [2] (R74 11) L m Q:=Tq h
theorem lR (h:Obt (aw Try.prog .eql 64 (.tmp 17) (.const (.int .i64 6)) (ac L 17) (.int .i64 6)) λa0=>Q .normal ⟨tk L [1,3,17] [(39,a0)],m⟩):Rg F 74 [1,3,17,39] (R74 12) L m Q:=Tq h
theorem t74r13 (h:Obt (aA 7 (ac L 1)) λa0=>Obt (ld1 m a0) λa1=>Obt (aB An F 74 (some 43) 102 [a1] m) λa2=>Obt (gW a2.1 true (ac L 3) a2.2) λa3=>Obt (aT a2.1 a3.1 (.bool false)) λa4=>Obt (gV a4 true (aA 1 (ac L 1)) a3.2) λa5=>Obt (gV a4 true (ld1 a5.2 a5.1) a5.2) λa6=>Obt (gV a4 true (aw Try.prog .eql 3 (.tmp 49) (.const (.int .i64 (-1))) a6.1 (.int .i64 (-1))) a6.2) λa7=>Obt (aT a4 a7.1 (.bool false)) λa8=>Q .normal ⟨[(2,a8)],a7.2⟩):Rg F 74 [2] (R74 13) L m Q:=Tq h
theorem oN (h:Obt (aw Try.prog .eql 64 (.tmp 17) (.const (.int .i64 7)) (ac L 17) (.int .i64 7)) λa0=>Q .normal ⟨tk L [1] [(52,a0)],m⟩):Rg F 74 [1,52] (R74 14) L m Q:=Tq h
theorem rj (h:Obt (aA 6 (ac L 1)) λa0=>Obt (ld1 m a0) λa1=>Obt (aw Try.prog .gtr 65 (.tmp 55) (.const (.int .u64 5)) a1 (.int .u64 5)) λa2=>Q .normal ⟨tk L [1] [(56,a2)],m⟩):Rg F 74 [1,56] (R74 15) L m Q:=Tq h
theorem t74r16 (h:Q .normal ⟨[(2,(.bool false))],m⟩):Rg F 74 [2] (R74 16) L m Q:=Tq h
theorem uB (h:Obt (aA 6 (ac L 1)) λa0=>Obt (ld1 m a0) λa1=>Obt (pF .i64 a1) λa2=>Obt (aB An F 74 (some 61) 103 [a2] m) λa3=>Obt (cV 0 a3.1) λa4=>Obt (cV 1 a3.1) λa5=>Obt (stX 3 (bw a3.2 96 [.str .empty,.nil,.int .i64 0]) (bo a3.2 96) a4) λa6=>Q .normal ⟨tk L [1] [(6,(bo a3.2 96)),(7,a5)],a6⟩):Rg F 74 [1,6,7] (R74 17) L m Q:=Tq h
theorem uC (h:Obt (gV (ac L 7) true (aA 10 (ac L 1)) m) λa0=>Obt (gV (ac L 7) true (ld1 a0.2 a0.1) a0.2) λa1=>Obt (gV (ac L 7) true (lenS a1.1) a1.2) λa2=>Obt (gV (ac L 7) true (aA 1 (ac L 6)) a2.2) λa3=>Obt (gV (ac L 7) true (ld1 a3.2 a3.1) a3.2) λa4=>Obt (gV (ac L 7) true (lenS a4.1) a4.2) λa5=>Obt (gV (ac L 7) true (aw Try.prog .eql 3 (.tmp 68) (.tmp 71) a2.1 a5.1) a5.2) λa6=>Obt (aT (ac L 7) a6.1 (.bool false)) λa7=>Q .normal ⟨[(2,a7)],a6.2⟩):Rg F 74 [2] (R74 18) L m Q:=Tq h
theorem t74r19 (h:Q .normal ⟨[(2,(.bool false))],m⟩):Rg F 74 [2] (R74 19) L m Q:=Tq h
abbrev R30:=rg 30 Try.f30
def c30:SC:=
 (.seq (.reg false (some [1]) (R30 0)) (.seq (.seq (.reg false (some [1,4]) (R30 1)) (.block 0 (.seq (.seq (.reg false (some [1,4,5]) (R30 2)) (.cond (.tmp 5) .nop (.reg false (some [1,4,5]) (R30 3)))) (.cond (.tmp 5) (.seq (.reg false (some [2]) (R30 4)) .ret) (.seq (.reg false (some [1,4,13]) (R30 5)) (.cond (.tmp 13) (.seq (.reg false (some [2]) (R30 6)) .ret) (.seq (.reg false (some [1,18]) (R30 7)) (.cond (.tmp 18) (.seq (.reg false (some [2]) (R30 8)) .ret) .nop)))))))) (.seq (.reg false (some [2]) (R30 9)) .ret)))
theorem s30:Try.f30.body.bind (bh Try.prog An 30 Try.f30.ntmps)=some c30:=by kernel_rfl
theorem g30:An.glob 30=[]:=rfl
theorem r30:Try.f30.results.toList=[(.tmp 2)]:=by kernel_rfl
theorem sP (h:Obt (ap (ac L 0)) λa0=>Q .normal ⟨[(1,(bo m 16))],(bw m 16 a0)⟩):Rg F 30 [1] (R30 0) L m Q:=Tq h
theorem sQ (h:Obt (aA 0 (ac L 1)) λa0=>Obt (ld1 m a0) λa1=>Q .normal ⟨tk L [1] [(4,a1)],m⟩):Rg F 30 [1,4] (R30 1) L m Q:=Tq h
theorem sR (h:Obt (aw Try.prog .eql 64 (.tmp 4) (.const (.int .i64 4)) (ac L 4) (.int .i64 4)) λa0=>Q .normal ⟨tk L [1,4] [(5,a0)],m⟩):Rg F 30 [1,4,5] (R30 2) L m Q:=Tq h
theorem wq (h:Obt (aw Try.prog .eql 64 (.tmp 4) (.const (.int .i64 6)) (ac L 4) (.int .i64 6)) λa0=>Q .normal ⟨tk L [1,4] [(5,a0)],m⟩):Rg F 30 [1,4,5] (R30 3) L m Q:=Tq h
theorem t30r4 (h:Obt (aA 4 (ac L 1)) λa0=>Obt (ld1 m a0) λa1=>Obt (aA 5 (ac L 1)) λa2=>Obt (ld1 m a2) λa3=>Obt (be false 192 1 2 [.int .i64 0,.int .i64 0] [(0,1,a1),(1,1,a3)] m) λa4=>Q .normal ⟨[(2,a4.1)],a4.2⟩):Rg F 30 [2] (R30 4) L m Q:=Tq h
theorem ES (h:Obt (aw Try.prog .eql 64 (.tmp 4) (.const (.int .i64 5)) (ac L 4) (.int .i64 5)) λa0=>Q .normal ⟨tk L [1,4] [(13,a0)],m⟩):Rg F 30 [1,4,13] (R30 5) L m Q:=Tq h
theorem t30r6 (h:Obt (aA 4 (ac L 1)) λa0=>Obt (ld1 m a0) λa1=>Obt (be false 272 1 1 [.int .i64 0] [(0,1,a1)] m) λa2=>Q .normal ⟨[(2,a2.1)],a2.2⟩):Rg F 30 [2] (R30 6) L m Q:=Tq h
theorem t30r7 (h:Obt (aw Try.prog .eql 64 (.tmp 4) (.const (.int .i64 7)) (ac L 4) (.int .i64 7)) λa0=>Q .normal ⟨tk L [1] [(18,a0)],m⟩):Rg F 30 [1,18] (R30 7) L m Q:=Tq h
theorem t30r8 (h:Obt (be false 320 1 0 [] [] m) λa0=>Obt (aA 10 (ac L 1)) λa1=>Obt (ld1 a0.2 a1) λa2=>Obt (ej false 368 1 8 a0.1 a2 a0.2) λa3=>Q .normal ⟨[(2,a3.1)],a3.2⟩):Rg F 30 [2] (R30 8) L m Q:=Tq h
theorem t30r9 (h:Q .normal ⟨[(2,.nil)],m⟩):Rg F 30 [2] (R30 9) L m Q:=Tq h
abbrev R29:=rg 29 Try.f29
def c29:SC:=
 (.seq (.reg false (some [1]) (R29 0)) (.seq (.seq (.reg false (some [1,4]) (R29 1)) (.block 0 (.seq (.reg false (some [1,4,5]) (R29 2)) (.cond (.tmp 5) (.seq (.reg false (some [2]) (R29 3)) .ret) (.seq (.reg false (some [1,12]) (R29 4)) (.cond (.tmp 12) (.seq (.reg false (some [2]) (R29 5)) .ret) .nop)))))) (.seq (.reg false (some [2]) (R29 6)) .ret)))
theorem s29:Try.f29.body.bind (bh Try.prog An 29 Try.f29.ntmps)=some c29:=by kernel_rfl
theorem g29:An.glob 29=[]:=rfl
theorem r29:Try.f29.results.toList=[(.tmp 2)]:=by kernel_rfl
theorem t29r0 (h:Obt (ap (ac L 0)) λa0=>Q .normal ⟨[(1,(bo m 16))],(bw m 16 a0)⟩):Rg F 29 [1] (R29 0) L m Q:=Tq h
theorem t29r1 (h:Obt (aA 0 (ac L 1)) λa0=>Obt (ld1 m a0) λa1=>Q .normal ⟨tk L [1] [(4,a1)],m⟩):Rg F 29 [1,4] (R29 1) L m Q:=Tq h
theorem t29r2 (h:Obt (aw Try.prog .eql 54 (.tmp 4) (.const (.int .i64 2)) (ac L 4) (.int .i64 2)) λa0=>Q .normal ⟨tk L [1,4] [(5,a0)],m⟩):Rg F 29 [1,4,5] (R29 2) L m Q:=Tq h
theorem t29r3 (h:Obt (aA 3 (ac L 1)) λa0=>Obt (ld1 m a0) λa1=>Obt (aA 4 (ac L 1)) λa2=>Obt (ld1 m a2) λa3=>Obt (be false 176 1 2 [.int .i64 0,.int .i64 0] [(0,1,a1),(1,1,a3)] m) λa4=>Q .normal ⟨[(2,a4.1)],a4.2⟩):Rg F 29 [2] (R29 3) L m Q:=Tq h
theorem t29r4 (h:Obt (aw Try.prog .eql 54 (.tmp 4) (.const (.int .i64 3)) (ac L 4) (.int .i64 3)) λa0=>Q .normal ⟨tk L [1] [(12,a0)],m⟩):Rg F 29 [1,12] (R29 4) L m Q:=Tq h
theorem t29r5 (h:Obt (aA 3 (ac L 1)) λa0=>Obt (ld1 m a0) λa1=>Obt (be false 256 1 1 [.int .i64 0] [(0,1,a1)] m) λa2=>Q .normal ⟨[(2,a2.1)],a2.2⟩):Rg F 29 [2] (R29 5) L m Q:=Tq h
theorem t29r6 (h:Q .normal ⟨[(2,.nil)],m⟩):Rg F 29 [2] (R29 6) L m Q:=Tq h
abbrev R73:=rg 73 Try.f73
def c73:SC:=
 (.seq (.reg false (some [0,1,2,3]) (R73 0)) (.seq (.seq (.reg false (some [0,1,2,3,23]) (R73 1)) (.cond (.tmp 23) (.seq (.reg false (some [8]) (R73 2)) .ret) .nop)) (.seq (.reg false (some []) (R73 3)) (.seq (.reg false (some [8]) (R73 4)) .ret))))
theorem s73:Try.f73.body.bind (bh Try.prog An 73 Try.f73.ntmps)=some c73:=by kernel_rfl
theorem g73:An.glob 73=[]:=rfl
theorem r73:Try.f73.results.toList=[(.tmp 8)]:=by kernel_rfl
theorem wD (h:Q .normal ⟨tk L [0,1,2,3] [],m⟩):Rg F 73 [0,1,2,3] (R73 0) L m Q:=Tq h
theorem wE (h:Obt (aw Try.prog .lss 3 (.tmp 9) (.const (.int .i64 0)) (ac L 1) (.int .i64 0)) λa0=>Obt (gW a0 false (ac L 1) m) λa1=>Obt (gW a0 false (ac L 0) a1.2) λa2=>Obt (gV a0 false (lenS a2.1) a2.2) λa3=>Obt (gV a0 false (aw Try.prog .geq 3 (.tmp 12) (.tmp 14) a1.1 a3.1) a3.2) λa4=>Obt (aT a0 (.bool true) a4.1) λa5=>Obt (gW a5 false (ac L 0) a4.2) λa6=>Obt (gW a5 false (ac L 1) a6.2) λa7=>Obt (gV a5 false (bd 3 a6.1 a7.1) a7.2) λa8=>Obt (gV a5 false (aA 0 a8.1) a8.2) λa9=>Obt (gV a5 false (ld1 a9.2 a9.1) a9.2) λa10=>Obt (aT a5 (.bool true) a10.1) λa11=>Q .normal ⟨tk L [0,1,2,3] [(23,a11)],a10.2⟩):Rg F 73 [0,1,2,3,23] (R73 1) L m Q:=Tq h
theorem Fs (h:Q .normal ⟨[(8,(.bool false))],m⟩):Rg F 73 [8] (R73 2) L m Q:=Tq h
theorem t73r3 (h:Obt ((bg [.bool false,.int .i64 0,.int .i64 0] [(0,1,(.bool true)),(1,1,(ac L 2)),(2,1,(ac L 3))]).map CV.agg) λa0=>Obt (bd 3 (ac L 0) (ac L 1)) λa1=>Obt (stX 3 m a1 a0) λa2=>Q .normal ⟨[],a2⟩):Rg F 73 [] (R73 3) L m Q:=Tq h
theorem t73r4 (h:Q .normal ⟨[(8,(.bool true))],m⟩):Rg F 73 [8] (R73 4) L m Q:=Tq h
abbrev R48:=rg 48 Try.f48
def c48l0:SC:=
 (.seq (.seq (.reg false (some [1,4,5,6,7,28]) (R48 7)) (.cond (.tmp 28) .nop (.exit 2))) (.seq (.block 3 (.seq (.reg false (some [1,4,5,6,7,40]) (R48 9)) (.cond (.tmp 40) (.seq (.reg false (some [2,3]) (R48 10)) .ret) .nop))) (.reg false (some [1,4,5,6,7]) (R48 8))))
def c48l1:SC:=
 (.seq (.seq (.reg false (some [1,4,5,6,8,45]) (R48 12)) (.cond (.tmp 45) .nop (.exit 4))) (.seq (.block 5 (.seq (.reg false (some [1,4,5,6,8,77]) (R48 14)) (.cond (.tmp 77) (.seq (.reg false (some [2,3]) (R48 15)) .ret) .nop))) (.reg false (some [1,4,5,6,8]) (R48 13))))
def c48l2:SC:=
 (.seq (.seq (.reg false (some [1,4,5,16]) (R48 3)) (.cond (.tmp 16) .nop (.exit 0))) (.seq (.block 1 (.seq (.reg false (some [1,4,5,6]) (R48 5)) (.seq (.seq (.reg false (some [1,4,5,6,7]) (R48 6)) (.block 2 (.loop c48l0))) (.seq (.reg false (some [1,4,5,6,8]) (R48 11)) (.block 4 (.loop c48l1)))))) (.reg false (some [1,4,5]) (R48 4))))
def c48:SC:=
 (.seq (.reg false (some [1]) (R48 0)) (.seq (.reg false (some [1,4]) (R48 1)) (.seq (.seq (.reg false (some [1,4,5]) (R48 2)) (.block 0 (.loop c48l2))) (.seq (.reg false (some [2,3]) (R48 16)) .ret))))
theorem s48:Try.f48.body.bind (bh Try.prog An 48 Try.f48.ntmps)=some c48:=by kernel_rfl
theorem g48:An.glob 48=[11]:=rfl
theorem r48:Try.f48.results.toList=[(.tmp 2),(.tmp 3)]:=by kernel_rfl
theorem t48r0 (h:Obt (ap (ac L 0)) λa0=>Q .normal ⟨[(1,(bo m 16))],(bw m 16 a0)⟩):Rg F 48 [1] (R48 0) L m Q:=Tq h
theorem t48r1 (h:Obt (aA 1 (ac L 1)) λa0=>Obt (ld1 m a0) λa1=>Obt (mkX true 176 3 24 [.bool false,.int .i64 0,.int .i64 0] a1 a1 m) λa2=>Q .normal ⟨tk L [1] [(4,a2.1)],a2.2⟩):Rg F 48 [1,4] (R48 1) L m Q:=Tq h
theorem t48r2 (h:Q .normal ⟨tk L [1,4] [(5,(.int .i64 0))],m⟩):Rg F 48 [1,4,5] (R48 2) L m Q:=Tq h
theorem t48r3 (h:Obt (aA 0 (ac L 1)) λa0=>Obt (ld1 m a0) λa1=>Obt (lenS a1) λa2=>Obt (aw Try.prog .lss 3 (.tmp 12) (.tmp 15) (ac L 5) a2) λa3=>Q .normal ⟨tk L [1,4,5] [(16,a3)],m⟩):Rg F 48 [1,4,5,16] (R48 3) L m Q:=Tq h
theorem t48r5 (h:Obt (aA 0 (ac L 1)) λa0=>Obt (ld1 m a0) λa1=>Obt (bd 10 a1 (ac L 5)) λa2=>Obt (ldA 10 m a2) λa3=>Obt (stX 10 (bw m 96 [.nil,.nil,.nil,.int .i64 0,.int .i64 0,.bool false,.int .i64 0,.int .i64 0,.int .i64 0,.int .i64 0]) (bo m 96) a3) λa4=>Q .normal ⟨tk L [1,4,5] [(6,(bo m 96))],a4⟩):Rg F 48 [1,4,5,6] (R48 5) L m Q:=Tq h
theorem t48r6 (h:Q .normal ⟨tk L [1,4,5,6] [(7,(.int .i64 0))],m⟩):Rg F 48 [1,4,5,6,7] (R48 6) L m Q:=Tq h
theorem E8 (h:Obt (aA 1 (ac L 6)) λa0=>Obt (ld1 m a0) λa1=>Obt (lenS a1) λa2=>Obt (aw Try.prog .lss 3 (.tmp 24) (.tmp 27) (ac L 7) a2) λa3=>Q .normal ⟨tk L [1,4,5,6,7] [(28,a3)],m⟩):Rg F 48 [1,4,5,6,7,28] (R48 7) L m Q:=Tq h
theorem t48r9 (h:Obt (aA 1 (ac L 6)) λa0=>Obt (ld1 m a0) λa1=>Obt (bd 2 a1 (ac L 7)) λa2=>Obt (aA 0 a2) λa3=>Obt (ld1 m a3) λa4=>Obt (aB An F 48 (some 39) 73 [(ac L 4),a4,(ac L 5),(.int .i64 0)] m) λa5=>Obt (cun .not a5.1) λa6=>Q .normal ⟨tk L [1,4,5,6,7] [(40,a6)],a5.2⟩):Rg F 48 [1,4,5,6,7,40] (R48 9) L m Q:=Tq h
theorem t48r10 (h:Q .normal ⟨[(2,.nil),(3,(.bool false))],m⟩):Rg F 48 [2,3] (R48 10) L m Q:=Tq h
theorem t48r8 (h:Obt (aw Try.prog .add 3 (.tmp 29) (.const (.int .i64 1)) (ac L 7) (.int .i64 1)) λa0=>Q .normal ⟨tk L [1,4,5,6] [(7,a0)],m⟩):Rg F 48 [1,4,5,6,7] (R48 8) L m Q:=Tq h
theorem t48r11 (h:Q .normal ⟨tk L [1,4,5,6] [(8,(.int .i64 0))],m⟩):Rg F 48 [1,4,5,6,8] (R48 11) L m Q:=Tq h
theorem oJ (h:Obt (aA 2 (ac L 6)) λa0=>Obt (ld1 m a0) λa1=>Obt (lenS a1) λa2=>Obt (aw Try.prog .lss 3 (.tmp 41) (.tmp 44) (ac L 8) a2) λa3=>Q .normal ⟨tk L [1,4,5,6,8] [(45,a3)],m⟩):Rg F 48 [1,4,5,6,8,45] (R48 12) L m Q:=Tq h
theorem re (h:Obt (aA 2 (ac L 6)) λa0=>Obt (ld1 m a0) λa1=>Obt (bd 12 a1 (ac L 8)) λa2=>Obt (ldA 12 m a2) λa3=>Obt (aB An F 48 (some 53) 74 [a3] m) λa4=>Obt (cun .not a4.1) λa5=>Obt (gV a5 false (aA 2 (ac L 6)) a4.2) λa6=>Obt (gV a5 false (ld1 a6.2 a6.1) a6.2) λa7=>Obt (gW a5 false (ac L 8) a7.2) λa8=>Obt (gV a5 false (bd 12 a7.1 a8.1) a8.2) λa9=>Obt (gV a5 false (aA 0 a9.1) a9.2) λa10=>Obt (gV a5 false (ld1 a10.2 a10.1) a10.2) λa11=>Obt (gV a5 false (aw Try.prog .neq 64 (.tmp 61) (.const (.int .i64 6)) a11.1 (.int .i64 6)) a11.2) λa12=>Obt (gW a5 false a12.1 a12.2) λa13=>Obt (gW a13.1 true (ac L 4) a13.2) λa14=>Obt (gV a13.1 true (aA 2 (ac L 6)) a14.2) λa15=>Obt (gV a13.1 true (ld1 a15.2 a15.1) a15.2) λa16=>Obt (gW a13.1 true (ac L 8) a16.2) λa17=>Obt (gV a13.1 true (bd 12 a16.1 a17.1) a17.2) λa18=>Obt (gV a13.1 true (aA 1 a18.1) a18.2) λa19=>Obt (gV a13.1 true (ld1 a19.2 a19.1) a19.2) λa20=>Obt (gW a13.1 true (ac L 5) a20.2) λa21=>Obt (gW a13.1 true (ac L 8) a21.2) λa22=>Obt (gV a13.1 true (aw Try.prog .add 3 (.tmp 72) (.const (.int .i64 1)) a22.1 (.int .i64 1)) a22.2) λa23=>Obt (gdO a13.1 true (aB An F 48 (some 74) 73 [a14.1,a20.1,a21.1,a23.1] a23.2) (.tuple [],a23.2)) λa24=>Obt (gV a13.1 true (cun .not a24.1) a24.2) λa25=>Obt (gV a5 false (aT a13.1 a25.1 (.bool false)) a25.2) λa26=>Obt (aT a5 (.bool true) a26.1) λa27=>Q .normal ⟨tk L [1,4,5,6,8] [(77,a27)],a26.2⟩):Rg F 48 [1,4,5,6,8,77] (R48 14) L m Q:=Tq h
theorem E7 (h:Q .normal ⟨[(2,.nil),(3,(.bool false))],m⟩):Rg F 48 [2,3] (R48 15) L m Q:=Tq h
theorem E6 (h:Obt (aw Try.prog .add 3 (.tmp 46) (.const (.int .i64 1)) (ac L 8) (.int .i64 1)) λa0=>Q .normal ⟨tk L [1,4,5,6] [(8,a0)],m⟩):Rg F 48 [1,4,5,6,8] (R48 13) L m Q:=Tq h
theorem t48r4 (h:Obt (aw Try.prog .add 3 (.tmp 17) (.const (.int .i64 1)) (ac L 5) (.int .i64 1)) λa0=>Q .normal ⟨tk L [1,4] [(5,a0)],m⟩):Rg F 48 [1,4,5] (R48 4) L m Q:=Tq h
theorem t48r16 (h:Q .normal ⟨[(2,(ac L 4)),(3,(.bool true))],m⟩):Rg F 48 [2,3] (R48 16) L m Q:=Tq h
abbrev JE:=rg 104 Try.f104
def tw:SC:=
 (.seq (.reg false (some [0,1,2,3]) (JE 0)) (.seq (.seq (.reg false (some [0,1,2,3,31]) (JE 1)) (.cond (.tmp 31) (.seq (.reg false (some [8]) (JE 2)) .ret) .nop)) (.seq (.reg false (some [0,2,3,9]) (JE 3)) (.seq (.seq (.reg false (some [0,2,3,9,42]) (JE 4)) (.cond (.tmp 42) (.seq (.reg false (some [8]) (JE 5)) .ret) .nop)) (.seq (.reg true (some [8]) (JE 6)) .ret)))))
theorem xC:Try.f104.body.bind (bh Try.prog An 104 Try.f104.ntmps)=some tw:=by kernel_rfl
theorem g104:An.glob 104=[]:=rfl
theorem xz:Try.f104.results.toList=[(.tmp 8)]:=by kernel_rfl
theorem lM (h:Q .normal ⟨tk L [0,1,2,3] [],m⟩):Rg F 104 [0,1,2,3] (JE 0) L m Q:=Tq h
theorem lN (h:Obt (aw Try.prog .lss 3 (.tmp 10) (.const (.int .i64 0)) (ac L 1) (.int .i64 0)) λa0=>Obt (gW a0 false (ac L 1) m) λa1=>Obt (gW a0 false (ac L 0) a1.2) λa2=>Obt (gV a0 false (b7 a2.1) a2.2) λa3=>Obt (gV a0 false (aA 2 a3.1) a3.2) λa4=>Obt (gV a0 false (ld1 a4.2 a4.1) a4.2) λa5=>Obt (gV a0 false (lenS a5.1) a5.2) λa6=>Obt (gV a0 false (aw Try.prog .geq 3 (.tmp 13) (.tmp 18) a1.1 a6.1) a6.2) λa7=>Obt (aT a0 (.bool true) a7.1) λa8=>Obt (gW a8 false (ac L 0) a7.2) λa9=>Obt (gV a8 false (b7 a9.1) a9.2) λa10=>Obt (gV a8 false (aA 2 a10.1) a10.2) λa11=>Obt (gV a8 false (ld1 a11.2 a11.1) a11.2) λa12=>Obt (gW a8 false (ac L 1) a12.2) λa13=>Obt (gV a8 false (bd 3 a12.1 a13.1) a13.2) λa14=>Obt (gV a8 false (aA 0 a14.1) a14.2) λa15=>Obt (gV a8 false (ld1 a15.2 a15.1) a15.2) λa16=>Obt (gV a8 false (cun .not a16.1) a16.2) λa17=>Obt (aT a8 (.bool true) a17.1) λa18=>Q .normal ⟨tk L [0,1,2,3] [(31,a18)],a17.2⟩):Rg F 104 [0,1,2,3,31] (JE 1) L m Q:=Tq h
theorem uk (h:Q .normal ⟨[(8,(.bool false))],m⟩):Rg F 104 [8] (JE 2) L m Q:=Tq h
theorem un (h:Obt (b7 (ac L 0)) λa0=>Obt (aA 2 a0) λa1=>Obt (ld1 m a1) λa2=>Obt (bd 3 a2 (ac L 1)) λa3=>Obt (ldA 3 m a3) λa4=>Obt (stX 3 (bw m 144 [.bool false,.int .i64 0,.int .i64 0]) (bo m 144) a4) λa5=>Q .normal ⟨tk L [0,2,3] [(9,(bo m 144))],a5⟩):Rg F 104 [0,2,3,9] (JE 3) L m Q:=Tq h
theorem uo (h:Obt (aA 1 (ac L 9)) λa0=>Obt (ld1 m a0) λa1=>Obt (aw Try.prog .eql 3 (.tmp 40) (.tmp 41) a1 (ac L 2)) λa2=>Q .normal ⟨tk L [0,2,3,9] [(42,a2)],m⟩):Rg F 104 [0,2,3,9,42] (JE 4) L m Q:=Tq h
theorem Ev (h:Obt (aA 2 (ac L 9)) λa0=>Obt (ld1 m a0) λa1=>Obt (aw Try.prog .lss 3 (.tmp 44) (.tmp 45) a1 (ac L 3)) λa2=>Q .normal ⟨[(8,a2)],m⟩):Rg F 104 [8] (JE 5) L m Q:=Tq h
theorem t104r6 (h:Obt (b7 (ac L 0)) λa0=>Obt (aA 4 a0) λa1=>Obt (ld1 m a1) λa2=>Obt (aA 1 (ac L 9)) λa3=>Obt (ld1 m a3) λa4=>Obt (bd 1 a2 a4) λa5=>Obt (ld1 m a5) λa6=>Obt (bd 1 a6 (ac L 2)) λa7=>Obt (ld1 m a7) λa8=>Q .normal ⟨[(8,a8)],m⟩):Rt F 104 [8] (JE 6) L m Q:=Tq h
abbrev R76:=rg 76 Try.f76
def c76l0:SC:=
 (.seq (.seq (.reg false (some [0,1,2,3,9,13]) (R76 2)) (.cond (.tmp 13) .nop (.exit 0))) (.seq (.block 1 (.seq (.reg false (some [0,1,2,3,9,24]) (R76 4)) (.cond (.tmp 24) (.seq (.reg false (some [8]) (R76 5)) .ret) .nop))) (.reg false (some [0,1,2,3,9]) (R76 3))))
def c76:SC:=
 (.seq (.reg false (some [0,1,2,3]) (R76 0)) (.seq (.seq (.reg false (some [0,1,2,3,9]) (R76 1)) (.block 0 (.loop c76l0))) (.seq (.reg false (some [8]) (R76 6)) .ret)))
theorem s76:Try.f76.body.bind (bh Try.prog An 76 Try.f76.ntmps)=some c76:=by kernel_rfl
theorem g76:An.glob 76=[]:=rfl
theorem r76:Try.f76.results.toList=[(.tmp 8)]:=by kernel_rfl
theorem t76r0 (h:Q .normal ⟨tk L [0,1,2,3] [],m⟩):Rg F 76 [0,1,2,3] (R76 0) L m Q:=Tq h
theorem t76r1 (h:Q .normal ⟨tk L [0,1,2,3] [(9,(.int .i64 0))],m⟩):Rg F 76 [0,1,2,3,9] (R76 1) L m Q:=Tq h
theorem FC (h:Obt (lenS (ac L 1)) λa0=>Obt (aw Try.prog .lss 3 (.tmp 10) (.tmp 12) (ac L 9) a0) λa1=>Q .normal ⟨tk L [0,1,2,3,9] [(13,a1)],m⟩):Rg F 76 [0,1,2,3,9,13] (R76 2) L m Q:=Tq h
theorem t76r4 (h:Obt (bd 1 (ac L 1) (ac L 9)) λa0=>Obt (ld1 m a0) λa1=>Obt (aB An F 76 (some 23) 104 [(ac L 0),a1,(ac L 2),(ac L 3)] m) λa2=>Obt (cun .not a2.1) λa3=>Q .normal ⟨tk L [0,1,2,3,9] [(24,a3)],a2.2⟩):Rg F 76 [0,1,2,3,9,24] (R76 4) L m Q:=Tq h
theorem t76r5 (h:Q .normal ⟨[(8,(.bool false))],m⟩):Rg F 76 [8] (R76 5) L m Q:=Tq h
theorem t76r3 (h:Obt (aw Try.prog .add 3 (.tmp 14) (.const (.int .i64 1)) (ac L 9) (.int .i64 1)) λa0=>Q .normal ⟨tk L [0,1,2,3] [(9,a0)],m⟩):Rg F 76 [0,1,2,3,9] (R76 3) L m Q:=Tq h
theorem t76r6 (h:Q .normal ⟨[(8,(.bool true))],m⟩):Rg F 76 [8] (R76 6) L m Q:=Tq h
abbrev R50:=rg 50 Try.f50
def c50l0:SC:=
 (.seq (.seq (.reg false (some [0,1,5,6,7,39]) (R50 8)) (.cond (.tmp 39) .nop (.exit 2))) (.seq (.block 3 (.seq (.reg true (some [0,1,5,6,7,59]) (R50 10)) (.cond (.tmp 59) (.seq (.reg false (some [4]) (R50 11)) .ret) .nop))) (.reg false (some [0,1,5,6,7]) (R50 9))))
def c50l1:SC:=
 (.seq (.seq (.reg false (some [0,1,5,6,21]) (R50 3)) (.cond (.tmp 21) .nop (.exit 0))) (.seq (.block 1 (.seq (.seq (.reg true (some [0,1,5,6,34]) (R50 5)) (.cond (.tmp 34) (.seq (.reg false (some [4]) (R50 6)) .ret) .nop)) (.seq (.reg false (some [0,1,5,6,7]) (R50 7)) (.block 2 (.loop c50l0))))) (.reg false (some [0,1,5,6]) (R50 4))))
def c50l2:SC:=
 (.seq (.seq (.reg false (some [0,1,5,8,64]) (R50 13)) (.cond (.tmp 64) .nop (.exit 4))) (.seq (.block 5 (.seq (.reg false (some [0,1,5,8,78]) (R50 15)) (.cond (.tmp 78) (.seq (.reg false (some [4]) (R50 16)) .ret) .nop))) (.reg false (some [0,1,5,8]) (R50 14))))
def c50:SC:=
 (.seq (.reg false (some [0,1]) (R50 0)) (.seq (.reg false (some [0,1,5]) (R50 1)) (.seq (.seq (.reg false (some [0,1,5,6]) (R50 2)) (.block 0 (.loop c50l1))) (.seq (.seq (.reg false (some [0,1,5,8]) (R50 12)) (.block 4 (.loop c50l2))) (.seq (.reg false (some [4]) (R50 17)) .ret)))))
theorem s50:Try.f50.body.bind (bh Try.prog An 50 Try.f50.ntmps)=some c50:=by kernel_rfl
theorem g50:An.glob 50=[]:=rfl
theorem r50:Try.f50.results.toList=[(.tmp 4)]:=by kernel_rfl
theorem t50r0 (h:Q .normal ⟨tk L [0,1] [],m⟩):Rg F 50 [0,1] (R50 0) L m Q:=Tq h
theorem t50r1 (h:Obt (b7 (ac L 0)) λa0=>Obt (aA 0 a0) λa1=>Obt (aA 0 a1) λa2=>Obt (ld1 m a2) λa3=>Obt (bd 10 a3 (ac L 1)) λa4=>Obt (ldA 10 m a4) λa5=>Obt (stX 10 (bw m 80 [.nil,.nil,.nil,.int .i64 0,.int .i64 0,.bool false,.int .i64 0,.int .i64 0,.int .i64 0,.int .i64 0]) (bo m 80) a5) λa6=>Q .normal ⟨tk L [0,1] [(5,(bo m 80))],a6⟩):Rg F 50 [0,1,5] (R50 1) L m Q:=Tq h
theorem t50r2 (h:Q .normal ⟨tk L [0,1,5] [(6,(.int .i64 0))],m⟩):Rg F 50 [0,1,5,6] (R50 2) L m Q:=Tq h
theorem Fe (h:Obt (aA 1 (ac L 5)) λa0=>Obt (ld1 m a0) λa1=>Obt (lenS a1) λa2=>Obt (aw Try.prog .lss 3 (.tmp 17) (.tmp 20) (ac L 6) a2) λa3=>Q .normal ⟨tk L [0,1,5,6] [(21,a3)],m⟩):Rg F 50 [0,1,5,6,21] (R50 3) L m Q:=Tq h
theorem t50r5 (h:Obt (aA 1 (ac L 5)) λa0=>Obt (ld1 m a0) λa1=>Obt (bd 2 a1 (ac L 6)) λa2=>Obt (aA 1 a2) λa3=>Obt (ld1 m a3) λa4=>Obt (lenS a4) λa5=>Obt (aA 0 (ac L 5)) λa6=>Obt (ld1 m a6) λa7=>Obt (lenS a7) λa8=>Obt (aw Try.prog .neq 3 (.tmp 30) (.tmp 33) a5 a8) λa9=>Q .normal ⟨tk L [0,1,5,6] [(34,a9)],m⟩):Rt F 50 [0,1,5,6,34] (R50 5) L m Q:=Tq h
theorem t50r6 (h:Q .normal ⟨[(4,(.bool false))],m⟩):Rg F 50 [4] (R50 6) L m Q:=Tq h
theorem t50r7 (h:Q .normal ⟨tk L [0,1,5,6] [(7,(.int .i64 0))],m⟩):Rg F 50 [0,1,5,6,7] (R50 7) L m Q:=Tq h
theorem Ff (h:Obt (aA 0 (ac L 5)) λa0=>Obt (ld1 m a0) λa1=>Obt (lenS a1) λa2=>Obt (aw Try.prog .lss 3 (.tmp 35) (.tmp 38) (ac L 7) a2) λa3=>Q .normal ⟨tk L [0,1,5,6,7] [(39,a3)],m⟩):Rg F 50 [0,1,5,6,7,39] (R50 8) L m Q:=Tq h
theorem Fc (h:Obt (aA 1 (ac L 5)) λa0=>Obt (ld1 m a0) λa1=>Obt (bd 2 a1 (ac L 6)) λa2=>Obt (aA 1 a2) λa3=>Obt (ld1 m a3) λa4=>Obt (aw Try.prog .add 3 (.tmp 50) (.const (.int .i64 1)) (ac L 7) (.int .i64 1)) λa5=>Obt (sJ 1 a4 (some (ac L 7)) (some a5) none m) λa6=>Obt (aA 0 (ac L 5)) λa7=>Obt (ld1 m a7) λa8=>Obt (bd 1 a8 (ac L 7)) λa9=>Obt (ld1 m a9) λa10=>Obt (aB An F 50 (some 58) 76 [(ac L 0),a6,a10,(.int .i64 1073741824)] m) λa11=>Obt (cun .not a11.1) λa12=>Q .normal ⟨tk L [0,1,5,6,7] [(59,a12)],a11.2⟩):Rt F 50 [0,1,5,6,7,59] (R50 10) L m Q:=Tq h
theorem t50r11 (h:Q .normal ⟨[(4,(.bool false))],m⟩):Rg F 50 [4] (R50 11) L m Q:=Tq h
theorem t50r9 (h:Obt (aw Try.prog .add 3 (.tmp 40) (.const (.int .i64 1)) (ac L 7) (.int .i64 1)) λa0=>Q .normal ⟨tk L [0,1,5,6] [(7,a0)],m⟩):Rg F 50 [0,1,5,6,7] (R50 9) L m Q:=Tq h
theorem t50r4 (h:Obt (aw Try.prog .add 3 (.tmp 22) (.const (.int .i64 1)) (ac L 6) (.int .i64 1)) λa0=>Q .normal ⟨tk L [0,1,5] [(6,a0)],m⟩):Rg F 50 [0,1,5,6] (R50 4) L m Q:=Tq h
theorem t50r12 (h:Q .normal ⟨tk L [0,1,5] [(8,(.int .i64 0))],m⟩):Rg F 50 [0,1,5,8] (R50 12) L m Q:=Tq h
theorem Fd (h:Obt (aA 2 (ac L 5)) λa0=>Obt (ld1 m a0) λa1=>Obt (lenS a1) λa2=>Obt (aw Try.prog .lss 3 (.tmp 60) (.tmp 63) (ac L 8) a2) λa3=>Q .normal ⟨tk L [0,1,5,8] [(64,a3)],m⟩):Rg F 50 [0,1,5,8,64] (R50 13) L m Q:=Tq h
theorem t50r15 (h:Obt (aA 2 (ac L 5)) λa0=>Obt (ld1 m a0) λa1=>Obt (bd 12 a1 (ac L 8)) λa2=>Obt (ldA 12 m a2) λa3=>Obt (aB An F 50 (some 73) 30 [a3] m) λa4=>Obt (aw Try.prog .add 3 (.tmp 75) (.const (.int .i64 1)) (ac L 8) (.int .i64 1)) λa5=>Obt (aB An F 50 (some 77) 76 [(ac L 0),a4.1,(ac L 1),a5] a4.2) λa6=>Obt (cun .not a6.1) λa7=>Q .normal ⟨tk L [0,1,5,8] [(78,a7)],a6.2⟩):Rg F 50 [0,1,5,8,78] (R50 15) L m Q:=Tq h
theorem t50r16 (h:Q .normal ⟨[(4,(.bool false))],m⟩):Rg F 50 [4] (R50 16) L m Q:=Tq h
theorem t50r14 (h:Obt (aw Try.prog .add 3 (.tmp 65) (.const (.int .i64 1)) (ac L 8) (.int .i64 1)) λa0=>Q .normal ⟨tk L [0,1,5] [(8,a0)],m⟩):Rg F 50 [0,1,5,8] (R50 14) L m Q:=Tq h
theorem t50r17 (h:Obt (aA 3 (ac L 5)) λa0=>Obt (ldA 7 m a0) λa1=>Obt (aB An F 50 (some 82) 29 [a1] m) λa2=>Obt (aB An F 50 (some 84) 76 [(ac L 0),a2.1,(ac L 1),(.int .i64 1073741824)] a2.2) λa3=>Q .normal ⟨[(4,a3.1)],a3.2⟩):Rg F 50 [4] (R50 17) L m Q:=Tq h
abbrev R16:=rg 16 Try.f16
def c16l0:SC:=
 (.seq (.seq (.reg false (some [1,6,7,52]) (R16 11)) (.cond (.tmp 52) .nop (.exit 0))) (.seq (.block 1 (.seq (.reg false (some [1,6,7,58]) (R16 13)) (.cond (.tmp 58) (.seq (.reg false (some [2]) (R16 14)) .ret) .nop))) (.reg false (some [1,6,7]) (R16 12))))
def c16:SC:=
 (.seq (.reg false (some [1]) (R16 0)) (.seq (.seq (.reg false (some [1,27]) (R16 1)) (.cond (.tmp 27) (.seq (.reg false (some [2]) (R16 2)) .ret) .nop)) (.seq (.reg false (some [1,3]) (R16 3)) (.seq (.seq (.reg false (some [1,3,33]) (R16 4)) (.cond (.tmp 33) (.seq (.reg false (some [2]) (R16 5)) .ret) .nop)) (.seq (.reg false (some [1,3,4,5]) (R16 6)) (.seq (.seq (.reg false (some [1,3,4,40]) (R16 7)) (.cond (.tmp 40) (.seq (.reg false (some [2]) (R16 8)) .ret) .nop)) (.seq (.reg false (some [1,6]) (R16 9)) (.seq (.seq (.reg false (some [1,6,7]) (R16 10)) (.block 0 (.loop c16l0))) (.seq (.reg false (some [2]) (R16 15)) .ret)))))))))
theorem s16:Try.f16.body.bind (bh Try.prog An 16 Try.f16.ntmps)=some c16:=by kernel_rfl
theorem g16:An.glob 16=[47]:=rfl
theorem r16:Try.f16.results.toList=[(.tmp 2)]:=by kernel_rfl
theorem sN (h:Obt (ap (ac L 0)) λa0=>Q .normal ⟨[(1,(bo m 16))],(bw m 16 a0)⟩):Rg F 16 [1] (R16 0) L m Q:=Tq h
theorem sO (h:Obt (aA 0 (ac L 1)) λa0=>Obt (ld1 m a0) λa1=>Obt (lenS a1) λa2=>Obt (aw Try.prog .lss 3 (.tmp 10) (.const (.int .i64 1)) a2 (.int .i64 1)) λa3=>Obt (gV a3 false (aA 0 (ac L 1)) m) λa4=>Obt (gV a3 false (ld1 a4.2 a4.1) a4.2) λa5=>Obt (gV a3 false (lenS a5.1) a5.2) λa6=>Obt (gV a3 false (aw Try.prog .gtr 3 (.tmp 15) (.const (.int .i64 8192)) a6.1 (.int .i64 8192)) a6.2) λa7=>Obt (aT a3 (.bool true) a7.1) λa8=>Obt (gV a8 false (aA 1 (ac L 1)) a7.2) λa9=>Obt (gV a8 false (ld1 a9.2 a9.1) a9.2) λa10=>Obt (gV a8 false (aw Try.prog .lss 3 (.tmp 20) (.const (.int .i64 0)) a10.1 (.int .i64 0)) a10.2) λa11=>Obt (aT a8 (.bool true) a11.1) λa12=>Obt (gV a12 false (aA 1 (ac L 1)) a11.2) λa13=>Obt (gV a12 false (ld1 a13.2 a13.1) a13.2) λa14=>Obt (gV a12 false (aw Try.prog .gtr 3 (.tmp 25) (.const (.int .i64 65536)) a14.1 (.int .i64 65536)) a14.2) λa15=>Obt (aT a12 (.bool true) a15.1) λa16=>Q .normal ⟨tk L [1] [(27,a16)],a15.2⟩):Rg F 16 [1,27] (R16 1) L m Q:=Tq h
theorem wo (h:Q .normal ⟨[(2,(.int .i64 160))],m⟩):Rg F 16 [2] (R16 2) L m Q:=Tq h
theorem t16r3 (h:Obt (ldA 2 m (ac L 1)) λa0=>Obt (aB An F 16 (some 29) 46 [a0] m) λa1=>Q .normal ⟨tk L [1] [(3,a1.1)],a1.2⟩):Rg F 16 [1,3] (R16 3) L m Q:=Tq h
theorem ER (h:Obt (ldA 2 m (ac L 1)) λa0=>Obt (aB An F 16 (some 32) 47 [a0,(ac L 3)] m) λa1=>Obt (cun .not a1.1) λa2=>Q .normal ⟨tk L [1,3] [(33,a2)],a1.2⟩):Rg F 16 [1,3,33] (R16 4) L m Q:=Tq h
theorem t16r5 (h:Q .normal ⟨[(2,(.int .i64 160))],m⟩):Rg F 16 [2] (R16 5) L m Q:=Tq h
theorem t16r6 (h:Obt (ldA 2 m (ac L 1)) λa0=>Obt (aB An F 16 (some 36) 48 [a0] m) λa1=>Obt (cV 0 a1.1) λa2=>Obt (cV 1 a1.1) λa3=>Q .normal ⟨tk L [1,3] [(4,a2),(5,a3)],a1.2⟩):Rg F 16 [1,3,4,5] (R16 6) L m Q:=Tq h
theorem t16r7 (h:Obt (cun .not (ac L 5)) λa0=>Q .normal ⟨tk L [1,3,4] [(40,a0)],m⟩):Rg F 16 [1,3,4,40] (R16 7) L m Q:=Tq h
theorem t16r8 (h:Q .normal ⟨[(2,(.int .i64 160))],m⟩):Rg F 16 [2] (R16 8) L m Q:=Tq h
theorem t16r9 (h:Obt (n6 [(true,45)] (ac L 1) ((ldA 2 m (ac L 1)).map λv=>(v,m))) λa0=>Obt (aB An F 16 (some 45) 49 [(ac L 3)] a0.2) λa1=>Obt ((bg [.nil,.int .i64 0,.nil,.nil,.nil] [(0,2,a0.1),(2,1,(ac L 4)),(3,1,(ac L 3)),(4,1,a1.1)]).map CV.agg) λa2=>Obt (iB a2 a1.2) λa3=>Q .normal ⟨tk L [1] [(6,a3.1)],a3.2⟩):Rg F 16 [1,6] (R16 9) L m Q:=Tq h
theorem t16r10 (h:Q .normal ⟨tk L [1,6] [(7,(.int .i64 0))],m⟩):Rg F 16 [1,6,7] (R16 10) L m Q:=Tq h
theorem ur (h:Obt (aA 0 (ac L 1)) λa0=>Obt (ld1 m a0) λa1=>Obt (lenS a1) λa2=>Obt (aw Try.prog .lss 3 (.tmp 48) (.tmp 51) (ac L 7) a2) λa3=>Q .normal ⟨tk L [1,6,7] [(52,a3)],m⟩):Rg F 16 [1,6,7,52] (R16 11) L m Q:=Tq h
theorem EQ (h:Obt (aB An F 16 (some 57) 50 [(ac L 6),(ac L 7)] m) λa0=>Obt (cun .not a0.1) λa1=>Q .normal ⟨tk L [1,6,7] [(58,a1)],a0.2⟩):Rg F 16 [1,6,7,58] (R16 13) L m Q:=Tq h
theorem t16r14 (h:Q .normal ⟨[(2,(.int .i64 160))],m⟩):Rg F 16 [2] (R16 14) L m Q:=Tq h
theorem t16r12 (h:Obt (aw Try.prog .add 3 (.tmp 53) (.const (.int .i64 1)) (ac L 7) (.int .i64 1)) λa0=>Q .normal ⟨tk L [1,6] [(7,a0)],m⟩):Rg F 16 [1,6,7] (R16 12) L m Q:=Tq h
theorem t16r15 (h:Q .normal ⟨[(2,(.int .i64 0))],m⟩):Rg F 16 [2] (R16 15) L m Q:=Tq h
end
end Go.Cm
