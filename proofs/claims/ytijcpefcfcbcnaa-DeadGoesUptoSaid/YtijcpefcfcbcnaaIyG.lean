import Derived.Test.YtijcpefcfcbcnaaIyE
set_option linter.unusedSimpArgs false
set_option linter.unusedVariables false
namespace Go.Cm
open Go.Proofs
variable {F:aW}{L:List (Nat×CV)}{m:Mem}{Q:CE→TS→Prop}
noncomputable section
abbrev R15:=rg 15 Try.f15
def c15l0:SC:=
 (.seq (.seq (.reg false (some [2,3,5,6,7,8,76]) (R15 10)) (.cond (.tmp 76) .nop (.exit 2))) (.seq (.block 3 (.seq (.reg true (some [2,3,5,6,7,8,107]) (R15 12)) (.cond (.tmp 107) (.seq (.reg false (some [4]) (R15 13)) .ret) .nop))) (.reg false (some [2,3,5,6,7,8]) (R15 11))))
def c15l1:SC:=
 (.seq (.seq (.reg false (some [2,3,5,6,7,9,112]) (R15 15)) (.cond (.tmp 112) .nop (.exit 4))) (.seq (.block 5 (.seq (.reg true (some [2,3,5,6,7,9,126]) (R15 17)) (.cond (.tmp 126) (.seq (.reg false (some [4]) (R15 18)) .ret) .nop))) (.reg false (some [2,3,5,6,7,9]) (R15 16))))
def c15l2:SC:=
 (.seq (.seq (.reg false (some [2,3,5,28]) (R15 4)) (.cond (.tmp 28) .nop (.exit 0))) (.seq (.block 1 (.seq (.reg false (some [2,3,5,6,7]) (R15 6)) (.seq (.seq (.reg false (some [2,3,5,6,7,71]) (R15 7)) (.cond (.tmp 71) (.seq (.reg false (some [4]) (R15 8)) .ret) .nop)) (.seq (.seq (.reg false (some [2,3,5,6,7,8]) (R15 9)) (.block 2 (.loop c15l0))) (.seq (.reg false (some [2,3,5,6,7,9]) (R15 14)) (.block 4 (.loop c15l1))))))) (.reg false (some [2,3,5]) (R15 5))))
def c15:SC:=
 (.seq (.reg false (some [2,3]) (R15 0)) (.seq (.seq (.reg false (some [2,3,23]) (R15 1)) (.cond (.tmp 23) (.seq (.reg false (some [4]) (R15 2)) .ret) .nop)) (.seq (.seq (.reg false (some [2,3,5]) (R15 3)) (.block 0 (.loop c15l2))) (.seq (.reg false (some [4]) (R15 19)) .ret))))
theorem s15:Try.f15.body.bind (bh Try.prog An 15 Try.f15.ntmps)=some c15:=by kernel_rfl
theorem g15:An.glob 15=[]:=rfl
theorem r15:Try.f15.results.toList=[(.tmp 4)]:=by kernel_rfl
theorem t15r0 (h:Obt (ap (ac L 0)) λa0=>Obt (ap (ac L 1)) λa1=>Q .normal ⟨[(2,(bo m 32)),(3,(bo (bw m 32 a0) 48))],(bw (bw m 32 a0) 48 a1)⟩):Rg F 15 [2,3] (R15 0) L m Q:=Tq h
theorem t15r1 (h:Obt (aA 1 (ac L 2)) λa0=>Obt (ld1 m a0) λa1=>Obt (aA 1 (ac L 3)) λa2=>Obt (ld1 m a2) λa3=>Obt (aw Try.prog .neq 3 (.tmp 11) (.tmp 13) a1 a3) λa4=>Obt (gV a4 false (aA 0 (ac L 2)) m) λa5=>Obt (gV a4 false (ld1 a5.2 a5.1) a5.2) λa6=>Obt (gV a4 false (lenS a6.1) a6.2) λa7=>Obt (gV a4 false (aA 0 (ac L 3)) a7.2) λa8=>Obt (gV a4 false (ld1 a8.2 a8.1) a8.2) λa9=>Obt (gV a4 false (lenS a9.1) a9.2) λa10=>Obt (gV a4 false (aw Try.prog .neq 3 (.tmp 18) (.tmp 21) a7.1 a10.1) a10.2) λa11=>Obt (aT a4 (.bool true) a11.1) λa12=>Q .normal ⟨tk L [2,3] [(23,a12)],a11.2⟩):Rg F 15 [2,3,23] (R15 1) L m Q:=Tq h
theorem t15r3 (h:Q .normal ⟨tk L [2,3] [(5,(.int .i64 0))],m⟩):Rg F 15 [2,3,5] (R15 3) L m Q:=Tq h
theorem t15r4 (h:Obt (aA 0 (ac L 2)) λa0=>Obt (ld1 m a0) λa1=>Obt (lenS a1) λa2=>Obt (aw Try.prog .lss 3 (.tmp 24) (.tmp 27) (ac L 5) a2) λa3=>Q .normal ⟨tk L [2,3,5] [(28,a3)],m⟩):Rg F 15 [2,3,5,28] (R15 4) L m Q:=Tq h
theorem t15r6 (h:Obt (aA 0 (ac L 2)) λa0=>Obt (ld1 (bw (bw m 96 [.nil,.nil,.nil,.int .i64 0,.int .i64 0,.bool false,.int .i64 0,.int .i64 0,.int .i64 0,.int .i64 0]) 112 [.nil,.nil,.nil,.int .i64 0,.int .i64 0,.bool false,.int .i64 0,.int .i64 0,.int .i64 0,.int .i64 0]) a0) λa1=>Obt (bd 10 a1 (ac L 5)) λa2=>Obt (ldA 10 (bw (bw m 96 [.nil,.nil,.nil,.int .i64 0,.int .i64 0,.bool false,.int .i64 0,.int .i64 0,.int .i64 0,.int .i64 0]) 112 [.nil,.nil,.nil,.int .i64 0,.int .i64 0,.bool false,.int .i64 0,.int .i64 0,.int .i64 0,.int .i64 0]) a2) λa3=>Obt (aA 0 (ac L 3)) λa4=>Obt (n6 [(false,6)] a4 ((ld1 (bw (bw m 96 [.nil,.nil,.nil,.int .i64 0,.int .i64 0,.bool false,.int .i64 0,.int .i64 0,.int .i64 0,.int .i64 0]) 112 [.nil,.nil,.nil,.int .i64 0,.int .i64 0,.bool false,.int .i64 0,.int .i64 0,.int .i64 0,.int .i64 0]) a4).map λv=>(v,(bw (bw m 96 [.nil,.nil,.nil,.int .i64 0,.int .i64 0,.bool false,.int .i64 0,.int .i64 0,.int .i64 0,.int .i64 0]) 112 [.nil,.nil,.nil,.int .i64 0,.int .i64 0,.bool false,.int .i64 0,.int .i64 0,.int .i64 0,.int .i64 0])))) λa5=>Obt (bd 10 a5.1 (ac L 5)) λa6=>Obt (n6 [(false,6)] a6 ((ldA 10 a5.2 a6).map λv=>(v,a5.2))) λa7=>Obt (stX 10 a7.2 (bo m 96) a3) λa8=>Obt (stX 10 a8 (bo (bw m 96 [.nil,.nil,.nil,.int .i64 0,.int .i64 0,.bool false,.int .i64 0,.int .i64 0,.int .i64 0,.int .i64 0]) 112) a7.1) λa9=>Q .normal ⟨tk L [2,3,5] [(6,(bo m 96)),(7,(bo (bw m 96 [.nil,.nil,.nil,.int .i64 0,.int .i64 0,.bool false,.int .i64 0,.int .i64 0,.int .i64 0,.int .i64 0]) 112))],a9⟩):Rg F 15 [2,3,5,6,7] (R15 6) L m Q:=Tq h
theorem t15r7 (h:Obt (aA 0 (ac L 6)) λa0=>Obt (ld1 m a0) λa1=>Obt (aA 0 (ac L 7)) λa2=>Obt (ld1 m a2) λa3=>Obt (aB An F 15 (some 45) 44 [a1,a3] m) λa4=>Obt (cun .not a4.1) λa5=>Obt (gV a5 false (aA 1 (ac L 6)) a4.2) λa6=>Obt (gV a5 false (ld1 a6.2 a6.1) a6.2) λa7=>Obt (gV a5 false (lenS a7.1) a7.2) λa8=>Obt (gV a5 false (aA 1 (ac L 7)) a8.2) λa9=>Obt (gV a5 false (ld1 a9.2 a9.1) a9.2) λa10=>Obt (gV a5 false (lenS a10.1) a10.2) λa11=>Obt (gV a5 false (aw Try.prog .neq 3 (.tmp 50) (.tmp 53) a8.1 a11.1) a11.2) λa12=>Obt (aT a5 (.bool true) a12.1) λa13=>Obt (gV a13 false (aA 2 (ac L 6)) a12.2) λa14=>Obt (gV a13 false (ld1 a14.2 a14.1) a14.2) λa15=>Obt (gV a13 false (lenS a15.1) a15.2) λa16=>Obt (gV a13 false (aA 2 (ac L 7)) a16.2) λa17=>Obt (gV a13 false (ld1 a17.2 a17.1) a17.2) λa18=>Obt (gV a13 false (lenS a18.1) a18.2) λa19=>Obt (gV a13 false (aw Try.prog .neq 3 (.tmp 59) (.tmp 62) a16.1 a19.1) a19.2) λa20=>Obt (aT a13 (.bool true) a20.1) λa21=>Obt (gV a21 false (aA 3 (ac L 6)) a20.2) λa22=>Obt (gV a21 false (ldA 7 a22.2 a22.1) a22.2) λa23=>Obt (gV a21 false (aA 3 (ac L 7)) a23.2) λa24=>Obt (gV a21 false (ldA 7 a24.2 a24.1) a24.2) λa25=>Obt (gV a21 false (aw Try.prog .neq 56 (.tmp 67) (.tmp 69) a23.1 a25.1) a25.2) λa26=>Obt (aT a21 (.bool true) a26.1) λa27=>Q .normal ⟨tk L [2,3,5,6,7] [(71,a27)],a26.2⟩):Rg F 15 [2,3,5,6,7,71] (R15 7) L m Q:=Tq h
theorem t15r9 (h:Q .normal ⟨tk L [2,3,5,6,7] [(8,(.int .i64 0))],m⟩):Rg F 15 [2,3,5,6,7,8] (R15 9) L m Q:=Tq h
theorem EO (h:Obt (aA 1 (ac L 6)) λa0=>Obt (ld1 m a0) λa1=>Obt (lenS a1) λa2=>Obt (aw Try.prog .lss 3 (.tmp 72) (.tmp 75) (ac L 8) a2) λa3=>Q .normal ⟨tk L [2,3,5,6,7,8] [(76,a3)],m⟩):Rg F 15 [2,3,5,6,7,8,76] (R15 10) L m Q:=Tq h
theorem t15r12 (h:Obt (aA 1 (ac L 6)) λa0=>Obt (ld1 m a0) λa1=>Obt (bd 2 a1 (ac L 8)) λa2=>Obt (aA 0 a2) λa3=>Obt (ld1 m a3) λa4=>Obt (aA 1 (ac L 7)) λa5=>Obt (ld1 m a5) λa6=>Obt (bd 2 a6 (ac L 8)) λa7=>Obt (aA 0 a7) λa8=>Obt (ld1 m a8) λa9=>Obt (aw Try.prog .neq 3 (.tmp 84) (.tmp 90) a4 a9) λa10=>Obt (gV a10 false (aA 1 (ac L 6)) m) λa11=>Obt (gV a10 false (ld1 a11.2 a11.1) a11.2) λa12=>Obt (gW a10 false (ac L 8) a12.2) λa13=>Obt (gV a10 false (bd 2 a12.1 a13.1) a13.2) λa14=>Obt (gV a10 false (aA 1 a14.1) a14.2) λa15=>Obt (gV a10 false (ld1 a15.2 a15.1) a15.2) λa16=>Obt (gV a10 false (aA 1 (ac L 7)) a16.2) λa17=>Obt (gV a10 false (ld1 a17.2 a17.1) a17.2) λa18=>Obt (gW a10 false (ac L 8) a18.2) λa19=>Obt (gV a10 false (bd 2 a18.1 a19.1) a19.2) λa20=>Obt (gV a10 false (aA 1 a20.1) a20.2) λa21=>Obt (gV a10 false (ld1 a21.2 a21.1) a21.2) λa22=>Obt (gdO a10 false (chk true (aB An F 15 (some 105) 44 [a16.1,a22.1] a22.2)) (.tuple [],a22.2)) λa23=>Obt (gV a10 false (cun .not a23.1) a23.2) λa24=>Obt (aT a10 (.bool true) a24.1) λa25=>Q .normal ⟨tk L [2,3,5,6,7,8] [(107,a25)],a24.2⟩):Rt F 15 [2,3,5,6,7,8,107] (R15 12) L m Q:=Tq h
theorem t15r11 (h:Obt (aw Try.prog .add 3 (.tmp 77) (.const (.int .i64 1)) (ac L 8) (.int .i64 1)) λa0=>Q .normal ⟨tk L [2,3,5,6,7] [(8,a0)],m⟩):Rg F 15 [2,3,5,6,7,8] (R15 11) L m Q:=Tq h
theorem t15r14 (h:Q .normal ⟨tk L [2,3,5,6,7] [(9,(.int .i64 0))],m⟩):Rg F 15 [2,3,5,6,7,9] (R15 14) L m Q:=Tq h
theorem EP (h:Obt (aA 2 (ac L 6)) λa0=>Obt (ld1 m a0) λa1=>Obt (lenS a1) λa2=>Obt (aw Try.prog .lss 3 (.tmp 108) (.tmp 111) (ac L 9) a2) λa3=>Q .normal ⟨tk L [2,3,5,6,7,9] [(112,a3)],m⟩):Rg F 15 [2,3,5,6,7,9,112] (R15 15) L m Q:=Tq h
theorem t15r17 (h:Obt (aA 2 (ac L 6)) λa0=>Obt (ld1 m a0) λa1=>Obt (bd 12 a1 (ac L 9)) λa2=>Obt (ldA 12 m a2) λa3=>Obt (aA 2 (ac L 7)) λa4=>Obt (ld1 m a4) λa5=>Obt (bd 12 a5 (ac L 9)) λa6=>Obt (ldA 12 m a6) λa7=>Obt (chk true (aB An F 15 (some 125) 45 [a3,a7] m)) λa8=>Obt (cun .not a8.1) λa9=>Q .normal ⟨tk L [2,3,5,6,7,9] [(126,a9)],a8.2⟩):Rt F 15 [2,3,5,6,7,9,126] (R15 17) L m Q:=Tq h
theorem t15r16 (h:Obt (aw Try.prog .add 3 (.tmp 113) (.const (.int .i64 1)) (ac L 9) (.int .i64 1)) λa0=>Q .normal ⟨tk L [2,3,5,6,7] [(9,a0)],m⟩):Rg F 15 [2,3,5,6,7,9] (R15 16) L m Q:=Tq h
theorem t15r5 (h:Obt (aw Try.prog .add 3 (.tmp 29) (.const (.int .i64 1)) (ac L 5) (.int .i64 1)) λa0=>Q .normal ⟨tk L [2,3] [(5,a0)],m⟩):Rg F 15 [2,3,5] (R15 5) L m Q:=Tq h
theorem t15r19 (h:Q .normal ⟨[(4,(.bool true))],m⟩):Rg F 15 [4] (R15 19) L m Q:=Tq h
abbrev R45:=rg 45 Try.f45
def c45:SC:=
 (.seq (.reg false (some [2,3]) (R45 0)) (.seq (.reg false (some [4]) (R45 1)) .ret))
theorem s45:Try.f45.body.bind (bh Try.prog An 45 Try.f45.ntmps)=some c45:=by kernel_rfl
theorem g45:An.glob 45=[]:=rfl
theorem r45:Try.f45.results.toList=[(.tmp 4)]:=by kernel_rfl
theorem t45r0 (h:Obt (ap (ac L 0)) λa0=>Obt (ap (ac L 1)) λa1=>Q .normal ⟨[(2,(bo m 32)),(3,(bo (bw m 32 a0) 48))],(bw (bw m 32 a0) 48 a1)⟩):Rg F 45 [2,3] (R45 0) L m Q:=Tq h
theorem t45r1 (h:Obt (aA 0 (ac L 2)) λa0=>Obt (ld1 m a0) λa1=>Obt (aA 0 (ac L 3)) λa2=>Obt (ld1 m a2) λa3=>Obt (aw Try.prog .eql 64 (.tmp 6) (.tmp 8) a1 a3) λa4=>Obt (gV a4 true (aA 1 (ac L 2)) m) λa5=>Obt (gV a4 true (ld1 a5.2 a5.1) a5.2) λa6=>Obt (gV a4 true (aA 1 (ac L 3)) a6.2) λa7=>Obt (gV a4 true (ld1 a7.2 a7.1) a7.2) λa8=>Obt (gV a4 true (aw Try.prog .eql 3 (.tmp 12) (.tmp 14) a6.1 a8.1) a8.2) λa9=>Obt (aT a4 a9.1 (.bool false)) λa10=>Obt (gV a10 true (aA 2 (ac L 2)) a9.2) λa11=>Obt (gV a10 true (ld1 a11.2 a11.1) a11.2) λa12=>Obt (gV a10 true (aA 2 (ac L 3)) a12.2) λa13=>Obt (gV a10 true (ld1 a13.2 a13.1) a13.2) λa14=>Obt (gV a10 true (aw Try.prog .eql 3 (.tmp 19) (.tmp 21) a12.1 a14.1) a14.2) λa15=>Obt (aT a10 a15.1 (.bool false)) λa16=>Obt (gV a16 true (aA 3 (ac L 2)) a15.2) λa17=>Obt (gV a16 true (ld1 a17.2 a17.1) a17.2) λa18=>Obt (gV a16 true (aA 3 (ac L 3)) a18.2) λa19=>Obt (gV a16 true (ld1 a19.2 a19.1) a19.2) λa20=>Obt (gV a16 true (aw Try.prog .eql 4 (.tmp 26) (.tmp 28) a18.1 a20.1) a20.2) λa21=>Obt (aT a16 a21.1 (.bool false)) λa22=>Obt (gV a22 true (aA 4 (ac L 2)) a21.2) λa23=>Obt (gV a22 true (ld1 a23.2 a23.1) a23.2) λa24=>Obt (gV a22 true (aA 4 (ac L 3)) a24.2) λa25=>Obt (gV a22 true (ld1 a25.2 a25.1) a25.2) λa26=>Obt (gV a22 true (aw Try.prog .eql 3 (.tmp 33) (.tmp 35) a24.1 a26.1) a26.2) λa27=>Obt (aT a22 a27.1 (.bool false)) λa28=>Obt (gV a28 true (aA 5 (ac L 2)) a27.2) λa29=>Obt (gV a28 true (ld1 a29.2 a29.1) a29.2) λa30=>Obt (gV a28 true (aA 5 (ac L 3)) a30.2) λa31=>Obt (gV a28 true (ld1 a31.2 a31.1) a31.2) λa32=>Obt (gV a28 true (aw Try.prog .eql 3 (.tmp 40) (.tmp 42) a30.1 a32.1) a32.2) λa33=>Obt (aT a28 a33.1 (.bool false)) λa34=>Obt (gV a34 true (aA 6 (ac L 2)) a33.2) λa35=>Obt (gV a34 true (ld1 a35.2 a35.1) a35.2) λa36=>Obt (gV a34 true (aA 6 (ac L 3)) a36.2) λa37=>Obt (gV a34 true (ld1 a37.2 a37.1) a37.2) λa38=>Obt (gV a34 true (aw Try.prog .eql 65 (.tmp 47) (.tmp 49) a36.1 a38.1) a38.2) λa39=>Obt (aT a34 a39.1 (.bool false)) λa40=>Obt (gV a40 true (aA 7 (ac L 2)) a39.2) λa41=>Obt (gV a40 true (ld1 a41.2 a41.1) a41.2) λa42=>Obt (gV a40 true (aA 7 (ac L 3)) a42.2) λa43=>Obt (gV a40 true (ld1 a43.2 a43.1) a43.2) λa44=>Obt (gV a40 true (aw Try.prog .eql 3 (.tmp 54) (.tmp 56) a42.1 a44.1) a44.2) λa45=>Obt (aT a40 a45.1 (.bool false)) λa46=>Obt (gV a46 true (aA 8 (ac L 2)) a45.2) λa47=>Obt (gV a46 true (ld1 a47.2 a47.1) a47.2) λa48=>Obt (gV a46 true (aA 8 (ac L 3)) a48.2) λa49=>Obt (gV a46 true (ld1 a49.2 a49.1) a49.2) λa50=>Obt (gV a46 true (aw Try.prog .eql 3 (.tmp 61) (.tmp 63) a48.1 a50.1) a50.2) λa51=>Obt (aT a46 a51.1 (.bool false)) λa52=>Obt (gV a52 true (aA 9 (ac L 2)) a51.2) λa53=>Obt (gV a52 true (ld1 a53.2 a53.1) a53.2) λa54=>Obt (gV a52 true (aA 9 (ac L 3)) a54.2) λa55=>Obt (gV a52 true (ld1 a55.2 a55.1) a55.2) λa56=>Obt (gV a52 true (aw Try.prog .eql 4 (.tmp 68) (.tmp 70) a54.1 a56.1) a56.2) λa57=>Obt (aT a52 a57.1 (.bool false)) λa58=>Obt (gV a58 true (aA 11 (ac L 2)) a57.2) λa59=>Obt (gV a58 true (ld1 a59.2 a59.1) a59.2) λa60=>Obt (gV a58 true (aA 11 (ac L 3)) a60.2) λa61=>Obt (gV a58 true (ld1 a61.2 a61.1) a61.2) λa62=>Obt (gV a58 true (aw Try.prog .eql 3 (.tmp 75) (.tmp 77) a60.1 a62.1) a62.2) λa63=>Obt (aT a58 a63.1 (.bool false)) λa64=>Obt (gV a64 true (aA 10 (ac L 2)) a63.2) λa65=>Obt (gV a64 true (ld1 a65.2 a65.1) a65.2) λa66=>Obt (gV a64 true (aA 10 (ac L 3)) a66.2) λa67=>Obt (gV a64 true (ld1 a67.2 a67.1) a67.2) λa68=>Obt (gdO a64 true (aB An F 45 (some 85) 44 [a66.1,a68.1] a68.2) (.tuple [],a68.2)) λa69=>Obt (aT a64 a69.1 (.bool false)) λa70=>Q .normal ⟨[(4,a70)],a69.2⟩):Rg F 45 [4] (R45 1) L m Q:=Tq h
theorem Hh {m:Mem}{p:CV}:eW Try.prog m 29 p=ldA 2 m p:=by kernel_rfl
abbrev R12:=rg 12 Try.f12
def c12:SC:=
 (.seq (.reg false (some [1]) (R12 0)) (.seq (.reg false (some [2]) (R12 1)) .ret))
theorem s12:Try.f12.body.bind (bh Try.prog An 12 Try.f12.ntmps)=some c12:=by kernel_rfl
theorem g12:An.glob 12=[]:=rfl
theorem r12:Try.f12.results.toList=[(.tmp 2)]:=by kernel_rfl
theorem t12r0 (h:Obt (ap (ac L 0)) λa0=>Q .normal ⟨[(1,(bo m 16))],(bw m 16 a0)⟩):Rg F 12 [1] (R12 0) L m Q:=Tq h
theorem t12r1 (h:Obt (aA 0 (ac L 1)) λa0=>Obt (ld1 m a0) λa1=>Obt (lenS a1) λa2=>Obt (aw Try.prog .leq 3 (.tmp 5) (.const (.int .i64 100)) a2 (.int .i64 100)) λa3=>Obt (gV a3 true (aA 1 (ac L 1)) m) λa4=>Obt (gV a3 true (ld1 a4.2 a4.1) a4.2) λa5=>Obt (gV a3 true (aw Try.prog .leq 3 (.tmp 9) (.const (.int .i64 1000)) a5.1 (.int .i64 1000)) a5.2) λa6=>Obt (aT a3 a6.1 (.bool false)) λa7=>Q .normal ⟨[(2,a7)],a6.2⟩):Rg F 12 [2] (R12 1) L m Q:=Tq h
abbrev R5:=rg 5 Try.f5
def c5l0:SC:=
 (.seq (.seq (.reg false (some [1,3,4,5,6,7,8,9,36]) (R5 9)) (.cond (.tmp 36) .nop (.exit 0))) (.seq (.block 1 (.seq (.reg true (some [1,3,4,5,6,7,8,9,47]) (R5 11)) (.cond (.tmp 47) (.seq (.reg false (some [2]) (R5 12)) .ret) .nop))) (.reg false (some [1,3,4,5,6,7,8,9]) (R5 10))))
def c5:SC:=
 (.seq (.reg false (some [1]) (R5 0)) (.seq (.seq (.reg false (some [1,12]) (R5 1)) (.cond (.tmp 12) (.seq (.reg false (some [2]) (R5 2)) .ret) .nop)) (.seq (.reg false (some [1,3,4]) (R5 3)) (.seq (.reg false (some [1,3,4,5,6]) (R5 4)) (.seq (.reg false (some [1,3,4,5,6,7,8]) (R5 5)) (.seq (.seq (.reg false (some [1,3,4,5,6,7,8,32]) (R5 6)) (.cond (.tmp 32) (.seq (.reg false (some [2]) (R5 7)) .ret) .nop)) (.seq (.seq (.reg false (some [1,3,4,5,6,7,8,9]) (R5 8)) (.block 0 (.loop c5l0))) (.seq (.reg true (some [2]) (R5 13)) .ret))))))))
theorem s5:Try.f5.body.bind (bh Try.prog An 5 Try.f5.ntmps)=some c5:=by kernel_rfl
theorem g5:An.glob 5=[]:=rfl
theorem r5:Try.f5.results.toList=[(.tmp 2)]:=by kernel_rfl
theorem t5r0 (h:Obt (ap (ac L 0)) λa0=>Q .normal ⟨[(1,(bo m 16))],(bw m 16 a0)⟩):Rg F 5 [1] (R5 0) L m Q:=Tq h
theorem t5r1 (h:Obt (ldA 2 m (ac L 1)) λa0=>Obt (aB An F 5 (some 11) 20 [a0] m) λa1=>Obt (cun .not a1.1) λa2=>Q .normal ⟨tk L [1] [(12,a2)],a1.2⟩):Rg F 5 [1,12] (R5 1) L m Q:=Tq h
theorem t5r2 (h:Obt (aB An F 5 (some 13) 21 [] m) λa0=>Q .normal ⟨[(2,a0.1)],a0.2⟩):Rg F 5 [2] (R5 2) L m Q:=Tq h
theorem t5r3 (h:Obt (ldA 2 m (ac L 1)) λa0=>Obt (aB An F 5 (some 16) 22 [a0] m) λa1=>Obt (cV 0 a1.1) λa2=>Obt (cV 1 a1.1) λa3=>Obt (stX 2 (bw a1.2 48 [.nil,.int .i64 0]) (bo a1.2 48) a2) λa4=>Q .normal ⟨tk L [1] [(3,(bo a1.2 48)),(4,a3)],a4⟩):Rg F 5 [1,3,4] (R5 3) L m Q:=Tq h
theorem t5r4 (h:Obt (ldA 2 m (ac L 1)) λa0=>Obt (aB An F 5 (some 21) 23 [a0] m) λa1=>Obt (cV 0 a1.1) λa2=>Obt (cV 1 a1.1) λa3=>Obt (stX 2 (bw a1.2 80 [.nil,.int .i64 0]) (bo a1.2 80) a2) λa4=>Q .normal ⟨tk L [1,3,4] [(5,(bo a1.2 80)),(6,a3)],a4⟩):Rg F 5 [1,3,4,5,6] (R5 4) L m Q:=Tq h
theorem t5r5 (h:Obt (ldA 2 m (ac L 1)) λa0=>Obt (aB An F 5 (some 25) 24 [a0] m) λa1=>Obt (n6 [(true,25)] (ac L 1) ((ldA 2 a1.2 (ac L 1)).map λv=>(v,a1.2))) λa2=>Obt (aB An F 5 (some 27) 25 [a2.1] a2.2) λa3=>Q .normal ⟨tk L [1,3,4,5,6] [(7,a1.1),(8,a3.1)],a3.2⟩):Rg F 5 [1,3,4,5,6,7,8] (R5 5) L m Q:=Tq h
theorem t5r6 (h:Obt (lenS (ac L 7)) λa0=>Obt (lenS (ac L 8)) λa1=>Obt (aw Try.prog .neq 3 (.tmp 29) (.tmp 31) a0 a1) λa2=>Q .normal ⟨tk L [1,3,4,5,6,7,8] [(32,a2)],m⟩):Rg F 5 [1,3,4,5,6,7,8,32] (R5 6) L m Q:=Tq h
theorem t5r8 (h:Q .normal ⟨tk L [1,3,4,5,6,7,8] [(9,(.int .i64 0))],m⟩):Rg F 5 [1,3,4,5,6,7,8,9] (R5 8) L m Q:=Tq h
theorem t5r9 (h:Obt (lenS (ac L 7)) λa0=>Obt (aw Try.prog .lss 3 (.tmp 33) (.tmp 35) (ac L 9) a0) λa1=>Q .normal ⟨tk L [1,3,4,5,6,7,8,9] [(36,a1)],m⟩):Rg F 5 [1,3,4,5,6,7,8,9,36] (R5 9) L m Q:=Tq h
theorem t5r11 (h:Obt (bd 1 (ac L 7) (ac L 9)) λa0=>Obt (ld1 m a0) λa1=>Obt (bd 1 (ac L 8) (ac L 9)) λa2=>Obt (ld1 m a2) λa3=>Obt (aw Try.prog .neq 4 (.tmp 42) (.tmp 46) a1 a3) λa4=>Q .normal ⟨tk L [1,3,4,5,6,7,8,9] [(47,a4)],m⟩):Rt F 5 [1,3,4,5,6,7,8,9,47] (R5 11) L m Q:=Tq h
theorem t5r10 (h:Obt (aw Try.prog .add 3 (.tmp 37) (.const (.int .i64 1)) (ac L 9) (.int .i64 1)) λa0=>Q .normal ⟨tk L [1,3,4,5,6,7,8] [(9,a0)],m⟩):Rg F 5 [1,3,4,5,6,7,8,9] (R5 10) L m Q:=Tq h
theorem t5r13 (h:Obt (ldA 2 m (ac L 3)) λa0=>Obt (ldA 2 m (ac L 5)) λa1=>Obt (chk true (aB An F 5 (some 50) 15 [a0,a1] m)) λa2=>Obt (gW a2.1 true (ac L 4) a2.2) λa3=>Obt (gW a2.1 true (ac L 6) a3.2) λa4=>Obt (gV a2.1 true (aw Try.prog .eql 3 (.tmp 52) (.tmp 53) a3.1 a4.1) a4.2) λa5=>Obt (aT a2.1 a5.1 (.bool false)) λa6=>Obt (gV a6 true (ldA 2 a5.2 (ac L 1)) a5.2) λa7=>Obt (gdO a6 true (chk true (aB An F 5 (some 58) 26 [a7.1] a7.2)) (.tuple [],a7.2)) λa8=>Obt (gV a6 true (ldA 2 a8.2 (ac L 1)) a8.2) λa9=>Obt (gdO a6 true (chk true (aB An F 5 (some 60) 27 [a9.1] a9.2)) (.tuple [],a9.2)) λa10=>Obt (gV a6 true (aw Try.prog .eql 3 (.tmp 58) (.tmp 60) a8.1 a10.1) a10.2) λa11=>Obt (aT a6 a11.1 (.bool false)) λa12=>Obt (gdO a12 true (chk true (aB An F 5 (some 64) 21 [] a11.2)) (.tuple [],a11.2)) λa13=>Obt (aT a12 a13.1 (.bool false)) λa14=>Q .normal ⟨[(2,a14)],a13.2⟩):Rt F 5 [2] (R5 13) L m Q:=Tq h
abbrev R20:=rg 20 Try.f20
def c20:SC:=
 (.seq (.reg false (some [1]) (R20 0)) (.seq (.reg false (some [2]) (R20 1)) .ret))
theorem s20:Try.f20.body.bind (bh Try.prog An 20 Try.f20.ntmps)=some c20:=by kernel_rfl
theorem g20:An.glob 20=[]:=rfl
theorem r20:Try.f20.results.toList=[(.tmp 2)]:=by kernel_rfl
theorem t20r0 (h:Obt (ap (ac L 0)) λa0=>Q .normal ⟨[(1,(bo m 16))],(bw m 16 a0)⟩):Rg F 20 [1] (R20 0) L m Q:=Tq h
theorem t20r1 (h:Obt (aA 0 (ac L 1)) λa0=>Obt (ld1 m a0) λa1=>Obt (lenS a1) λa2=>Obt (aw Try.prog .leq 3 (.tmp 5) (.const (.int .i64 100)) a2 (.int .i64 100)) λa3=>Obt (gV a3 true (aA 1 (ac L 1)) m) λa4=>Obt (gV a3 true (ld1 a4.2 a4.1) a4.2) λa5=>Obt (gV a3 true (aw Try.prog .leq 3 (.tmp 9) (.const (.int .i64 1000)) a5.1 (.int .i64 1000)) a5.2) λa6=>Obt (aT a3 a6.1 (.bool false)) λa7=>Q .normal ⟨[(2,a7)],a6.2⟩):Rg F 20 [2] (R20 1) L m Q:=Tq h
abbrev R22:=rg 22 Try.f22
def c22l0:SC:=
 (.seq (.reg false (some [2,5,6,8,9,26,27,28,38,39,40,41]) (R22 11)) (.seq (.cond (.tmp 41) .nop (.exit 2)) (.seq (.block 3 (.seq (.reg false (some [2,5,6,8,9,11,26,27,28,38,39,40]) (R22 12)) (.seq (.reg false (some [2,5,6,8,9,11,26,27,28,38,39,40,48]) (R22 13)) (.cond (.tmp 48) (.reg false (some [2,5,6,8,9,26,27,28,38,39,40]) (R22 14)) .nop)))) (.reg false (some [2,5,6,8,9,26,27,28,38,39,40]) (R22 15)))))
def c22l1:SC:=
 (.seq (.reg false (some [2,5,6,9,26,27,28,57,58,59,60]) (R22 17)) (.seq (.cond (.tmp 60) .nop (.exit 4)) (.seq (.block 5 (.seq (.reg false (some [2,5,6,9,13,26,27,28,57,58,59]) (R22 18)) (.seq (.reg false (some [2,5,6,9,13,26,27,28,57,58,59,71]) (R22 19)) (.cond (.tmp 71) (.reg false (some [2,5,6,9,26,27,28,57,58,59]) (R22 20)) .nop)))) (.reg false (some [2,5,6,9,26,27,28,57,58,59]) (R22 21)))))
def c22l2:SC:=
 (.seq (.reg false (some [2,5,6,26,27,28,29]) (R22 7)) (.seq (.cond (.tmp 29) .nop (.exit 0)) (.seq (.block 1 (.seq (.reg false (some [2,5,6,8,26,27,28]) (R22 8)) (.seq (.reg false (some [2,5,6,8,9,26,27,28]) (R22 9)) (.seq (.seq (.reg false (some [2,5,6,8,9,26,27,28,38,39,40]) (R22 10)) (.block 2 (.loop c22l0))) (.seq (.seq (.reg false (some [2,5,6,9,26,27,28,57,58,59]) (R22 16)) (.block 4 (.loop c22l1))) (.reg false (some [2,5,6,26,27,28]) (R22 22))))))) (.reg false (some [2,5,6,26,27,28]) (R22 23)))))
def c22:SC:=
 (.seq (.reg false (some [1,2]) (R22 0)) (.seq (.seq (.reg false (some [1,2,4]) (R22 1)) (.seq (.reg false (some [1,2,4,17]) (R22 2)) (.cond (.tmp 17) (.seq (.reg false (some [2,3]) (R22 3)) .ret) .nop))) (.seq (.reg false (some [1,2,5]) (R22 4)) (.seq (.reg false (some [1,2,5,6]) (R22 5)) (.seq (.seq (.reg false (some [2,5,6,26,27,28]) (R22 6)) (.block 0 (.loop c22l2))) (.seq (.reg false (some [2,3]) (R22 24)) .ret))))))
theorem s22:Try.f22.body.bind (bh Try.prog An 22 Try.f22.ntmps)=some c22:=by kernel_rfl
theorem g22:An.glob 22=[]:=rfl
theorem r22:Try.f22.results.toList=[(.cell 2 29),(.tmp 3)]:=by kernel_rfl
theorem GT (h:Obt (ap (ac L 0)) λa0=>Q .normal ⟨[(1,(bo m 16)),(2,(bo (bw m 16 a0) 32))],(bw (bw m 16 a0) 32 [.nil,.int .i64 0])⟩):Rg F 22 [1,2] (R22 0) L m Q:=Tq h
theorem GU (h:Obt (ldA 2 m (ac L 1)) λa0=>Obt (aB An F 22 (some 15) 36 [a0] m) λa1=>Q .normal ⟨tk L [1,2] [(4,a1.1)],a1.2⟩):Rg F 22 [1,2,4] (R22 1) L m Q:=Tq h
theorem GV (h:Obt (aw Try.prog .neq 33 (.tmp 16) (.const (.int .i64 0)) (ac L 4) (.int .i64 0)) λa0=>Q .normal ⟨tk L [1,2,4] [(17,a0)],m⟩):Rg F 22 [1,2,4,17] (R22 2) L m Q:=Tq h
theorem GW (h:Obt ((bg [.nil,.int .i64 0] []).map CV.agg) λa0=>Obt (stX 2 m (ac L 2) a0) λa1=>Q .normal ⟨tk L [2] [(3,(ac L 4))],a1⟩):Rg F 22 [2,3] (R22 3) L m Q:=Tq h
theorem GX (h:Obt (ldA 2 m (ac L 1)) λa0=>Obt (aB An F 22 (some 21) 24 [a0] m) λa1=>Q .normal ⟨tk L [1,2] [(5,a1.1)],a1.2⟩):Rg F 22 [1,2,5] (R22 4) L m Q:=Tq h
theorem GY (h:Obt (aA 1 (ac L 1)) λa0=>Obt (ld1 m a0) λa1=>Obt ((bg [.nil,.int .i64 0] [(1,1,a1)]).map CV.agg) λa2=>Obt (stX 2 (bw m 96 [.nil,.int .i64 0]) (bo m 96) a2) λa3=>Q .normal ⟨tk L [1,2,5] [(6,(bo m 96))],a3⟩):Rg F 22 [1,2,5,6] (R22 5) L m Q:=Tq h
theorem GZ (h:Obt (aA 0 (ac L 1)) λa0=>Obt (ld1 m a0) λa1=>Obt (lenS a1) λa2=>Q .normal ⟨tk L [2,5,6] [(26,a1),(27,a2),(28,(.int .i64 0))],m⟩):Rg F 22 [2,5,6,26,27,28] (R22 6) L m Q:=Tq h
theorem G0 (h:Obt (aw Try.prog .lss 3 (.tmp 28) (.tmp 27) (ac L 28) (ac L 27)) λa0=>Q .normal ⟨tk L [2,5,6,26,27,28] [(29,a0)],m⟩):Rg F 22 [2,5,6,26,27,28,29] (R22 7) L m Q:=Tq h
theorem G1 (h:Obt (bd 10 (ac L 26) (ac L 28)) λa0=>Obt (ldA 10 m a0) λa1=>Obt (stX 10 (bw m 128 [.nil,.nil,.nil,.int .i64 0,.int .i64 0,.bool false,.int .i64 0,.int .i64 0,.int .i64 0,.int .i64 0]) (bo m 128) a1) λa2=>Q .normal ⟨tk L [2,5,6] ((8,(bo m 128))::tk L [26,27,28] []),a2⟩):Rg F 22 [2,5,6,8,26,27,28] (R22 8) L m Q:=Tq h
theorem G2 (h:Obt (aA 0 (ac L 8)) λa0=>Obt (ld1 m a0) λa1=>Obt (aA 3 (ac L 8)) λa2=>Obt (ldA 7 m a2) λa3=>Obt ((bg [.nil,.nil,.nil,.int .i64 0,.int .i64 0,.bool false,.int .i64 0,.int .i64 0,.int .i64 0,.int .i64 0] [(0,1,a1),(3,7,a3)]).map CV.agg) λa4=>Obt (stX 10 (bw m 144 [.nil,.nil,.nil,.int .i64 0,.int .i64 0,.bool false,.int .i64 0,.int .i64 0,.int .i64 0,.int .i64 0]) (bo m 144) a4) λa5=>Q .normal ⟨tk L [2,5,6,8] ((9,(bo m 144))::tk L [26,27,28] []),a5⟩):Rg F 22 [2,5,6,8,9,26,27,28] (R22 9) L m Q:=Tq h
theorem GB (h:Obt (aA 1 (ac L 8)) λa0=>Obt (ld1 m a0) λa1=>Obt (lenS a1) λa2=>Q .normal ⟨tk L [2,5,6,8,9,26,27,28] [(38,a1),(39,a2),(40,(.int .i64 0))],m⟩):Rg F 22 [2,5,6,8,9,26,27,28,38,39,40] (R22 10) L m Q:=Tq h
theorem GC (h:Obt (aw Try.prog .lss 3 (.tmp 40) (.tmp 39) (ac L 40) (ac L 39)) λa0=>Q .normal ⟨tk L [2,5,6,8,9,26,27,28,38,39,40] [(41,a0)],m⟩):Rg F 22 [2,5,6,8,9,26,27,28,38,39,40,41] (R22 11) L m Q:=Tq h
theorem GD (h:Obt (bd 2 (ac L 38) (ac L 40)) λa0=>Obt (ldA 2 m a0) λa1=>Obt (stX 2 (bw m 176 [.int .i64 0,.nil]) (bo m 176) a1) λa2=>Q .normal ⟨tk L [2,5,6,8,9] ((11,(bo m 176))::tk L [26,27,28,38,39,40] []),a2⟩):Rg F 22 [2,5,6,8,9,11,26,27,28,38,39,40] (R22 12) L m Q:=Tq h
theorem GE (h:Obt (aA 0 (ac L 11)) λa0=>Obt (ld1 m a0) λa1=>Obt (bd 1 (ac L 5) a1) λa2=>Obt (ld1 m a2) λa3=>Q .normal ⟨tk L [2,5,6,8,9,11,26,27,28,38,39,40] [(48,a3)],m⟩):Rg F 22 [2,5,6,8,9,11,26,27,28,38,39,40,48] (R22 13) L m Q:=Tq h
theorem GF (h:Obt (aA 1 (ac L 9)) λa0=>Obt (ld1 m a0) λa1=>Obt (ldA 2 m (ac L 11)) λa2=>Obt (be false 832 2 1 [.int .i64 0,.nil] [(0,2,a2)] m) λa3=>Obt (ej false 848 2 32 a1 a3.1 a3.2) λa4=>Obt (aA 1 (ac L 9)) λa5=>Obt (stX 1 a4.2 a5 a4.1) λa6=>Q .normal ⟨tk L [2,5,6,8,9,26,27,28,38,39,40] [],a6⟩):Rg F 22 [2,5,6,8,9,26,27,28,38,39,40] (R22 14) L m Q:=Tq h
theorem GG (h:Obt (aw Try.prog .add 3 (.tmp 40) (.const (.int .i64 1)) (ac L 40) (.int .i64 1)) λa0=>Q .normal ⟨tk L [2,5,6,8,9,26,27,28,38,39] [(40,a0)],m⟩):Rg F 22 [2,5,6,8,9,26,27,28,38,39,40] (R22 15) L m Q:=Tq h
theorem GH (h:Obt (aA 2 (ac L 8)) λa0=>Obt (ld1 m a0) λa1=>Obt (lenS a1) λa2=>Q .normal ⟨tk L [2,5,6,9,26,27,28] [(57,a1),(58,a2),(59,(.int .i64 0))],m⟩):Rg F 22 [2,5,6,9,26,27,28,57,58,59] (R22 16) L m Q:=Tq h
theorem GI (h:Obt (aw Try.prog .lss 3 (.tmp 59) (.tmp 58) (ac L 59) (ac L 58)) λa0=>Q .normal ⟨tk L [2,5,6,9,26,27,28,57,58,59] [(60,a0)],m⟩):Rg F 22 [2,5,6,9,26,27,28,57,58,59,60] (R22 17) L m Q:=Tq h
theorem GJ (h:Obt (bd 12 (ac L 57) (ac L 59)) λa0=>Obt (ldA 12 m a0) λa1=>Obt (stX 12 (bw m 208 [.int .i64 0,.int .i64 0,.int .i64 0,.bool false,.int .i64 0,.int .i64 0,.int .u64 0,.int .i64 0,.int .i64 0,.bool false,.nil,.int .i64 0]) (bo m 208) a1) λa2=>Q .normal ⟨tk L [2,5,6,9] ((13,(bo m 208))::tk L [26,27,28,57,58,59] []),a2⟩):Rg F 22 [2,5,6,9,13,26,27,28,57,58,59] (R22 18) L m Q:=Tq h
theorem GK (h:Obt (ldA 12 m (ac L 13)) λa0=>Obt (aB An F 22 (some 64) 53 [a0] m) λa1=>Obt (gW a1.1 false (ac L 5) a1.2) λa2=>Obt (gV a1.1 false (aA 1 (ac L 13)) a2.2) λa3=>Obt (gV a1.1 false (ld1 a3.2 a3.1) a3.2) λa4=>Obt (gV a1.1 false (bd 1 a2.1 a4.1) a4.2) λa5=>Obt (gV a1.1 false (ld1 a5.2 a5.1) a5.2) λa6=>Obt (aT a1.1 (.bool true) a6.1) λa7=>Q .normal ⟨tk L [2,5,6,9,13,26,27,28,57,58,59] [(71,a7)],a6.2⟩):Rg F 22 [2,5,6,9,13,26,27,28,57,58,59,71] (R22 19) L m Q:=Tq h
theorem GL (h:Obt (aA 2 (ac L 9)) λa0=>Obt (ld1 m a0) λa1=>Obt (ldA 12 m (ac L 13)) λa2=>Obt (be false 1200 12 1 [.int .i64 0,.int .i64 0,.int .i64 0,.bool false,.int .i64 0,.int .i64 0,.int .u64 0,.int .i64 0,.int .i64 0,.bool false,.nil,.int .i64 0] [(0,12,a2)] m) λa3=>Obt (ej false 1216 12 112 a1 a3.1 a3.2) λa4=>Obt (aA 2 (ac L 9)) λa5=>Obt (stX 1 a4.2 a5 a4.1) λa6=>Q .normal ⟨tk L [2,5,6,9,26,27,28,57,58,59] [],a6⟩):Rg F 22 [2,5,6,9,26,27,28,57,58,59] (R22 20) L m Q:=Tq h
theorem GM (h:Obt (aw Try.prog .add 3 (.tmp 59) (.const (.int .i64 1)) (ac L 59) (.int .i64 1)) λa0=>Q .normal ⟨tk L [2,5,6,9,26,27,28,57,58] [(59,a0)],m⟩):Rg F 22 [2,5,6,9,26,27,28,57,58,59] (R22 21) L m Q:=Tq h
theorem GN (h:Obt (aA 0 (ac L 6)) λa0=>Obt (ld1 m a0) λa1=>Obt (ldA 10 m (ac L 9)) λa2=>Obt (be false 1312 10 1 [.nil,.nil,.nil,.int .i64 0,.int .i64 0,.bool false,.int .i64 0,.int .i64 0,.int .i64 0,.int .i64 0] [(0,10,a2)] m) λa3=>Obt (ej false 1328 10 128 a1 a3.1 a3.2) λa4=>Obt (aA 0 (ac L 6)) λa5=>Obt (stX 1 a4.2 a5 a4.1) λa6=>Q .normal ⟨tk L [2,5,6,26,27,28] [],a6⟩):Rg F 22 [2,5,6,26,27,28] (R22 22) L m Q:=Tq h
theorem GO (h:Obt (aw Try.prog .add 3 (.tmp 28) (.const (.int .i64 1)) (ac L 28) (.int .i64 1)) λa0=>Q .normal ⟨tk L [2,5,6,26,27] [(28,a0)],m⟩):Rg F 22 [2,5,6,26,27,28] (R22 23) L m Q:=Tq h
theorem GP (h:Obt (ldA 2 m (ac L 6)) λa0=>Obt (stX 2 m (ac L 2) a0) λa1=>Q .normal ⟨tk L [2] [(3,(.int .i64 0))],a1⟩):Rg F 22 [2,3] (R22 24) L m Q:=Tq h
abbrev R24:=rg 24 Try.f24
def c24l0:SC:=
 (.seq (.seq (.reg false (some [3,4,5,20]) (R24 5)) (.cond (.tmp 20) .nop (.exit 0))) (.block 1 (.seq (.reg false (some [3,4,5,6]) (R24 6)) (.seq (.reg false (some [3,4,5,6]) (R24 7)) (.seq (.reg false (some [3,4,5,6,36]) (R24 8)) (.cond (.tmp 36) (.seq (.reg false (some [3,4,5,6]) (R24 9)) (.reg false (some [3,4,5]) (R24 10))) .nop))))))
def c24:SC:=
 (.seq (.reg false (some [1]) (R24 0)) (.seq (.seq (.reg false (some [1,9]) (R24 1)) (.cond (.tmp 9) (.seq (.reg false (some [2]) (R24 2)) .ret) .nop)) (.seq (.reg false (some [1,3]) (R24 3)) (.seq (.reg false (some [3,4,5]) (R24 4)) (.seq (.block 0 (.loop c24l0)) (.seq (.reg false (some [2]) (R24 11)) .ret))))))
theorem s24:Try.f24.body.bind (bh Try.prog An 24 Try.f24.ntmps)=some c24:=by kernel_rfl
theorem g24:An.glob 24=[]:=rfl
theorem r24:Try.f24.results.toList=[(.tmp 2)]:=by kernel_rfl
theorem HC (h:Obt (ap (ac L 0)) λa0=>Q .normal ⟨[(1,(bo m 16))],(bw m 16 a0)⟩):Rg F 24 [1] (R24 0) L m Q:=Tq h
theorem HD (h:Obt (ldA 2 m (ac L 1)) λa0=>Obt (aB An F 24 (some 8) 36 [a0] m) λa1=>Obt (aw Try.prog .neq 33 (.tmp 8) (.const (.int .i64 0)) a1.1 (.int .i64 0)) λa2=>Q .normal ⟨tk L [1] [(9,a2)],a1.2⟩):Rg F 24 [1,9] (R24 1) L m Q:=Tq h
theorem HF (h:Q .normal ⟨[(2,.nil)],m⟩):Rg F 24 [2] (R24 2) L m Q:=Tq h
theorem HG (h:Obt (aA 1 (ac L 1)) λa0=>Obt (ld1 m a0) λa1=>Obt (mkX false 192 1 1 [.bool false] a1 a1 m) λa2=>Q .normal ⟨tk L [1] [(3,a2.1)],a2.2⟩):Rg F 24 [1,3] (R24 3) L m Q:=Tq h
theorem HI (h:Obt (ldA 2 m (ac L 1)) λa0=>Obt (aB An F 24 (some 15) 55 [a0] m) λa1=>Obt (cV 0 a1.1) λa2=>Obt (cV 1 a1.1) λa3=>Q .normal ⟨tk L [3] [(4,a2),(5,a3)],a1.2⟩):Rg F 24 [3,4,5] (R24 4) L m Q:=Tq h
theorem HJ (h:Obt (lenS (ac L 5)) λa0=>Obt (aw Try.prog .gtr 3 (.tmp 19) (.const (.int .i64 0)) a0 (.int .i64 0)) λa1=>Q .normal ⟨tk L [3,4,5] [(20,a1)],m⟩):Rg F 24 [3,4,5,20] (R24 5) L m Q:=Tq h
theorem HK (h:Obt (lenS (ac L 5)) λa0=>Obt (aw Try.prog .sub 3 (.tmp 23) (.const (.int .i64 1)) a0 (.int .i64 1)) λa1=>Obt (bd 1 (ac L 5) a1) λa2=>Obt (ld1 m a2) λa3=>Q .normal ⟨tk L [3,4,5] [(6,a3)],m⟩):Rg F 24 [3,4,5,6] (R24 6) L m Q:=Tq h
theorem HL (h:Obt (lenS (ac L 5)) λa0=>Obt (aw Try.prog .sub 3 (.tmp 29) (.const (.int .i64 1)) a0 (.int .i64 1)) λa1=>Obt (sJ 1 (ac L 5) none (some a1) none m) λa2=>Q .normal ⟨tk L [3,4] ((5,a2)::tk L [6] []),m⟩):Rg F 24 [3,4,5,6] (R24 7) L m Q:=Tq h
theorem HM (h:Obt (bd 1 (ac L 3) (ac L 6)) λa0=>Obt (ld1 m a0) λa1=>Obt (cun .not a1) λa2=>Q .normal ⟨tk L [3,4,5,6] [(36,a2)],m⟩):Rg F 24 [3,4,5,6,36] (R24 8) L m Q:=Tq h
theorem HN (h:Obt (bd 1 (ac L 3) (ac L 6)) λa0=>Obt (stX 1 m a0 (.bool true)) λa1=>Q .normal ⟨tk L [3,4,5,6] [],a1⟩):Rg F 24 [3,4,5,6] (R24 9) L m Q:=Tq h
theorem Hj (h:Obt (gK Try.prog 3 (.nil) (ac L 4) (ac L 6) false m) λa0=>Obt (ej false 704 1 8 (ac L 5) a0 m) λa1=>Q .normal ⟨tk L [3,4] [(5,a1.1)],a1.2⟩):Rg F 24 [3,4,5] (R24 10) L m Q:=Tq h
theorem Hk (h:Q .normal ⟨[(2,(ac L 3))],m⟩):Rg F 24 [2] (R24 11) L m Q:=Tq h
abbrev R26:=rg 26 Try.f26
def c26l0:SC:=
 (.seq (.reg false (some [3,7,8,9,10]) (R26 3)) (.seq (.cond (.tmp 10) .nop (.exit 0)) (.seq (.block 1 (.seq (.reg false (some [3,5,7,8,9]) (R26 4)) (.reg false (some [3,7,8,9]) (R26 5)))) (.reg false (some [3,7,8,9]) (R26 6)))))
def c26:SC:=
 (.seq (.reg false (some [1]) (R26 0)) (.seq (.reg false (some [1,3]) (R26 1)) (.seq (.seq (.reg false (some [3,7,8,9]) (R26 2)) (.block 0 (.loop c26l0))) (.seq (.reg false (some [2]) (R26 7)) .ret))))
theorem s26:Try.f26.body.bind (bh Try.prog An 26 Try.f26.ntmps)=some c26:=by kernel_rfl
theorem g26:An.glob 26=[]:=rfl
theorem r26:Try.f26.results.toList=[(.tmp 2)]:=by kernel_rfl
theorem t26r0 (h:Obt (ap (ac L 0)) λa0=>Q .normal ⟨[(1,(bo m 16))],(bw m 16 a0)⟩):Rg F 26 [1] (R26 0) L m Q:=Tq h
theorem t26r1 (h:Q .normal ⟨tk L [1] [(3,(.int .i64 0))],m⟩):Rg F 26 [1,3] (R26 1) L m Q:=Tq h
theorem t26r2 (h:Obt (aA 0 (ac L 1)) λa0=>Obt (ld1 m a0) λa1=>Obt (lenS a1) λa2=>Q .normal ⟨tk L [3] [(7,a1),(8,a2),(9,(.int .i64 0))],m⟩):Rg F 26 [3,7,8,9] (R26 2) L m Q:=Tq h
theorem t26r3 (h:Obt (aw Try.prog .lss 3 (.tmp 9) (.tmp 8) (ac L 9) (ac L 8)) λa0=>Q .normal ⟨tk L [3,7,8,9] [(10,a0)],m⟩):Rg F 26 [3,7,8,9,10] (R26 3) L m Q:=Tq h
theorem t26r4 (h:Obt (bd 10 (ac L 7) (ac L 9)) λa0=>Obt (ldA 10 m a0) λa1=>Obt (stX 10 (bw m 80 [.nil,.nil,.nil,.int .i64 0,.int .i64 0,.bool false,.int .i64 0,.int .i64 0,.int .i64 0,.int .i64 0]) (bo m 80) a1) λa2=>Q .normal ⟨tk L [3] ((5,(bo m 80))::tk L [7,8,9] []),a2⟩):Rg F 26 [3,5,7,8,9] (R26 4) L m Q:=Tq h
theorem t26r5 (h:Obt (aA 1 (ac L 5)) λa0=>Obt (ld1 m a0) λa1=>Obt (lenS a1) λa2=>Obt (aA 2 (ac L 5)) λa3=>Obt (ld1 m a3) λa4=>Obt (lenS a4) λa5=>Obt (aw Try.prog .add 3 (.tmp 16) (.tmp 19) a2 a5) λa6=>Obt (aw Try.prog .add 3 (.tmp 13) (.tmp 20) (ac L 3) a6) λa7=>Q .normal ⟨(3,a7)::tk L [7,8,9] [],m⟩):Rg F 26 [3,7,8,9] (R26 5) L m Q:=Tq h
theorem t26r6 (h:Obt (aw Try.prog .add 3 (.tmp 9) (.const (.int .i64 1)) (ac L 9) (.int .i64 1)) λa0=>Q .normal ⟨tk L [3,7,8] [(9,a0)],m⟩):Rg F 26 [3,7,8,9] (R26 6) L m Q:=Tq h
theorem t26r7 (h:Q .normal ⟨[(2,(ac L 3))],m⟩):Rg F 26 [2] (R26 7) L m Q:=Tq h
abbrev R53:=rg 53 Try.f53
def c53:SC:=
 (.seq (.reg false (some [1]) (R53 0)) (.seq (.reg false (some [2]) (R53 1)) .ret))
theorem s53:Try.f53.body.bind (bh Try.prog An 53 Try.f53.ntmps)=some c53:=by kernel_rfl
theorem g53:An.glob 53=[]:=rfl
theorem r53:Try.f53.results.toList=[(.tmp 2)]:=by kernel_rfl
theorem Is (h:Obt (ap (ac L 0)) λa0=>Q .normal ⟨[(1,(bo m 16))],(bw m 16 a0)⟩):Rg F 53 [1] (R53 0) L m Q:=Tq h
theorem It (h:Obt (aA 0 (ac L 1)) λa0=>Obt (ld1 m a0) λa1=>Obt (aw Try.prog .eql 64 (.tmp 4) (.const (.int .i64 6)) a1 (.int .i64 6)) λa2=>Obt (gV a2 false (aA 0 (ac L 1)) m) λa3=>Obt (gV a2 false (ld1 a3.2 a3.1) a3.2) λa4=>Obt (gV a2 false (aw Try.prog .eql 64 (.tmp 8) (.const (.int .i64 7)) a4.1 (.int .i64 7)) a4.2) λa5=>Obt (aT a2 (.bool true) a5.1) λa6=>Obt (gV a6 false (aA 0 (ac L 1)) a5.2) λa7=>Obt (gV a6 false (ld1 a7.2 a7.1) a7.2) λa8=>Obt (gV a6 false (aw Try.prog .eql 64 (.tmp 13) (.const (.int .i64 5)) a8.1 (.int .i64 5)) a8.2) λa9=>Obt (gW a6 false a9.1 a9.2) λa10=>Obt (gV a10.1 true (aA 9 (ac L 1)) a10.2) λa11=>Obt (gV a10.1 true (ld1 a11.2 a11.1) a11.2) λa12=>Obt (gV a6 false (aT a10.1 a12.1 (.bool false)) a12.2) λa13=>Obt (aT a6 (.bool true) a13.1) λa14=>Q .normal ⟨[(2,a14)],a13.2⟩):Rg F 53 [2] (R53 1) L m Q:=Tq h
abbrev R55:=rg 55 Try.f55
def c55l0:SC:=
 (.seq (.reg false (some [4,5,7,14,15,16,21,22,23,24]) (R55 7)) (.seq (.cond (.tmp 24) .nop (.exit 2)) (.seq (.block 3 (.seq (.reg false (some [4,5,7,9,14,15,16,21,22,23]) (R55 8)) (.reg false (some [4,5,7,14,15,16,21,22,23]) (R55 9)))) (.reg false (some [4,5,7,14,15,16,21,22,23]) (R55 10)))))
def c55l1:SC:=
 (.seq (.reg false (some [4,5,7,14,15,16,34,35,36,37]) (R55 12)) (.seq (.cond (.tmp 37) .nop (.exit 4)) (.seq (.block 5 (.seq (.reg false (some [4,5,7,11,14,15,16,34,35,36]) (R55 13)) (.seq (.seq (.reg false (some [4,5,7,11,14,15,16,34,35,36,42]) (R55 14)) (.cond (.tmp 42) (.reg false (some [4,5,7,11,14,15,16,34,35,36]) (R55 15)) .nop)) (.seq (.reg false (some [4,5,7,11,14,15,16,34,35,36,49]) (R55 16)) (.cond (.tmp 49) (.reg false (some [4,5,7,14,15,16,34,35,36]) (R55 17)) .nop))))) (.reg false (some [4,5,7,14,15,16,34,35,36]) (R55 18)))))
def c55l2:SC:=
 (.seq (.reg false (some [4,5,14,15,16,17]) (R55 4)) (.seq (.cond (.tmp 17) .nop (.exit 0)) (.seq (.block 1 (.seq (.reg false (some [4,5,7,14,15,16]) (R55 5)) (.seq (.seq (.reg false (some [4,5,7,14,15,16,21,22,23]) (R55 6)) (.block 2 (.loop c55l0))) (.seq (.seq (.reg false (some [4,5,7,14,15,16,34,35,36]) (R55 11)) (.block 4 (.loop c55l1))) (.seq (.reg false (some [4,5,7,14,15,16,57]) (R55 19)) (.block 6 (.seq (.reg false (some [4,5,7,14,15,16,57,58]) (R55 20)) (.cond (.tmp 58) (.reg false (some [4,5,14,15,16]) (R55 21)) (.seq (.reg false (some [4,5,7,14,15,16,69]) (R55 22)) (.cond (.tmp 69) (.reg false (some [4,5,14,15,16]) (R55 23)) .nop)))))))))) (.reg false (some [4,5,14,15,16]) (R55 24)))))
def c55:SC:=
 (.seq (.reg false (some [1]) (R55 0)) (.seq (.reg false (some [1,4]) (R55 1)) (.seq (.reg false (some [1,4,5]) (R55 2)) (.seq (.seq (.reg false (some [4,5,14,15,16]) (R55 3)) (.block 0 (.loop c55l2))) (.seq (.reg false (some [2,3]) (R55 25)) .ret)))))
theorem s55:Try.f55.body.bind (bh Try.prog An 55 Try.f55.ntmps)=some c55:=by kernel_rfl
theorem g55:An.glob 55=[12]:=rfl
theorem r55:Try.f55.results.toList=[(.tmp 2),(.tmp 3)]:=by kernel_rfl
theorem t55r0 (h:Obt (ap (ac L 0)) λa0=>Q .normal ⟨[(1,(bo m 16))],(bw m 16 a0)⟩):Rg F 55 [1] (R55 0) L m Q:=Tq h
theorem t55r1 (h:Q .normal ⟨tk L [1] [(4,(md m))],(jJ m)⟩):Rg F 55 [1,4] (R55 1) L m Q:=Tq h
theorem t55r2 (h:Q .normal ⟨tk L [1,4] [(5,.nil)],m⟩):Rg F 55 [1,4,5] (R55 2) L m Q:=Tq h
theorem t55r3 (h:Obt (aA 0 (ac L 1)) λa0=>Obt (ld1 m a0) λa1=>Obt (lenS a1) λa2=>Q .normal ⟨tk L [4,5] [(14,a1),(15,a2),(16,(.int .i64 0))],m⟩):Rg F 55 [4,5,14,15,16] (R55 3) L m Q:=Tq h
theorem t55r4 (h:Obt (aw Try.prog .lss 3 (.tmp 16) (.tmp 15) (ac L 16) (ac L 15)) λa0=>Q .normal ⟨tk L [4,5,14,15,16] [(17,a0)],m⟩):Rg F 55 [4,5,14,15,16,17] (R55 4) L m Q:=Tq h
theorem t55r5 (h:Obt (bd 10 (ac L 14) (ac L 16)) λa0=>Obt (ldA 10 m a0) λa1=>Obt (stX 10 (bw m 112 [.nil,.nil,.nil,.int .i64 0,.int .i64 0,.bool false,.int .i64 0,.int .i64 0,.int .i64 0,.int .i64 0]) (bo m 112) a1) λa2=>Q .normal ⟨tk L [4,5] ((7,(bo m 112))::tk L [14,15,16] []),a2⟩):Rg F 55 [4,5,7,14,15,16] (R55 5) L m Q:=Tq h
theorem t55r6 (h:Obt (aA 1 (ac L 7)) λa0=>Obt (ld1 m a0) λa1=>Obt (lenS a1) λa2=>Q .normal ⟨tk L [4,5,7,14,15,16] [(21,a1),(22,a2),(23,(.int .i64 0))],m⟩):Rg F 55 [4,5,7,14,15,16,21,22,23] (R55 6) L m Q:=Tq h
theorem t55r7 (h:Obt (aw Try.prog .lss 3 (.tmp 23) (.tmp 22) (ac L 23) (ac L 22)) λa0=>Q .normal ⟨tk L [4,5,7,14,15,16,21,22,23] [(24,a0)],m⟩):Rg F 55 [4,5,7,14,15,16,21,22,23,24] (R55 7) L m Q:=Tq h
theorem t55r8 (h:Obt (bd 2 (ac L 21) (ac L 23)) λa0=>Obt (ldA 2 m a0) λa1=>Obt (stX 2 (bw m 144 [.int .i64 0,.nil]) (bo m 144) a1) λa2=>Q .normal ⟨tk L [4,5,7] ((9,(bo m 144))::tk L [14,15,16,21,22,23] []),a2⟩):Rg F 55 [4,5,7,9,14,15,16,21,22,23] (R55 8) L m Q:=Tq h
theorem t55r9 (h:Obt (aA 0 (ac L 9)) λa0=>Obt (ld1 m a0) λa1=>Obt (aA 1 (ac L 9)) λa2=>Obt (ld1 m a2) λa3=>Obt (mB Try.prog 3 (ac L 4) a1 a3 m) λa4=>Q .normal ⟨tk L [4,5,7,14,15,16,21,22,23] [],a4⟩):Rg F 55 [4,5,7,14,15,16,21,22,23] (R55 9) L m Q:=Tq h
theorem t55r10 (h:Obt (aw Try.prog .add 3 (.tmp 23) (.const (.int .i64 1)) (ac L 23) (.int .i64 1)) λa0=>Q .normal ⟨tk L [4,5,7,14,15,16,21,22] [(23,a0)],m⟩):Rg F 55 [4,5,7,14,15,16,21,22,23] (R55 10) L m Q:=Tq h
theorem t55r11 (h:Obt (aA 2 (ac L 7)) λa0=>Obt (ld1 m a0) λa1=>Obt (lenS a1) λa2=>Q .normal ⟨tk L [4,5,7,14,15,16] [(34,a1),(35,a2),(36,(.int .i64 0))],m⟩):Rg F 55 [4,5,7,14,15,16,34,35,36] (R55 11) L m Q:=Tq h
theorem HP (h:Obt (aw Try.prog .lss 3 (.tmp 36) (.tmp 35) (ac L 36) (ac L 35)) λa0=>Q .normal ⟨tk L [4,5,7,14,15,16,34,35,36] [(37,a0)],m⟩):Rg F 55 [4,5,7,14,15,16,34,35,36,37] (R55 12) L m Q:=Tq h
theorem Jk (h:Obt (bd 12 (ac L 34) (ac L 36)) λa0=>Obt (ldA 12 m a0) λa1=>Obt (stX 12 (bw m 176 [.int .i64 0,.int .i64 0,.int .i64 0,.bool false,.int .i64 0,.int .i64 0,.int .u64 0,.int .i64 0,.int .i64 0,.bool false,.nil,.int .i64 0]) (bo m 176) a1) λa2=>Q .normal ⟨tk L [4,5,7] ((11,(bo m 176))::tk L [14,15,16,34,35,36] []),a2⟩):Rg F 55 [4,5,7,11,14,15,16,34,35,36] (R55 13) L m Q:=Tq h
theorem Jl (h:Obt (aA 0 (ac L 11)) λa0=>Obt (ld1 m a0) λa1=>Obt (aw Try.prog .neq 64 (.tmp 41) (.const (.int .i64 6)) a1 (.int .i64 6)) λa2=>Q .normal ⟨tk L [4,5,7,11,14,15,16,34,35,36] [(42,a2)],m⟩):Rg F 55 [4,5,7,11,14,15,16,34,35,36,42] (R55 14) L m Q:=Tq h
theorem t55r15 (h:Obt (aA 1 (ac L 11)) λa0=>Obt (n6 [(true,47)] a0 ((ld1 m a0).map λv=>(v,m))) λa1=>Obt (ldA 12 a1.2 (ac L 11)) λa2=>Obt (aB An F 55 (some 47) 79 [a2] a1.2) λa3=>Obt (mB Try.prog 3 (ac L 4) a1.1 a3.1 a3.2) λa4=>Q .normal ⟨tk L [4,5,7,11,14,15,16,34,35,36] [],a4⟩):Rg F 55 [4,5,7,11,14,15,16,34,35,36] (R55 15) L m Q:=Tq h
theorem Ie (h:Obt (ldA 12 m (ac L 11)) λa0=>Obt (aB An F 55 (some 49) 53 [a0] m) λa1=>Q .normal ⟨tk L [4,5,7,11,14,15,16,34,35,36] [(49,a1.1)],a1.2⟩):Rg F 55 [4,5,7,11,14,15,16,34,35,36,49] (R55 16) L m Q:=Tq h
theorem Jm (h:Obt (ldA 12 m (ac L 11)) λa0=>Obt (aB An F 55 (some 52) 79 [a0] m) λa1=>Obt (ej false 848 1 8 (ac L 5) a1.1 a1.2) λa2=>Q .normal ⟨tk L [4] ((5,a2.1)::tk L [7,14,15,16,34,35,36] []),a2.2⟩):Rg F 55 [4,5,7,14,15,16,34,35,36] (R55 17) L m Q:=Tq h
theorem If (h:Obt (aw Try.prog .add 3 (.tmp 36) (.const (.int .i64 1)) (ac L 36) (.int .i64 1)) λa0=>Q .normal ⟨tk L [4,5,7,14,15,16,34,35] [(36,a0)],m⟩):Rg F 55 [4,5,7,14,15,16,34,35,36] (R55 18) L m Q:=Tq h
theorem Ig (h:Obt (aA 3 (ac L 7)) λa0=>Obt (aA 0 a0) λa1=>Obt (ld1 m a1) λa2=>Q .normal ⟨tk L [4,5,7,14,15,16] [(57,a2)],m⟩):Rg F 55 [4,5,7,14,15,16,57] (R55 19) L m Q:=Tq h
theorem Ih (h:Obt (aw Try.prog .eql 54 (.tmp 57) (.const (.int .i64 2)) (ac L 57) (.int .i64 2)) λa0=>Q .normal ⟨tk L [4,5,7,14,15,16,57] [(58,a0)],m⟩):Rg F 55 [4,5,7,14,15,16,57,58] (R55 20) L m Q:=Tq h
theorem t55r21 (h:Obt (aA 3 (ac L 7)) λa0=>Obt (aA 3 a0) λa1=>Obt (ld1 m a1) λa2=>Obt (aA 3 (ac L 7)) λa3=>Obt (aA 4 a3) λa4=>Obt (ld1 m a4) λa5=>Obt (be false 1072 1 2 [.int .i64 0,.int .i64 0] [(0,1,a2),(1,1,a5)] m) λa6=>Obt (ej false 1088 1 8 (ac L 5) a6.1 a6.2) λa7=>Q .normal ⟨tk L [4] ((5,a7.1)::tk L [14,15,16] []),a7.2⟩):Rg F 55 [4,5,14,15,16] (R55 21) L m Q:=Tq h
theorem Jn (h:Obt (aw Try.prog .eql 54 (.tmp 57) (.const (.int .i64 3)) (ac L 57) (.int .i64 3)) λa0=>Q .normal ⟨tk L [4,5,7,14,15,16] [(69,a0)],m⟩):Rg F 55 [4,5,7,14,15,16,69] (R55 22) L m Q:=Tq h
theorem t55r23 (h:Obt (aA 3 (ac L 7)) λa0=>Obt (aA 3 a0) λa1=>Obt (ld1 m a1) λa2=>Obt (be false 1200 1 1 [.int .i64 0] [(0,1,a2)] m) λa3=>Obt (ej false 1216 1 8 (ac L 5) a3.1 a3.2) λa4=>Q .normal ⟨tk L [4] ((5,a4.1)::tk L [14,15,16] []),a4.2⟩):Rg F 55 [4,5,14,15,16] (R55 23) L m Q:=Tq h
theorem Ii (h:Obt (aw Try.prog .add 3 (.tmp 16) (.const (.int .i64 1)) (ac L 16) (.int .i64 1)) λa0=>Q .normal ⟨tk L [4,5,14,15] [(16,a0)],m⟩):Rg F 55 [4,5,14,15,16] (R55 24) L m Q:=Tq h
theorem t55r25 (h:Q .normal ⟨[(2,(ac L 4)),(3,(ac L 5))],m⟩):Rg F 55 [2,3] (R55 25) L m Q:=Tq h
abbrev R23:=rg 23 Try.f23
def c23l0:SC:=
 (.seq (.seq (.reg false (some [1,2,4,5,6,7,8,9,41]) (R23 11)) (.cond (.tmp 41) .nop (.exit 2))) (.seq (.block 3 (.seq (.reg false (some [1,2,4,5,6,7,8,9,52]) (R23 13)) (.cond (.tmp 52) (.reg false (some [1,2,4,5,6,7,8,9]) (R23 14)) .nop))) (.reg false (some [1,2,4,5,6,7,8,9]) (R23 12))))
def c23l1:SC:=
 (.seq (.seq (.reg false (some [1,2,4,5,6,7,8,10,67]) (R23 16)) (.cond (.tmp 67) .nop (.exit 4))) (.seq (.block 5 (.seq (.reg false (some [1,2,4,5,6,7,8,10,86]) (R23 18)) (.cond (.tmp 86) (.reg false (some [1,2,4,5,6,7,8,10]) (R23 19)) .nop))) (.reg false (some [1,2,4,5,6,7,8,10]) (R23 17))))
def c23l2:SC:=
 (.seq (.seq (.reg false (some [1,2,4,5,6,24]) (R23 6)) (.cond (.tmp 24) .nop (.exit 0))) (.seq (.block 1 (.seq (.reg false (some [1,2,4,5,6,7]) (R23 8)) (.seq (.reg false (some [1,2,4,5,6,7,8]) (R23 9)) (.seq (.seq (.reg false (some [1,2,4,5,6,7,8,9]) (R23 10)) (.block 2 (.loop c23l0))) (.seq (.seq (.reg false (some [1,2,4,5,6,7,8,10]) (R23 15)) (.block 4 (.loop c23l1))) (.reg false (some [1,2,4,5,6]) (R23 20))))))) (.reg false (some [1,2,4,5,6]) (R23 7))))
def c23:SC:=
 (.seq (.reg false (some [1,2]) (R23 0)) (.seq (.seq (.reg false (some [1,2,13]) (R23 1)) (.cond (.tmp 13) (.seq (.reg false (some [2,3]) (R23 2)) .ret) .nop)) (.seq (.reg false (some [1,2,4]) (R23 3)) (.seq (.reg false (some [1,2,4,5]) (R23 4)) (.seq (.seq (.reg false (some [1,2,4,5,6]) (R23 5)) (.block 0 (.loop c23l2))) (.seq (.reg false (some [2,3]) (R23 21)) .ret))))))
theorem s23:Try.f23.body.bind (bh Try.prog An 23 Try.f23.ntmps)=some c23:=by kernel_rfl
theorem g23:An.glob 23=[]:=rfl
theorem r23:Try.f23.results.toList=[(.cell 2 29),(.tmp 3)]:=by kernel_rfl
theorem t23r0 (h:Obt (ap (ac L 0)) λa0=>Q .normal ⟨[(1,(bo m 16)),(2,(bo (bw m 16 a0) 32))],(bw (bw m 16 a0) 32 [.nil,.int .i64 0])⟩):Rg F 23 [1,2] (R23 0) L m Q:=Tq h
theorem t23r1 (h:Obt (ldA 2 m (ac L 1)) λa0=>Obt (aB An F 23 (some 12) 16 [a0] m) λa1=>Obt (aw Try.prog .neq 3 (.tmp 12) (.const (.int .i64 0)) a1.1 (.int .i64 0)) λa2=>Q .normal ⟨tk L [1,2] [(13,a2)],a1.2⟩):Rg F 23 [1,2,13] (R23 1) L m Q:=Tq h
theorem t23r2 (h:Obt ((bg [.nil,.int .i64 0] []).map CV.agg) λa0=>Obt (stX 2 m (ac L 2) a0) λa1=>Q .normal ⟨tk L [2] [(3,(.int .i64 160))],a1⟩):Rg F 23 [2,3] (R23 2) L m Q:=Tq h
theorem t23r3 (h:Obt (ldA 2 m (ac L 1)) λa0=>Obt (aB An F 23 (some 16) 25 [a0] m) λa1=>Q .normal ⟨tk L [1,2] [(4,a1.1)],a1.2⟩):Rg F 23 [1,2,4] (R23 3) L m Q:=Tq h
theorem t23r4 (h:Obt (aA 1 (ac L 1)) λa0=>Obt (ld1 m a0) λa1=>Obt ((bg [.nil,.int .i64 0] [(1,1,a1)]).map CV.agg) λa2=>Obt (stX 2 (bw m 80 [.nil,.int .i64 0]) (bo m 80) a2) λa3=>Q .normal ⟨tk L [1,2,4] [(5,(bo m 80))],a3⟩):Rg F 23 [1,2,4,5] (R23 4) L m Q:=Tq h
theorem t23r5 (h:Q .normal ⟨tk L [1,2,4,5] [(6,(.int .i64 0))],m⟩):Rg F 23 [1,2,4,5,6] (R23 5) L m Q:=Tq h
theorem t23r6 (h:Obt (aA 0 (ac L 1)) λa0=>Obt (ld1 m a0) λa1=>Obt (lenS a1) λa2=>Obt (aw Try.prog .lss 3 (.tmp 20) (.tmp 23) (ac L 6) a2) λa3=>Q .normal ⟨tk L [1,2,4,5,6] [(24,a3)],m⟩):Rg F 23 [1,2,4,5,6,24] (R23 6) L m Q:=Tq h
theorem t23r8 (h:Obt (aA 0 (ac L 1)) λa0=>Obt (ld1 m a0) λa1=>Obt (bd 10 a1 (ac L 6)) λa2=>Obt (ldA 10 m a2) λa3=>Obt (stX 10 (bw m 112 [.nil,.nil,.nil,.int .i64 0,.int .i64 0,.bool false,.int .i64 0,.int .i64 0,.int .i64 0,.int .i64 0]) (bo m 112) a3) λa4=>Q .normal ⟨tk L [1,2,4,5,6] [(7,(bo m 112))],a4⟩):Rg F 23 [1,2,4,5,6,7] (R23 8) L m Q:=Tq h
theorem t23r9 (h:Obt (aA 0 (ac L 7)) λa0=>Obt (ld1 m a0) λa1=>Obt (aA 3 (ac L 7)) λa2=>Obt (ldA 7 m a2) λa3=>Obt ((bg [.nil,.nil,.nil,.int .i64 0,.int .i64 0,.bool false,.int .i64 0,.int .i64 0,.int .i64 0,.int .i64 0] [(0,1,a1),(3,7,a3)]).map CV.agg) λa4=>Obt (stX 10 (bw m 128 [.nil,.nil,.nil,.int .i64 0,.int .i64 0,.bool false,.int .i64 0,.int .i64 0,.int .i64 0,.int .i64 0]) (bo m 128) a4) λa5=>Q .normal ⟨tk L [1,2,4,5,6,7] [(8,(bo m 128))],a5⟩):Rg F 23 [1,2,4,5,6,7,8] (R23 9) L m Q:=Tq h
theorem t23r10 (h:Q .normal ⟨tk L [1,2,4,5,6,7,8] [(9,(.int .i64 0))],m⟩):Rg F 23 [1,2,4,5,6,7,8,9] (R23 10) L m Q:=Tq h
theorem J0 (h:Obt (aA 1 (ac L 7)) λa0=>Obt (ld1 m a0) λa1=>Obt (lenS a1) λa2=>Obt (aw Try.prog .lss 3 (.tmp 37) (.tmp 40) (ac L 9) a2) λa3=>Q .normal ⟨tk L [1,2,4,5,6,7,8,9] [(41,a3)],m⟩):Rg F 23 [1,2,4,5,6,7,8,9,41] (R23 11) L m Q:=Tq h
theorem Ke (h:Obt (aA 1 (ac L 7)) λa0=>Obt (ld1 m a0) λa1=>Obt (bd 2 a1 (ac L 9)) λa2=>Obt (aA 0 a2) λa3=>Obt (ld1 m a3) λa4=>Obt (bd 1 (ac L 4) a4) λa5=>Obt (ld1 m a5) λa6=>Q .normal ⟨tk L [1,2,4,5,6,7,8,9] [(52,a6)],m⟩):Rg F 23 [1,2,4,5,6,7,8,9,52] (R23 13) L m Q:=Tq h
theorem t23r14 (h:Obt (aA 1 (ac L 8)) λa0=>Obt (n6 [(true,60)] a0 ((ld1 m a0).map λv=>(v,m))) λa1=>Obt (aA 1 (ac L 7)) λa2=>Obt (ld1 a1.2 a2) λa3=>Obt (bd 2 a3 (ac L 9)) λa4=>Obt (ldA 2 a1.2 a4) λa5=>Obt (be false 960 2 1 [.int .i64 0,.nil] [(0,2,a5)] a1.2) λa6=>Obt (qQ [(true,54)] a1.1 (qR [(true,54)] a6.2 (ej false 976 2 32 a1.1 a6.1 a6.2))) λa7=>Obt (aA 1 (ac L 8)) λa8=>Obt (stX 1 a7.2 a8 a7.1) λa9=>Q .normal ⟨tk L [1,2,4,5,6,7,8,9] [],a9⟩):Rg F 23 [1,2,4,5,6,7,8,9] (R23 14) L m Q:=Tq h
theorem Kd (h:Obt (aw Try.prog .add 3 (.tmp 42) (.const (.int .i64 1)) (ac L 9) (.int .i64 1)) λa0=>Q .normal ⟨tk L [1,2,4,5,6,7,8] [(9,a0)],m⟩):Rg F 23 [1,2,4,5,6,7,8,9] (R23 12) L m Q:=Tq h
theorem t23r15 (h:Q .normal ⟨tk L [1,2,4,5,6,7,8] [(10,(.int .i64 0))],m⟩):Rg F 23 [1,2,4,5,6,7,8,10] (R23 15) L m Q:=Tq h
theorem JT (h:Obt (aA 2 (ac L 7)) λa0=>Obt (ld1 m a0) λa1=>Obt (lenS a1) λa2=>Obt (aw Try.prog .lss 3 (.tmp 63) (.tmp 66) (ac L 10) a2) λa3=>Q .normal ⟨tk L [1,2,4,5,6,7,8,10] [(67,a3)],m⟩):Rg F 23 [1,2,4,5,6,7,8,10,67] (R23 16) L m Q:=Tq h
theorem J2 (h:Obt (aA 2 (ac L 7)) λa0=>Obt (ld1 m a0) λa1=>Obt (bd 12 a1 (ac L 10)) λa2=>Obt (ldA 12 m a2) λa3=>Obt (aB An F 23 (some 75) 54 [a3] m) λa4=>Obt (gW a4.1 false (ac L 4) a4.2) λa5=>Obt (gV a4.1 false (aA 2 (ac L 7)) a5.2) λa6=>Obt (gV a4.1 false (ld1 a6.2 a6.1) a6.2) λa7=>Obt (gW a4.1 false (ac L 10) a7.2) λa8=>Obt (gV a4.1 false (bd 12 a7.1 a8.1) a8.2) λa9=>Obt (gV a4.1 false (aA 1 a9.1) a9.2) λa10=>Obt (gV a4.1 false (ld1 a10.2 a10.1) a10.2) λa11=>Obt (gV a4.1 false (bd 1 a5.1 a11.1) a11.2) λa12=>Obt (gV a4.1 false (ld1 a12.2 a12.1) a12.2) λa13=>Obt (aT a4.1 (.bool true) a13.1) λa14=>Q .normal ⟨tk L [1,2,4,5,6,7,8,10] [(86,a14)],a13.2⟩):Rg F 23 [1,2,4,5,6,7,8,10,86] (R23 18) L m Q:=Tq h
theorem Kf (h:Obt (aA 2 (ac L 8)) λa0=>Obt (n6 [(true,94)] a0 ((ld1 m a0).map λv=>(v,m))) λa1=>Obt (aA 2 (ac L 7)) λa2=>Obt (ld1 a1.2 a2) λa3=>Obt (bd 12 a3 (ac L 10)) λa4=>Obt (ldA 12 a1.2 a4) λa5=>Obt (be false 1504 12 1 [.int .i64 0,.int .i64 0,.int .i64 0,.bool false,.int .i64 0,.int .i64 0,.int .u64 0,.int .i64 0,.int .i64 0,.bool false,.nil,.int .i64 0] [(0,12,a5)] a1.2) λa6=>Obt (qQ [(true,88)] a1.1 (qR [(true,88)] a6.2 (ej false 1520 12 112 a1.1 a6.1 a6.2))) λa7=>Obt (aA 2 (ac L 8)) λa8=>Obt (stX 1 a7.2 a8 a7.1) λa9=>Q .normal ⟨tk L [1,2,4,5,6,7,8,10] [],a9⟩):Rg F 23 [1,2,4,5,6,7,8,10] (R23 19) L m Q:=Tq h
theorem J1 (h:Obt (aw Try.prog .add 3 (.tmp 68) (.const (.int .i64 1)) (ac L 10) (.int .i64 1)) λa0=>Q .normal ⟨tk L [1,2,4,5,6,7,8] [(10,a0)],m⟩):Rg F 23 [1,2,4,5,6,7,8,10] (R23 17) L m Q:=Tq h
theorem t23r20 (h:Obt (aA 0 (ac L 5)) λa0=>Obt (ld1 m a0) λa1=>Obt (ldA 10 m (ac L 8)) λa2=>Obt (be false 1600 10 1 [.nil,.nil,.nil,.int .i64 0,.int .i64 0,.bool false,.int .i64 0,.int .i64 0,.int .i64 0,.int .i64 0] [(0,10,a2)] m) λa3=>Obt (ej false 1616 10 128 a1 a3.1 a3.2) λa4=>Obt (aA 0 (ac L 5)) λa5=>Obt (stX 1 a4.2 a5 a4.1) λa6=>Q .normal ⟨tk L [1,2,4,5,6] [],a6⟩):Rg F 23 [1,2,4,5,6] (R23 20) L m Q:=Tq h
theorem t23r7 (h:Obt (aw Try.prog .add 3 (.tmp 25) (.const (.int .i64 1)) (ac L 6) (.int .i64 1)) λa0=>Q .normal ⟨tk L [1,2,4,5] [(6,a0)],m⟩):Rg F 23 [1,2,4,5,6] (R23 7) L m Q:=Tq h
theorem t23r21 (h:Obt (ldA 2 m (ac L 5)) λa0=>Obt (stX 2 m (ac L 2) a0) λa1=>Q .normal ⟨tk L [2] [(3,(.int .i64 0))],a1⟩):Rg F 23 [2,3] (R23 21) L m Q:=Tq h
abbrev R25:=rg 25 Try.f25
def c25l0:SC:=
 (.seq (.seq (.reg false (some [1,3,4,5,6,7,40]) (R25 11)) (.cond (.tmp 40) .nop (.exit 4))) (.seq (.block 5 (.seq (.reg false (some [1,3,4,5,6,7,51]) (R25 13)) (.cond (.tmp 51) (.reg false (some [1,3,4,5,6,7]) (R25 14)) .nop))) (.reg false (some [1,3,4,5,6,7]) (R25 12))))
def c25l1:SC:=
 (.seq (.seq (.reg false (some [1,3,4,5,6,8,67]) (R25 16)) (.cond (.tmp 67) .nop (.exit 6))) (.seq (.block 7 (.seq (.reg false (some [1,3,4,5,6,8,9]) (R25 18)) (.seq (.reg false (some [1,3,4,5,6,8,9,83]) (R25 19)) (.cond (.tmp 83) (.reg false (some [1,3,4,5,6,8]) (R25 20)) .nop)))) (.reg false (some [1,3,4,5,6,8]) (R25 17))))
def c25l2:SC:=
 (.seq (.seq (.reg false (some [1,3,4,5,20]) (R25 6)) (.cond (.tmp 20) .nop (.exit 2))) (.seq (.block 3 (.seq (.reg false (some [1,3,4,5,6]) (R25 8)) (.seq (.reg false (some [1,3,4,5,6]) (R25 9)) (.seq (.seq (.reg false (some [1,3,4,5,6,7]) (R25 10)) (.block 4 (.loop c25l0))) (.seq (.reg false (some [1,3,4,5,6,8]) (R25 15)) (.block 6 (.loop c25l1))))))) (.reg false (some [1,3,4,5]) (R25 7))))
def c25l3:SC:=
 (.block 1 (.seq (.reg false (some [1,3,4]) (R25 4)) (.seq (.seq (.reg false (some [1,3,4,5]) (R25 5)) (.block 2 (.loop c25l2))) (.seq (.reg false (some [1,3,92]) (R25 21)) (.cond (.tmp 92) (.seq (.reg false (some [2]) (R25 22)) .ret) .nop)))))
def c25:SC:=
 (.seq (.reg false (some [1]) (R25 0)) (.seq (.seq (.reg false (some [1,12]) (R25 1)) (.cond (.tmp 12) (.seq (.reg false (some [2]) (R25 2)) .ret) .nop)) (.seq (.reg false (some [1,3]) (R25 3)) (.block 0 (.loop c25l3)))))
theorem s25:Try.f25.body.bind (bh Try.prog An 25 Try.f25.ntmps)=some c25:=by kernel_rfl
theorem g25:An.glob 25=[15]:=rfl
theorem r25:Try.f25.results.toList=[(.tmp 2)]:=by kernel_rfl
theorem t25r0 (h:Obt (ap (ac L 0)) λa0=>Q .normal ⟨[(1,(bo m 16))],(bw m 16 a0)⟩):Rg F 25 [1] (R25 0) L m Q:=Tq h
theorem t25r1 (h:Obt (ldA 2 m (ac L 1)) λa0=>Obt (aB An F 25 (some 11) 16 [a0] m) λa1=>Obt (aw Try.prog .neq 3 (.tmp 11) (.const (.int .i64 0)) a1.1 (.int .i64 0)) λa2=>Q .normal ⟨tk L [1] [(12,a2)],a1.2⟩):Rg F 25 [1,12] (R25 1) L m Q:=Tq h
theorem t25r2 (h:Q .normal ⟨[(2,.nil)],m⟩):Rg F 25 [2] (R25 2) L m Q:=Tq h
theorem t25r3 (h:Obt (aA 1 (ac L 1)) λa0=>Obt (ld1 m a0) λa1=>Obt (mkX true 240 1 1 [.bool false] a1 a1 m) λa2=>Q .normal ⟨tk L [1] [(3,a2.1)],a2.2⟩):Rg F 25 [1,3] (R25 3) L m Q:=Tq h
theorem t25r4 (h:Q .normal ⟨tk L [1,3] [(4,(.bool false))],m⟩):Rg F 25 [1,3,4] (R25 4) L m Q:=Tq h
theorem t25r5 (h:Q .normal ⟨tk L [1,3,4] [(5,(.int .i64 0))],m⟩):Rg F 25 [1,3,4,5] (R25 5) L m Q:=Tq h
theorem Kk (h:Obt (aA 0 (ac L 1)) λa0=>Obt (ld1 m a0) λa1=>Obt (lenS a1) λa2=>Obt (aw Try.prog .lss 3 (.tmp 16) (.tmp 19) (ac L 5) a2) λa3=>Q .normal ⟨tk L [1,3,4,5] [(20,a3)],m⟩):Rg F 25 [1,3,4,5,20] (R25 6) L m Q:=Tq h
theorem t25r8 (h:Obt (aA 0 (ac L 1)) λa0=>Obt (ld1 m a0) λa1=>Obt (bd 10 a1 (ac L 5)) λa2=>Obt (ldA 10 m a2) λa3=>Obt (stX 10 (bw m 96 [.nil,.nil,.nil,.int .i64 0,.int .i64 0,.bool false,.int .i64 0,.int .i64 0,.int .i64 0,.int .i64 0]) (bo m 96) a3) λa4=>Q .normal ⟨tk L [1,3,4,5] [(6,(bo m 96))],a4⟩):Rg F 25 [1,3,4,5,6] (R25 8) L m Q:=Tq h
theorem t25r9 (h:Obt (aA 3 (ac L 6)) λa0=>Obt (ldA 7 m a0) λa1=>Obt (aB An F 25 (some 31) 29 [a1] m) λa2=>Obt (aB An F 25 (some 32) 56 [(ac L 3),a2.1] a2.2) λa3=>Obt (gW a3.1 false (ac L 4) a3.2) λa4=>Obt (aT a3.1 (.bool true) a4.1) λa5=>Q .normal ⟨tk L [1,3] ((4,a5)::tk L [5,6] []),a4.2⟩):Rg F 25 [1,3,4,5,6] (R25 9) L m Q:=Tq h
theorem t25r10 (h:Q .normal ⟨tk L [1,3,4,5,6] [(7,(.int .i64 0))],m⟩):Rg F 25 [1,3,4,5,6,7] (R25 10) L m Q:=Tq h
theorem J3 (h:Obt (aA 1 (ac L 6)) λa0=>Obt (ld1 m a0) λa1=>Obt (lenS a1) λa2=>Obt (aw Try.prog .lss 3 (.tmp 36) (.tmp 39) (ac L 7) a2) λa3=>Q .normal ⟨tk L [1,3,4,5,6,7] [(40,a3)],m⟩):Rg F 25 [1,3,4,5,6,7,40] (R25 11) L m Q:=Tq h
theorem Kh (h:Obt (aA 1 (ac L 6)) λa0=>Obt (ld1 m a0) λa1=>Obt (bd 2 a1 (ac L 7)) λa2=>Obt (aA 0 a2) λa3=>Obt (ld1 m a3) λa4=>Obt (bd 1 (ac L 3) a4) λa5=>Obt (ld1 m a5) λa6=>Q .normal ⟨tk L [1,3,4,5,6,7] [(51,a6)],m⟩):Rg F 25 [1,3,4,5,6,7,51] (R25 13) L m Q:=Tq h
theorem t25r14 (h:Obt (aA 1 (ac L 6)) λa0=>Obt (ld1 m a0) λa1=>Obt (bd 2 a1 (ac L 7)) λa2=>Obt (aA 1 a2) λa3=>Obt (ld1 m a3) λa4=>Obt (aB An F 25 (some 59) 56 [(ac L 3),a4] m) λa5=>Obt (gW a5.1 false (ac L 4) a5.2) λa6=>Obt (aT a5.1 (.bool true) a6.1) λa7=>Q .normal ⟨tk L [1,3] ((4,a7)::tk L [5,6,7] []),a6.2⟩):Rg F 25 [1,3,4,5,6,7] (R25 14) L m Q:=Tq h
theorem Kg (h:Obt (aw Try.prog .add 3 (.tmp 41) (.const (.int .i64 1)) (ac L 7) (.int .i64 1)) λa0=>Q .normal ⟨tk L [1,3,4,5,6] [(7,a0)],m⟩):Rg F 25 [1,3,4,5,6,7] (R25 12) L m Q:=Tq h
theorem t25r15 (h:Q .normal ⟨tk L [1,3,4,5,6] [(8,(.int .i64 0))],m⟩):Rg F 25 [1,3,4,5,6,8] (R25 15) L m Q:=Tq h
theorem JU (h:Obt (aA 2 (ac L 6)) λa0=>Obt (ld1 m a0) λa1=>Obt (lenS a1) λa2=>Obt (aw Try.prog .lss 3 (.tmp 63) (.tmp 66) (ac L 8) a2) λa3=>Q .normal ⟨tk L [1,3,4,5,6,8] [(67,a3)],m⟩):Rg F 25 [1,3,4,5,6,8,67] (R25 16) L m Q:=Tq h
theorem J5 (h:Obt (aA 2 (ac L 6)) λa0=>Obt (ld1 m a0) λa1=>Obt (bd 12 a1 (ac L 8)) λa2=>Obt (ldA 12 m a2) λa3=>Obt (stX 12 (bw m 144 [.int .i64 0,.int .i64 0,.int .i64 0,.bool false,.int .i64 0,.int .i64 0,.int .u64 0,.int .i64 0,.int .i64 0,.bool false,.nil,.int .i64 0]) (bo m 144) a3) λa4=>Q .normal ⟨tk L [1,3,4,5,6,8] [(9,(bo m 144))],a4⟩):Rg F 25 [1,3,4,5,6,8,9] (R25 18) L m Q:=Tq h
theorem J6 (h:Obt (ldA 12 m (ac L 9)) λa0=>Obt (aB An F 25 (some 76) 54 [a0] m) λa1=>Obt (gW a1.1 false (ac L 3) a1.2) λa2=>Obt (gV a1.1 false (aA 1 (ac L 9)) a2.2) λa3=>Obt (gV a1.1 false (ld1 a3.2 a3.1) a3.2) λa4=>Obt (gV a1.1 false (bd 1 a2.1 a4.1) a4.2) λa5=>Obt (gV a1.1 false (ld1 a5.2 a5.1) a5.2) λa6=>Obt (aT a1.1 (.bool true) a6.1) λa7=>Q .normal ⟨tk L [1,3,4,5,6,8,9] [(83,a7)],a6.2⟩):Rg F 25 [1,3,4,5,6,8,9,83] (R25 19) L m Q:=Tq h
theorem Ki (h:Obt (ldA 12 m (ac L 9)) λa0=>Obt (aB An F 25 (some 86) 30 [a0] m) λa1=>Obt (aB An F 25 (some 87) 56 [(ac L 3),a1.1] a1.2) λa2=>Obt (gW a2.1 false (ac L 4) a2.2) λa3=>Obt (aT a2.1 (.bool true) a3.1) λa4=>Q .normal ⟨tk L [1,3] ((4,a4)::tk L [5,6,8] []),a3.2⟩):Rg F 25 [1,3,4,5,6,8] (R25 20) L m Q:=Tq h
theorem J4 (h:Obt (aw Try.prog .add 3 (.tmp 68) (.const (.int .i64 1)) (ac L 8) (.int .i64 1)) λa0=>Q .normal ⟨tk L [1,3,4,5,6] [(8,a0)],m⟩):Rg F 25 [1,3,4,5,6,8] (R25 17) L m Q:=Tq h
theorem t25r7 (h:Obt (aw Try.prog .add 3 (.tmp 21) (.const (.int .i64 1)) (ac L 5) (.int .i64 1)) λa0=>Q .normal ⟨tk L [1,3,4] [(5,a0)],m⟩):Rg F 25 [1,3,4,5] (R25 7) L m Q:=Tq h
theorem Kj (h:Obt (cun .not (ac L 4)) λa0=>Q .normal ⟨tk L [1,3] [(92,a0)],m⟩):Rg F 25 [1,3,92] (R25 21) L m Q:=Tq h
theorem t25r22 (h:Q .normal ⟨[(2,(ac L 3))],m⟩):Rg F 25 [2] (R25 22) L m Q:=Tq h
abbrev R27:=rg 27 Try.f27
def c27l0:SC:=
 (.seq (.seq (.reg false (some [1,3,4,9]) (R27 3)) (.cond (.tmp 9) .nop (.exit 0))) (.seq (.block 1 (.reg true (some [1,3,4]) (R27 5))) (.reg false (some [1,3,4]) (R27 4))))
def c27:SC:=
 (.seq (.reg false (some [1]) (R27 0)) (.seq (.reg false (some [1,3]) (R27 1)) (.seq (.seq (.reg false (some [1,3,4]) (R27 2)) (.block 0 (.loop c27l0))) (.seq (.reg false (some [2]) (R27 6)) .ret))))
theorem s27:Try.f27.body.bind (bh Try.prog An 27 Try.f27.ntmps)=some c27:=by kernel_rfl
theorem g27:An.glob 27=[]:=rfl
theorem r27:Try.f27.results.toList=[(.tmp 2)]:=by kernel_rfl
theorem t27r0 (h:Obt (ap (ac L 0)) λa0=>Q .normal ⟨[(1,(bo m 16))],(bw m 16 a0)⟩):Rg F 27 [1] (R27 0) L m Q:=Tq h
theorem t27r1 (h:Q .normal ⟨tk L [1] [(3,(.int .i64 0))],m⟩):Rg F 27 [1,3] (R27 1) L m Q:=Tq h
theorem t27r2 (h:Q .normal ⟨tk L [1,3] [(4,(.int .i64 0))],m⟩):Rg F 27 [1,3,4] (R27 2) L m Q:=Tq h
theorem t27r3 (h:Obt (aA 0 (ac L 1)) λa0=>Obt (ld1 m a0) λa1=>Obt (lenS a1) λa2=>Obt (aw Try.prog .lss 3 (.tmp 5) (.tmp 8) (ac L 4) a2) λa3=>Q .normal ⟨tk L [1,3,4] [(9,a3)],m⟩):Rg F 27 [1,3,4,9] (R27 3) L m Q:=Tq h
theorem t27r5 (h:Obt (aA 0 (ac L 1)) λa0=>Obt (ld1 m a0) λa1=>Obt (bd 10 a1 (ac L 4)) λa2=>Obt (aA 1 a2) λa3=>Obt (ld1 m a3) λa4=>Obt (lenS a4) λa5=>Obt (aw Try.prog .add 3 (.tmp 12) (.tmp 19) (ac L 3) a5) λa6=>Obt (aA 0 (ac L 1)) λa7=>Obt (ld1 m a7) λa8=>Obt (bd 10 a8 (ac L 4)) λa9=>Obt (aA 2 a9) λa10=>Obt (ld1 m a10) λa11=>Obt (lenS a11) λa12=>Obt (aw Try.prog .add 3 (.tmp 20) (.tmp 27) a6 a12) λa13=>Q .normal ⟨tk L [1] ((3,a13)::tk L [4] []),m⟩):Rt F 27 [1,3,4] (R27 5) L m Q:=Tq h
theorem t27r4 (h:Obt (aw Try.prog .add 3 (.tmp 10) (.const (.int .i64 1)) (ac L 4) (.int .i64 1)) λa0=>Q .normal ⟨tk L [1,3] [(4,a0)],m⟩):Rg F 27 [1,3,4] (R27 4) L m Q:=Tq h
theorem t27r6 (h:Q .normal ⟨[(2,(ac L 3))],m⟩):Rg F 27 [2] (R27 6) L m Q:=Tq h
abbrev R54:=rg 54 Try.f54
def c54:SC:=
 (.seq (.reg false (some [1]) (R54 0)) (.seq (.reg false (some [2]) (R54 1)) .ret))
theorem s54:Try.f54.body.bind (bh Try.prog An 54 Try.f54.ntmps)=some c54:=by kernel_rfl
theorem g54:An.glob 54=[]:=rfl
theorem r54:Try.f54.results.toList=[(.tmp 2)]:=by kernel_rfl
theorem J9 (h:Obt (ap (ac L 0)) λa0=>Q .normal ⟨[(1,(bo m 16))],(bw m 16 a0)⟩):Rg F 54 [1] (R54 0) L m Q:=Tq h
theorem Ka (h:Obt (aA 0 (ac L 1)) λa0=>Obt (ld1 m a0) λa1=>Obt (aw Try.prog .eql 64 (.tmp 4) (.const (.int .i64 6)) a1 (.int .i64 6)) λa2=>Obt (gV a2 false (aA 0 (ac L 1)) m) λa3=>Obt (gV a2 false (ld1 a3.2 a3.1) a3.2) λa4=>Obt (gV a2 false (aw Try.prog .eql 64 (.tmp 8) (.const (.int .i64 7)) a4.1 (.int .i64 7)) a4.2) λa5=>Obt (aT a2 (.bool true) a5.1) λa6=>Obt (gV a6 false (aA 0 (ac L 1)) a5.2) λa7=>Obt (gV a6 false (ld1 a7.2 a7.1) a7.2) λa8=>Obt (gV a6 false (aw Try.prog .eql 64 (.tmp 13) (.const (.int .i64 5)) a8.1 (.int .i64 5)) a8.2) λa9=>Obt (gW a6 false a9.1 a9.2) λa10=>Obt (gV a10.1 true (aA 9 (ac L 1)) a10.2) λa11=>Obt (gV a10.1 true (ld1 a11.2 a11.1) a11.2) λa12=>Obt (gV a6 false (aT a10.1 a12.1 (.bool false)) a12.2) λa13=>Obt (aT a6 (.bool true) a13.1) λa14=>Q .normal ⟨[(2,a14)],a13.2⟩):Rg F 54 [2] (R54 1) L m Q:=Tq h
abbrev R56:=rg 56 Try.f56
def c56l0:SC:=
 (.seq (.seq (.reg false (some [0,1,5,6,10]) (R56 3)) (.cond (.tmp 10) .nop (.exit 0))) (.seq (.block 1 (.seq (.reg false (some [0,1,5,6]) (R56 5)) (.reg false (some [0,1,5,6]) (R56 6)))) (.reg false (some [0,1,5,6]) (R56 4))))
def c56:SC:=
 (.seq (.reg false (some [0,1]) (R56 0)) (.seq (.reg false (some [0,1,5]) (R56 1)) (.seq (.seq (.reg false (some [0,1,5,6]) (R56 2)) (.block 0 (.loop c56l0))) (.seq (.reg false (some [4]) (R56 7)) .ret))))
theorem s56:Try.f56.body.bind (bh Try.prog An 56 Try.f56.ntmps)=some c56:=by kernel_rfl
theorem g56:An.glob 56=[]:=rfl
theorem r56:Try.f56.results.toList=[(.tmp 4)]:=by kernel_rfl
theorem t56r0 (h:Q .normal ⟨tk L [0,1] [],m⟩):Rg F 56 [0,1] (R56 0) L m Q:=Tq h
theorem t56r1 (h:Q .normal ⟨tk L [0,1] [(5,(.bool false))],m⟩):Rg F 56 [0,1,5] (R56 1) L m Q:=Tq h
theorem t56r2 (h:Q .normal ⟨tk L [0,1,5] [(6,(.int .i64 0))],m⟩):Rg F 56 [0,1,5,6] (R56 2) L m Q:=Tq h
theorem Kb (h:Obt (lenS (ac L 1)) λa0=>Obt (aw Try.prog .lss 3 (.tmp 7) (.tmp 9) (ac L 6) a0) λa1=>Q .normal ⟨tk L [0,1,5,6] [(10,a1)],m⟩):Rg F 56 [0,1,5,6,10] (R56 3) L m Q:=Tq h
theorem Km (h:Obt (gW (ac L 5) false (ac L 0) m) λa0=>Obt (gW (ac L 5) false (ac L 1) a0.2) λa1=>Obt (gW (ac L 5) false (ac L 6) a1.2) λa2=>Obt (gV (ac L 5) false (bd 1 a1.1 a2.1) a2.2) λa3=>Obt (gV (ac L 5) false (ld1 a3.2 a3.1) a3.2) λa4=>Obt (gV (ac L 5) false (bd 1 a0.1 a4.1) a4.2) λa5=>Obt (gV (ac L 5) false (ld1 a5.2 a5.1) a5.2) λa6=>Obt (gV (ac L 5) false (cun .not a6.1) a6.2) λa7=>Obt (aT (ac L 5) (.bool true) a7.1) λa8=>Q .normal ⟨tk L [0,1] ((5,a8)::tk L [6] []),a7.2⟩):Rg F 56 [0,1,5,6] (R56 5) L m Q:=Tq h
theorem Ko (h:Obt (bd 1 (ac L 1) (ac L 6)) λa0=>Obt (ld1 m a0) λa1=>Obt (bd 1 (ac L 0) a1) λa2=>Obt (stX 1 m a2 (.bool true)) λa3=>Q .normal ⟨tk L [0,1,5,6] [],a3⟩):Rg F 56 [0,1,5,6] (R56 6) L m Q:=Tq h
theorem Kl (h:Obt (aw Try.prog .add 3 (.tmp 11) (.const (.int .i64 1)) (ac L 6) (.int .i64 1)) λa0=>Q .normal ⟨tk L [0,1,5] [(6,a0)],m⟩):Rg F 56 [0,1,5,6] (R56 4) L m Q:=Tq h
theorem t56r7 (h:Q .normal ⟨[(4,(ac L 5))],m⟩):Rg F 56 [4] (R56 7) L m Q:=Tq h
end
end Go.Cm
