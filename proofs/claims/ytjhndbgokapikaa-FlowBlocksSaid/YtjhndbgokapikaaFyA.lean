import Derived.Test.YtjhndbgokapikaaCxD
import Derived.KernelRfl
import Derived.Test.YtjhndbgokapikaaProg
set_option linter.unusedSimpArgs false
set_option linter.unusedVariables false
namespace Go.Cm
open Go.Proofs
variable {F:aW}{L:List (Nat×CV)}{m:Mem}{Q:CE→TS→Prop}
noncomputable section
def kept:FuncId→List (Nat×List Tmp)
 |3=>[(0,[0,1]),(1,[0,1,5,6]),(2,[0,1,5,6,7,8]),(3,[4])]
 |4=>[(0,[0]),(1,[0,3,4]),(2,[3,4,5]),(3,[3,5,20]),(4,[2]),(5,[3,5,6]),(6,[3,5,6,33]),(7,[3,5,6]),(8,[3,5,6,7]),(9,[3,5,6,7,8]),(10,[3,5,6,7,8,39]),(11,[3,5,6,7,8]),(12,[3,5,6,7,8,63]),(13,[3,5,6,7,8]),(14,[3,5,6,83]),(15,[2]),(16,[3,5,9]),(17,[3,5,9,87]),(18,[3,5,9]),(19,[3,5,9,10]),(20,[3,5,9,10,11]),(21,[3,5,9,10,11,93]),(22,[3,5,9,10,11]),(23,[3,5,9,10,11]),(24,[3,5,9,128]),(25,[2]),(26,[2])]
 |5=>[(0,[0]),(1,[0,3,4]),(2,[0,3,17]),(3,[2]),(4,[0,3,5]),(5,[0,3,5,22]),(6,[0,3,5]),(7,[0,3,5,6]),(8,[0,3,5,6,7]),(9,[0,3,5,6,7,35]),(10,[0,3,5,6,7]),(11,[0,3,5,6,7,8]),(12,[0,3,5,6,7,77]),(13,[2]),(14,[0,3,5,9]),(15,[0,3,5,9,85]),(16,[0,3,5,9]),(17,[0,3,5,9,10]),(18,[0,3,5,9,130]),(19,[2]),(20,[2])]
 |7=>[(0,[0]),(1,[0,5]),(2,[0,5,25]),(3,[2,3]),(4,[0,6]),(5,[0,6,7]),(6,[0,6,7,31,32,33]),(7,[0,6,7,31,32,33,34]),(8,[0,6,7,9,31,32,33]),(9,[0,6,7,9,31,32,33,41]),(10,[0,6,7,31,32,33,44,45,46]),(11,[0,6,7,31,32,33,44,45,46,47]),(12,[0,6,7,11,31,32,33,44,45,46]),(13,[0,6,7,31,32,33,44,45,46]),(14,[0,6,7,31,32,33,44,45,46]),(15,[0,6,7,31,32,33]),(16,[0,6,7,12]),(17,[0,6,12,54,55,56]),(18,[0,6,12,54,55,56,57]),(19,[0,6,12,14,54,55,56]),(20,[0,6,12,14,54,55,56,62]),(21,[0,6,12,54,55,56]),(22,[0,6,12,54,55,56]),(23,[0,12,72,73]),(24,[0,12,72,73,74]),(25,[0,12,15,72,73]),(26,[0,12,15,72,73,82,83,84]),(27,[0,12,15,72,73,82,83,84,85]),(28,[0,12,15,17,72,73,82,83,84]),(29,[0,12,15,18,72,73,82,83,84]),(30,[0,12,15,18,72,73,82,83,84,98]),(31,[0,12,15,18,72,73,82,83,84]),(32,[0,12,15,72,73,82,83,84]),(33,[0,12,15,72,73,82,83,84]),(34,[0,12,72,73]),(35,[2,3])]
 |8=>[(0,[0]),(1,[0,5]),(2,[0,5,23]),(3,[2,3]),(4,[0,6]),(5,[0,6,7]),(6,[0,6,7,8]),(7,[0,6,7,8,9]),(8,[0,6,7,8,9,33]),(9,[0,6,7,8,9]),(10,[0,6,7,8,9,10]),(11,[0,6,7,8,9,10,44]),(12,[0,6,7,8,9,10,11]),(13,[0,6,7,8,9,10,11]),(14,[0,6,7,8,9,10,11]),(15,[0,6,7,8,9,10,11,12]),(16,[0,6,7,8,9,11,12,73]),(17,[0,6,7,8,9,10,11]),(18,[0,6,7,8,9]),(19,[0,8,13]),(20,[0,8,13,84]),(21,[0,8,13]),(22,[0,8,13,14]),(23,[0,8,13,14,15]),(24,[0,8,13,14,15,97]),(25,[0,8,13,14,15]),(26,[0,8,13,14,15,16]),(27,[0,8,13,14,15,16,113]),(28,[0,8,13,14,15,16]),(29,[0,8,13,14,15]),(30,[2,3])]
 |9=>[(0,[0,1]),(1,[0,1,10]),(2,[4]),(3,[0,1,5]),(4,[0,1,5,14]),(5,[0,1,5]),(6,[0,1,5,81]),(7,[4]),(8,[4])]
 |10=>[(0,[0,1]),(1,[0,1,10]),(2,[4]),(3,[0,1,5]),(4,[0,1,5,14]),(5,[0,1,5]),(6,[0,1,5,25]),(7,[4]),(8,[4])]
 |11=>[(0,[0]),(1,[0,4]),(2,[0,14]),(3,[2]),(4,[0,5]),(5,[0,5,6]),(6,[0,5,6,19]),(7,[0,5,6,7]),(8,[0,5,6,7]),(9,[0,5,6,7,28]),(10,[0,5,6,7]),(11,[0,5,6]),(12,[2])]
 |12=>[(0,[0]),(1,[0,4]),(2,[0,16]),(3,[2]),(4,[0,5]),(5,[0,5,6]),(6,[0,5,6,23]),(7,[0,5,6,7]),(8,[0,5,6,7]),(9,[0,5,6,7,39]),(10,[0,5,6,7]),(11,[0,5,6]),(12,[0,5,8]),(13,[0,5,8,9]),(14,[0,5,8,9,51]),(15,[0,5,8,9]),(16,[0,5,8,9,57]),(17,[0,5,8,9]),(18,[2])]
 |13=>[(0,[0,3]),(1,[4])]
 |14=>[(0,[0,1]),(1,[0,1,5]),(2,[0,1,5,9]),(3,[0,1,5]),(4,[0,1,5,27]),(5,[4]),(6,[4])]
 |16=>[(0,[0,1]),(1,[0,1,21]),(2,[4]),(3,[1,5]),(4,[1,5,8]),(5,[1,5,8,33]),(6,[4]),(7,[1,5,8,37]),(8,[4]),(9,[1,5,47]),(10,[4]),(11,[1,57]),(12,[4]),(13,[4])]
 |17=>[(0,[0,1]),(1,[0,1,5]),(2,[0,1,5,6]),(3,[0,1,5,6,10]),(4,[0,1,5,6]),(5,[0,1,5,6,18]),(6,[0,1,5,6]),(7,[4])]
 |18=>[(0,[0]),(1,[0,8]),(2,[2,3]),(3,[0,12]),(4,[2,3]),(5,[0,16,17,18]),(6,[0,16,17,18,19]),(7,[0,4,5,16,17,18]),(8,[0,4,5,16,17,18,25]),(9,[0,4,16,17,18,49]),(10,[2,3]),(11,[0,4,16,17,18,53,54,55]),(12,[0,4,16,17,18,53,54,55,56]),(13,[0,4,7,16,17,18,53,54,55]),(14,[0,4,16,17,18,53,54,55,71]),(15,[2,3]),(16,[0,4,16,17,18,53,54,55]),(17,[0,16,17,18]),(18,[2,3])]
 |19=>[(0,[1]),(1,[1,5]),(2,[2])]
 |20=>[(0,[0,1]),(1,[0,1,21]),(2,[4]),(3,[1,5]),(4,[1,5,8]),(5,[1,5,8,33]),(6,[4]),(7,[1,5,8,37]),(8,[4]),(9,[1,5,47]),(10,[4]),(11,[1,57]),(12,[4]),(13,[4])]
 |21=>[(0,[0,1,2,6]),(1,[0,1,6,7]),(2,[0,1,6,7]),(3,[0,1,6,7,8]),(4,[0,1,6,7,8,43]),(5,[6]),(6,[0,1,6,7])]
 |22=>[(0,[0,1]),(1,[4])]
 |23=>[(0,[0]),(1,[0,9]),(2,[2,3]),(3,[0,12]),(4,[2,3]),(5,[0,4]),(6,[0,4,16]),(7,[0,4]),(8,[0,4,21]),(9,[0,4,51]),(10,[2,3]),(11,[0,4,5]),(12,[0,4,5,6]),(13,[0,4,5,6,59]),(14,[0,4,5,6]),(15,[0,4,5,6,83]),(16,[2,3]),(17,[2,3])]
 |24=>[(0,[0,1]),(1,[0,1,5]),(2,[0,1,5]),(3,[0,1,5,6]),(4,[0,1,5,6,19]),(5,[0,1,5,6]),(6,[0,1,5,6,7]),(7,[0,1,5,6,7,8]),(8,[0,1,5,6,7,8,9]),(9,[0,1,5,6,7,8,9,32]),(10,[0,1,5,6,7,8,9]),(11,[0,1,5,6,7,8,9]),(12,[4])]
 |25=>[(0,[0,1]),(1,[1,10]),(2,[4]),(3,[4])]
 |26=>[(0,[1]),(1,[1,5]),(2,[2])]
 |27=>[(0,[0,1]),(1,[0,1,5]),(2,[0,1,5,9]),(3,[0,1,5]),(4,[0,1,5,17]),(5,[4]),(6,[4])]
 |29=>[(0,[1]),(1,[2])]
 |30=>[(0,[0,1]),(1,[0,1,7,8]),(2,[0,1,7,8,9]),(3,[0,1,5,7,8]),(4,[0,1,5,7,8,16]),(5,[4]),(6,[0,1,7,8]),(7,[4])]
 |31=>[(0,[1,2]),(1,[3])]
 |32=>[(0,[0,1]),(1,[0,1,23]),(2,[4]),(3,[0,1,5]),(4,[0,5,6]),(5,[0,5,6,35]),(6,[0,5,6]),(7,[0,5,6]),(8,[4])]
 |33=>[(0,[0]),(1,[0,5]),(2,[0,5,6]),(3,[5,6,40]),(4,[2,3,4]),(5,[2,3,4])]
 |34=>[(0,[0,1]),(1,[0,1,13]),(2,[4]),(3,[0,1,5]),(4,[0,1,5,27]),(5,[0,1,5]),(6,[4])]
 |35=>[(0,[1]),(1,[1,3,4,5]),(2,[1,3,4,5,8]),(3,[1,3,4,5,8,9]),(4,[1,3,4,5,8,9,35]),(5,[1,3,4,5,8,9]),(6,[1,3,4,5,8,51]),(7,[2]),(8,[1,3,4,8,52]),(9,[2]),(10,[1,58]),(11,[2]),(12,[1,62]),(13,[2]),(14,[1,74]),(15,[2]),(16,[1,91]),(17,[2]),(18,[1,105]),(19,[2]),(20,[1,111]),(21,[2]),(22,[1,116]),(23,[2]),(24,[2])]
 |36=>[(0,[0]),(1,[5,6]),(2,[5,6,8]),(3,[5,6,27]),(4,[2,3,4]),(5,[2,3,4])]
 |37=>[(0,[1]),(1,[5]),(2,[2]),(3,[2])]
 |38=>[(0,[0,1]),(1,[0,1,7,8]),(2,[0,1,7,8,9]),(3,[0,1,5,7,8]),(4,[0,1,5,7,8,16]),(5,[4]),(6,[0,1,7,8]),(7,[4])]
 |39=>[(0,[1]),(1,[1,3,4,5]),(2,[1,3,4,5,8]),(3,[1,3,4,8,23]),(4,[2]),(5,[1,29]),(6,[2]),(7,[1,41]),(8,[2]),(9,[1,47]),(10,[2]),(11,[1,58]),(12,[2]),(13,[1,64]),(14,[2]),(15,[1,70]),(16,[2]),(17,[1,75]),(18,[2]),(19,[1,82]),(20,[2]),(21,[2])]
 |43=>[(0,[0]),(1,[0,5,6]),(2,[0,5,6,8]),(3,[5,6,36]),(4,[2,3,4]),(5,[2,3,4])]
 |44=>[(0,[0]),(1,[0,8]),(2,[2]),(3,[2])]
 |45=>[(0,[1,2]),(1,[4])]
 |46=>[(0,[1,2,3]),(1,[1,2,3,14]),(2,[6]),(3,[2,3,15]),(4,[2,3,15,16]),(5,[6]),(6,[2,3,15,21]),(7,[2,3,15,21]),(8,[2,3,21]),(9,[6]),(10,[6])]
 |47=>[(0,[1]),(1,[1,6]),(2,[2]),(3,[2])]
 |48=>[(0,[0]),(1,[5,6,7]),(2,[5,6,7,8]),(3,[4,5,6,7]),(4,[5,6,7,12]),(5,[2]),(6,[5,6,7]),(7,[2])]
 |49=>[(0,[0,1,2]),(1,[6])]
 |50=>[(0,[1]),(1,[1,3]),(2,[2]),(3,[1,18]),(4,[2]),(5,[2])]
 |51=>[(0,[0]),(1,[0,4]),(2,[0,4,5]),(3,[0,4,7]),(4,[0,9]),(5,[12]),(6,[12,13]),(7,[2]),(8,[12,15]),(9,[2]),(10,[12,17]),(11,[2]),(12,[19]),(13,[2]),(14,[2])]
 |52=>[(0,[0,1,2,3]),(1,[0,1,2,3]),(2,[0,1,2,10]),(3,[1,2,10,22]),(4,[1,2,10,22,23]),(5,[8,9]),(6,[1,2,10,22,27]),(7,[8,9]),(8,[1,2,10,22,31]),(9,[8,9]),(10,[10,22,37]),(11,[10,22,37]),(12,[8,9]),(13,[10,22,42]),(14,[10,22,42]),(15,[8,9]),(16,[10,22,47]),(17,[10,22,47]),(18,[8,9]),(19,[10,22,52]),(20,[10,52]),(21,[8,9]),(22,[8,9])]
 |53=>[(0,[0]),(1,[0,5]),(2,[0,5,6]),(3,[5,6,37]),(4,[2,3,4]),(5,[2,3,4])]
 |54=>[(0,[1,2,3]),(1,[1,2,3,7]),(2,[1,2,3,7,22]),(3,[6]),(4,[1,2,3,7,8]),(5,[1,3,7,8,23]),(6,[1,3,7,8]),(7,[6])]
 |55=>[(0,[1,2,3,4,5]),(1,[2,3,4,5,33]),(2,[10]),(3,[10])]
 |56=>[(0,[0,1,2]),(1,[6])]
 |57=>[(0,[1]),(1,[1,17]),(2,[2]),(3,[1,20]),(4,[2]),(5,[2])]
 |58=>[(0,[0]),(1,[3]),(2,[3,4]),(3,[3,4]),(4,[3,4]),(5,[2]),(6,[3,8]),(7,[3,8]),(8,[3,8]),(9,[2]),(10,[3,12]),(11,[3,12]),(12,[3,12]),(13,[2]),(14,[3,16]),(15,[3,16]),(16,[16]),(17,[2]),(18,[2])]
 |62=>[(0,[0,1,2,3]),(1,[0,1,2,3]),(2,[0,1,2,3,18]),(3,[0,1,2,3,18,19]),(4,[1,2,22]),(5,[8,9]),(6,[8,9]),(7,[0,1,2,3,18,26]),(8,[1,2,29]),(9,[8,9]),(10,[8,9]),(11,[0,1,2,3,18,34]),(12,[0,1,2,3,18,34]),(13,[0,1,2,3,34]),(14,[8,9]),(15,[3,10,11]),(16,[8,9])]
 |64=>[(0,[0,1,2,3]),(1,[1,2,3,9]),(2,[1,2,3,9,10]),(3,[1,2,3,9,12]),(4,[1,2,3,9,14]),(5,[1,2,3,16]),(6,[1,2,19]),(7,[8]),(8,[8]),(9,[8])]
 |65=>[(0,[0,1]),(1,[0,5]),(2,[4]),(3,[4])]
 |78=>[(0,[0,1,2]),(1,[1,2,8]),(2,[1,2,8,9]),(3,[6,7]),(4,[1,2,8,14]),(5,[6,7]),(6,[1,2,8,19]),(7,[6,7]),(8,[1,2,8,24]),(9,[6,7]),(10,[1,2,8,29]),(11,[6,7]),(12,[1,2,8,34]),(13,[6,7]),(14,[1,2,8,39]),(15,[6,7]),(16,[2,43]),(17,[6,7]),(18,[6,7])]
 |_=>[]
def globs:FuncId→List Tmp
 |7=>[27,69,108,120]
 |8=>[80,123,135]
 |11=>[15]
 |13=>[3]
 |29=>[1]
 |_=>[]
def impure:FuncId→Bool
 |7=>true
 |8=>true
 |9=>true
 |10=>true
 |13=>true
 |14=>true
 |17=>true
 |21=>true
 |22=>true
 |27=>true
 |28=>true
 |29=>true
 |30=>true
 |31=>true
 |38=>true
 |40=>true
 |41=>true
 |42=>true
 |59=>true
 |_=>false
def nds:FuncId→List Nat
 |_=>[]
def bases:FuncId→List (Tmp×Tmp)
 |_=>[]
def An:Ann:={ glob:=globs,pure:=λf=>!(impure f),keep:=λf r=>((kept f).find? λx=>x.1==r).map (·.2),nd:=λf r=>(nds f).contains r,base:=λf t=>((bases f).find? λx=>x.1==t).map (·.2) }
abbrev rg:=rgo Try.prog An
abbrev Rg (F:aW) (k:Nat) (l:List Tmp) (c:List SO) (L:List (Nat×CV)) (m:Mem) (Q:CE→TS→Prop):=Tx Try.prog An F k (.reg false (some l) c) ⟨L,m⟩ Q
abbrev Rt (F:aW) (k:Nat) (l:List Tmp) (c:List SO) (L:List (Nat×CV)) (m:Mem) (Q:CE→TS→Prop):=Tx Try.prog An F k (.reg true (some l) c) ⟨L,m⟩ Q
theorem Ee:cm Try.prog=true:=by kernel_rfl
theorem mixed:Try.prog.follows .mixedOrders=true:=by kernel_rfl
def c16r0:=rg 16 Try.f16 0
def c16r1:=rg 16 Try.f16 1
def c16r2:=rg 16 Try.f16 2
def c16r3:=rg 16 Try.f16 3
def c16r4:=rg 16 Try.f16 4
def c16r5:=rg 16 Try.f16 5
def c16r6:=rg 16 Try.f16 6
def c16r7:=rg 16 Try.f16 7
def c16r8:=rg 16 Try.f16 8
def c16r9:=rg 16 Try.f16 9
def AE:=rg 16 Try.f16 10
def AF:=rg 16 Try.f16 11
def AG:=rg 16 Try.f16 12
def AH:=rg 16 Try.f16 13
def c16:SC:=
 (.seq (.reg false (some [0,1]) c16r0) (.seq (.seq (.reg false (some [0,1,21]) c16r1) (.cond (.tmp 21) (.seq (.reg false (some [4]) c16r2) .ret) .nop)) (.seq (.reg false (some [1,5]) c16r3) (.seq (.reg false (some [1,5,8]) c16r4) (.seq (.block 0 (.seq (.reg false (some [1,5,8,33]) c16r5) (.cond (.tmp 33) (.seq (.reg false (some [4]) c16r6) .ret) (.seq (.reg false (some [1,5,8,37]) c16r7) (.cond (.tmp 37) (.seq (.reg false (some [4]) c16r8) .ret) (.seq (.reg false (some [1,5,47]) c16r9) (.cond (.tmp 47) (.seq (.reg false (some [4]) AE) .ret) (.seq (.reg false (some [1,57]) AF) (.cond (.tmp 57) (.seq (.reg false (some [4]) AG) .ret) .nop))))))))) (.seq (.reg false (some [4]) AH) .ret))))))
theorem s16:Try.f16.body.bind (bh Try.prog An 16 Try.f16.ntmps)=some c16:=by kernel_rfl
theorem g16:An.glob 16=[]:=rfl
theorem r16:Try.f16.results.toList=[(.tmp 4)]:=by kernel_rfl
theorem sN (h:Q .normal ⟨[(0,(ac L 0)),(1,(ac L 1))],m⟩):Rg F 16 [0,1] c16r0 L m Q:=ae (by kernel_rfl) h
theorem sO (h:Obt (aw Try.prog .lss 3 (.tmp 9) (.const (.int .i64 0)) (ac L 1) (.int .i64 0)) λa0=>Obt (gdO a0 false (some ((ac L 1),m)) (.tuple [],m)) λa1=>Obt (gdO a0 false (some ((ac L 0),a1.2)) (.tuple [],a1.2)) λa2=>Obt (gdO a0 false ((lenS a2.1).map λv=>(v,a2.2)) (.tuple [],a2.2)) λa3=>Obt (gdO a0 false ((aw Try.prog .geq 3 (.tmp 12) (.tmp 14) a1.1 a3.1).map λv=>(v,a3.2)) (.tuple [],a3.2)) λa4=>Obt (cT a0 (.bool true) a4.1) λa5=>Obt (gdO a5 false (some ((ac L 0),a4.2)) (.tuple [],a4.2)) λa6=>Obt (gdO a5 false (some ((ac L 1),a6.2)) (.tuple [],a6.2)) λa7=>Obt (gdO a5 false (cd An F 16 (some 20) 32 [a6.1,a7.1] a7.2) (.tuple [],a7.2)) λa8=>Obt (cT a5 (.bool true) a8.1) λa9=>Q .normal ⟨[(0,(ac L 0)),(1,(ac L 1)),(21,a9)],a8.2⟩):Rg F 16 [0,1,21] c16r1 L m Q:=ae (by kernel_rfl) h
theorem wo (h:Q .normal ⟨[(4,.nil)],m⟩):Rg F 16 [4] c16r2 L m Q:=ae (by kernel_rfl) h
theorem MZ (h:Obt (bd 6 (ac L 0) (ac L 1)) λa0=>Obt (ldA 6 m a0) λa1=>Obt (stX 6 (bw m 80 [.int .i64 0,.int .i64 0,.int .i64 0,.int .i64 0,.int .i64 0,.int .u64 0]) (bo m 80) a1) λa2=>Q .normal ⟨[(1,(ac L 1)),(5,(bo m 80))],a2⟩):Rg F 16 [1,5] c16r3 L m Q:=ae (by kernel_rfl) h
theorem ER (h:Obt (aA 0 (ac L 5)) λa0=>Obt (ld1 m a0) λa1=>Obt (cd An F 16 (some 29) 33 [a1] m) λa2=>Obt (cV 0 a2.1) λa3=>Obt (cV 1 a2.1) λa4=>Obt (cV 2 a2.1) λa5=>Q .normal ⟨[(1,(ac L 1)),(5,(ac L 5)),(8,a5)],a2.2⟩):Rg F 16 [1,5,8] c16r4 L m Q:=ae (by kernel_rfl) h
theorem M0 (h:Obt (aA 0 (ac L 5)) λa0=>Obt (ld1 m a0) λa1=>Obt (aw Try.prog .eql 3 (.tmp 35) (.const (.int .i64 149)) a1 (.int .i64 149)) λa2=>Q .normal ⟨[(1,(ac L 1)),(5,(ac L 5)),(8,(ac L 8)),(33,a2)],m⟩):Rg F 16 [1,5,8,33] c16r5 L m Q:=ae (by kernel_rfl) h
theorem t16r6 (h:Q .normal ⟨[(4,.nil)],m⟩):Rg F 16 [4] c16r6 L m Q:=ae (by kernel_rfl) h
theorem NN (h:Obt (aA 0 (ac L 5)) λa0=>Obt (ld1 m a0) λa1=>Obt (aw Try.prog .eql 3 (.tmp 39) (.const (.int .i64 5)) a1 (.int .i64 5)) λa2=>Q .normal ⟨[(1,(ac L 1)),(5,(ac L 5)),(8,(ac L 8)),(37,a2)],m⟩):Rg F 16 [1,5,8,37] c16r7 L m Q:=ae (by kernel_rfl) h
theorem t16r8 (h:Obt (aw Try.prog .add 3 (.tmp 41) (.const (.int .i64 1)) (ac L 1) (.int .i64 1)) λa0=>Obt (aA 3 (ac L 5)) λa1=>Obt (ld1 m a1) λa2=>Obt (aw Try.prog .add 3 (.tmp 42) (.tmp 44) a0 a2) λa3=>Obt (be false 736 1 1 [.int .i64 0] [(0,1,a3)] m) λa4=>Q .normal ⟨[(4,a4.1)],a4.2⟩):Rg F 16 [4] c16r8 L m Q:=ae (by kernel_rfl) h
theorem Qm (h:Q .normal ⟨[(1,(ac L 1)),(5,(ac L 5)),(47,(ac L 8))],m⟩):Rg F 16 [1,5,47] c16r9 L m Q:=ae (by kernel_rfl) h
theorem t16r10 (h:Obt (aw Try.prog .add 3 (.tmp 49) (.const (.int .i64 1)) (ac L 1) (.int .i64 1)) λa0=>Obt (aw Try.prog .add 3 (.tmp 51) (.const (.int .i64 1)) (ac L 1) (.int .i64 1)) λa1=>Obt (aA 3 (ac L 5)) λa2=>Obt (ld1 m a2) λa3=>Obt (aw Try.prog .add 3 (.tmp 52) (.tmp 54) a1 a3) λa4=>Obt (be false 896 1 2 [.int .i64 0,.int .i64 0] [(0,1,a0),(1,1,a4)] m) λa5=>Q .normal ⟨[(4,a5.1)],a5.2⟩):Rg F 16 [4] AE L m Q:=ae (by kernel_rfl) h
theorem ur (h:Obt (aA 0 (ac L 5)) λa0=>Obt (ld1 m a0) λa1=>Obt (aw Try.prog .eql 3 (.tmp 59) (.const (.int .i64 24)) a1 (.int .i64 24)) λa2=>Q .normal ⟨[(1,(ac L 1)),(57,a2)],m⟩):Rg F 16 [1,57] AF L m Q:=ae (by kernel_rfl) h
theorem t16r12 (h:Obt (aw Try.prog .add 3 (.tmp 61) (.const (.int .i64 2)) (ac L 1) (.int .i64 2)) λa0=>Obt (be false 1008 1 1 [.int .i64 0] [(0,1,a0)] m) λa1=>Q .normal ⟨[(4,a1.1)],a1.2⟩):Rg F 16 [4] AG L m Q:=ae (by kernel_rfl) h
theorem EQ (h:Obt (aw Try.prog .add 3 (.tmp 64) (.const (.int .i64 1)) (ac L 1) (.int .i64 1)) λa0=>Obt (be false 1056 1 1 [.int .i64 0] [(0,1,a0)] m) λa1=>Q .normal ⟨[(4,a1.1)],a1.2⟩):Rg F 16 [4] AH L m Q:=ae (by kernel_rfl) h
def c18r0:=rg 18 Try.f18 0
def c18r1:=rg 18 Try.f18 1
def c18r2:=rg 18 Try.f18 2
def c18r3:=rg 18 Try.f18 3
def c18r4:=rg 18 Try.f18 4
def c18r5:=rg 18 Try.f18 5
def c18r6:=rg 18 Try.f18 6
def c18r7:=rg 18 Try.f18 7
def c18r8:=rg 18 Try.f18 8
def c18r9:=rg 18 Try.f18 9
def OC:=rg 18 Try.f18 10
def OD:=rg 18 Try.f18 11
def OE:=rg 18 Try.f18 12
def OF:=rg 18 Try.f18 13
def OG:=rg 18 Try.f18 14
def OH:=rg 18 Try.f18 15
def OI:=rg 18 Try.f18 16
def NF:SC:=
 (.seq (.reg false (some [0,4,16,17,18,53,54,55,56]) OE) (.seq (.cond (.tmp 56) .nop (.exit 3)) (.seq (.block 4 (.seq (.reg false (some [0,4,7,16,17,18,53,54,55]) OF) (.seq (.reg false (some [0,4,16,17,18,53,54,55,71]) OG) (.cond (.tmp 71) (.seq (.reg false (some [2,3]) OH) .ret) .nop)))) (.reg false (some [0,4,16,17,18,53,54,55]) OI))))
def OJ:=rg 18 Try.f18 17
def c18l1:SC:=
 (.seq (.reg false (some [0,16,17,18,19]) c18r6) (.seq (.cond (.tmp 19) .nop (.exit 1)) (.seq (.block 2 (.seq (.reg false (some [0,4,5,16,17,18]) c18r7) (.seq (.seq (.reg false (some [0,4,5,16,17,18,25]) c18r8) (.cond (.tmp 25) (.exit 2) .nop)) (.seq (.seq (.reg false (some [0,4,16,17,18,49]) c18r9) (.cond (.tmp 49) (.seq (.reg false (some [2,3]) OC) .ret) .nop)) (.seq (.reg false (some [0,4,16,17,18,53,54,55]) OD) (.block 3 (.loop NF))))))) (.reg false (some [0,16,17,18]) OJ))))
def OK:=rg 18 Try.f18 18
def c18:SC:=
 (.seq (.reg false (some [0]) c18r0) (.seq (.block 0 (.seq (.reg false (some [0,8]) c18r1) (.cond (.tmp 8) (.seq (.reg false (some [2,3]) c18r2) .ret) (.seq (.reg false (some [0,12]) c18r3) (.cond (.tmp 12) (.seq (.reg false (some [2,3]) c18r4) .ret) .nop))))) (.seq (.seq (.reg false (some [0,16,17,18]) c18r5) (.block 1 (.loop c18l1))) (.seq (.reg false (some [2,3]) OK) .ret))))
theorem s18:Try.f18.body.bind (bh Try.prog An 18 Try.f18.ntmps)=some c18:=by kernel_rfl
theorem g18:An.glob 18=[]:=rfl
theorem r18:Try.f18.results.toList=[(.tmp 2),(.tmp 3)]:=by kernel_rfl
theorem Qo (h:Q .normal ⟨[(0,(ac L 0))],m⟩):Rg F 18 [0] c18r0 L m Q:=ae (by kernel_rfl) h
theorem Qp (h:Obt (lenS (ac L 0)) λa0=>Obt (aw Try.prog .gtr 3 (.tmp 10) (.const (.int .i64 4096)) a0 (.int .i64 4096)) λa1=>Q .normal ⟨[(0,(ac L 0)),(8,a1)],m⟩):Rg F 18 [0,8] c18r1 L m Q:=ae (by kernel_rfl) h
theorem t18r2 (h:Q .normal ⟨[(2,(.int .i64 0)),(3,(.int .i64 31))],m⟩):Rg F 18 [2,3] c18r2 L m Q:=ae (by kernel_rfl) h
theorem t18r3 (h:Obt (lenS (ac L 0)) λa0=>Obt (aw Try.prog .eql 3 (.tmp 14) (.const (.int .i64 0)) a0 (.int .i64 0)) λa1=>Q .normal ⟨[(0,(ac L 0)),(12,a1)],m⟩):Rg F 18 [0,12] c18r3 L m Q:=ae (by kernel_rfl) h
theorem t18r4 (h:Q .normal ⟨[(2,(.int .i64 0)),(3,(.int .i64 40))],m⟩):Rg F 18 [2,3] c18r4 L m Q:=ae (by kernel_rfl) h
theorem t18r5 (h:Obt (lenS (ac L 0)) λa0=>Q .normal ⟨[(0,(ac L 0)),(16,(ac L 0)),(17,a0),(18,(.int .i64 0))],m⟩):Rg F 18 [0,16,17,18] c18r5 L m Q:=ae (by kernel_rfl) h
theorem LW (h:Obt (aw Try.prog .lss 3 (.tmp 18) (.tmp 17) (ac L 18) (ac L 17)) λa0=>Q .normal ⟨[(0,(ac L 0)),(16,(ac L 16)),(17,(ac L 17)),(18,(ac L 18)),(19,a0)],m⟩):Rg F 18 [0,16,17,18,19] c18r6 L m Q:=ae (by kernel_rfl) h
theorem Mj (h:Obt (bd 6 (ac L 16) (ac L 18)) λa0=>Obt (ldA 6 m a0) λa1=>Obt (stX 6 (bw m 80 [.int .i64 0,.int .i64 0,.int .i64 0,.int .i64 0,.int .i64 0,.int .u64 0]) (bo m 80) a1) λa2=>Q .normal ⟨[(0,(ac L 0)),(4,(ac L 18)),(5,(bo m 80)),(16,(ac L 16)),(17,(ac L 17)),(18,(ac L 18))],a2⟩):Rg F 18 [0,4,5,16,17,18] c18r7 L m Q:=ae (by kernel_rfl) h
theorem Mk (h:Obt (cd An F 18 (some 25) 34 [(ac L 0),(ac L 4)] m) λa0=>Q .normal ⟨[(0,(ac L 0)),(4,(ac L 4)),(5,(ac L 5)),(16,(ac L 16)),(17,(ac L 17)),(18,(ac L 18)),(25,a0.1)],a0.2⟩):Rg F 18 [0,4,5,16,17,18,25] c18r8 L m Q:=ae (by kernel_rfl) h
theorem M4 (h:Obt (ldA 6 m (ac L 5)) λa0=>Obt (cd An F 18 (some 27) 35 [a0] m) λa1=>Obt (cun .not a1.1) λa2=>Obt (gdO a2 false ((aA 0 (ac L 5)).map λv=>(v,a1.2)) (.tuple [],a1.2)) λa3=>Obt (gdO a2 false ((ld1 a3.2 a3.1).map λv=>(v,a3.2)) (.tuple [],a3.2)) λa4=>Obt (gdO a2 false ((aw Try.prog .eql 3 (.tmp 31) (.const (.int .i64 24)) a4.1 (.int .i64 24)).map λv=>(v,a4.2)) (.tuple [],a4.2)) λa5=>Obt (gdO a2 false (some (a5.1,a5.2)) (.tuple [],a5.2)) λa6=>Obt (gdO a6.1 true (some ((ac L 4),a6.2)) (.tuple [],a6.2)) λa7=>Obt (gdO a6.1 true ((aw Try.prog .add 3 (.tmp 34) (.const (.int .i64 1)) a7.1 (.int .i64 1)).map λv=>(v,a7.2)) (.tuple [],a7.2)) λa8=>Obt (gdO a6.1 true (some ((ac L 0),a8.2)) (.tuple [],a8.2)) λa9=>Obt (gdO a6.1 true ((lenS a9.1).map λv=>(v,a9.2)) (.tuple [],a9.2)) λa10=>Obt (gdO a6.1 true ((aw Try.prog .eql 3 (.tmp 35) (.tmp 37) a8.1 a10.1).map λv=>(v,a10.2)) (.tuple [],a10.2)) λa11=>Obt (gdO a6.1 true (some (a11.1,a11.2)) (.tuple [],a11.2)) λa12=>Obt (gdO a12.1 false (some ((ac L 0),a12.2)) (.tuple [],a12.2)) λa13=>Obt (gdO a12.1 false (some ((ac L 4),a13.2)) (.tuple [],a13.2)) λa14=>Obt (gdO a12.1 false ((aw Try.prog .add 3 (.tmp 41) (.const (.int .i64 1)) a14.1 (.int .i64 1)).map λv=>(v,a14.2)) (.tuple [],a14.2)) λa15=>Obt (gdO a12.1 false ((bd 6 a13.1 a15.1).map λv=>(v,a15.2)) (.tuple [],a15.2)) λa16=>Obt (gdO a12.1 false ((ldA 6 a16.2 a16.1).map λv=>(v,a16.2)) (.tuple [],a16.2)) λa17=>Obt (gdO a12.1 false (((bg [.int .i64 0,.int .i64 0,.int .i64 0,.int .i64 0,.int .i64 0,.int .u64 0] []).map CV.agg).map λv=>(v,a17.2)) (.tuple [],a17.2)) λa18=>Obt (gdO a12.1 false ((aw Try.prog .neq 47 (.tmp 44) (.tmp 45) a17.1 a18.1).map λv=>(v,a18.2)) (.tuple [],a18.2)) λa19=>Obt (gdO a6.1 true ((cT a12.1 (.bool true) a19.1).map λv=>(v,a19.2)) (.tuple [],a19.2)) λa20=>Obt (gdO a2 false ((cT a6.1 a20.1 (.bool false)).map λv=>(v,a20.2)) (.tuple [],a20.2)) λa21=>Obt (cT a2 (.bool true) a21.1) λa22=>Q .normal ⟨[(0,(ac L 0)),(4,(ac L 4)),(16,(ac L 16)),(17,(ac L 17)),(18,(ac L 18)),(49,a22)],a21.2⟩):Rg F 18 [0,4,16,17,18,49] c18r9 L m Q:=ae (by kernel_rfl) h
theorem Nv (h:Q .normal ⟨[(2,(ac L 4)),(3,(.int .i64 40))],m⟩):Rg F 18 [2,3] OC L m Q:=ae (by kernel_rfl) h
theorem Qq (h:Obt (cd An F 18 (some 53) 20 [(ac L 0),(ac L 4)] m) λa0=>Obt (lenS a0.1) λa1=>Q .normal ⟨[(0,(ac L 0)),(4,(ac L 4)),(16,(ac L 16)),(17,(ac L 17)),(18,(ac L 18)),(53,a0.1),(54,a1),(55,(.int .i64 0))],a0.2⟩):Rg F 18 [0,4,16,17,18,53,54,55] OD L m Q:=ae (by kernel_rfl) h
theorem LV (h:Obt (aw Try.prog .lss 3 (.tmp 55) (.tmp 54) (ac L 55) (ac L 54)) λa0=>Q .normal ⟨[(0,(ac L 0)),(4,(ac L 4)),(16,(ac L 16)),(17,(ac L 17)),(18,(ac L 18)),(53,(ac L 53)),(54,(ac L 54)),(55,(ac L 55)),(56,a0)],m⟩):Rg F 18 [0,4,16,17,18,53,54,55,56] OE L m Q:=ae (by kernel_rfl) h
theorem Mx (h:Obt (bd 1 (ac L 53) (ac L 55)) λa0=>Obt (ld1 m a0) λa1=>Q .normal ⟨[(0,(ac L 0)),(4,(ac L 4)),(7,a1),(16,(ac L 16)),(17,(ac L 17)),(18,(ac L 18)),(53,(ac L 53)),(54,(ac L 54)),(55,(ac L 55))],m⟩):Rg F 18 [0,4,7,16,17,18,53,54,55] OF L m Q:=ae (by kernel_rfl) h
theorem My (h:Obt (aw Try.prog .lss 3 (.tmp 59) (.const (.int .i64 0)) (ac L 7) (.int .i64 0)) λa0=>Obt (gdO a0 false (some ((ac L 7),m)) (.tuple [],m)) λa1=>Obt (gdO a0 false (some ((ac L 0),a1.2)) (.tuple [],a1.2)) λa2=>Obt (gdO a0 false ((lenS a2.1).map λv=>(v,a2.2)) (.tuple [],a2.2)) λa3=>Obt (gdO a0 false ((aw Try.prog .geq 3 (.tmp 62) (.tmp 64) a1.1 a3.1).map λv=>(v,a3.2)) (.tuple [],a3.2)) λa4=>Obt (cT a0 (.bool true) a4.1) λa5=>Obt (gdO a5 false (some ((ac L 0),a4.2)) (.tuple [],a4.2)) λa6=>Obt (gdO a5 false (some ((ac L 7),a6.2)) (.tuple [],a6.2)) λa7=>Obt (gdO a5 false (cd An F 18 (some 70) 34 [a6.1,a7.1] a7.2) (.tuple [],a7.2)) λa8=>Obt (cT a5 (.bool true) a8.1) λa9=>Q .normal ⟨[(0,(ac L 0)),(4,(ac L 4)),(16,(ac L 16)),(17,(ac L 17)),(18,(ac L 18)),(53,(ac L 53)),(54,(ac L 54)),(55,(ac L 55)),(71,a9)],a8.2⟩):Rg F 18 [0,4,16,17,18,53,54,55,71] OG L m Q:=ae (by kernel_rfl) h
theorem Nw (h:Q .normal ⟨[(2,(ac L 4)),(3,(.int .i64 40))],m⟩):Rg F 18 [2,3] OH L m Q:=ae (by kernel_rfl) h
theorem t18r16 (h:Obt (aw Try.prog .add 3 (.tmp 55) (.const (.int .i64 1)) (ac L 55) (.int .i64 1)) λa0=>Q .normal ⟨[(0,(ac L 0)),(4,(ac L 4)),(16,(ac L 16)),(17,(ac L 17)),(18,(ac L 18)),(53,(ac L 53)),(54,(ac L 54)),(55,a0)],m⟩):Rg F 18 [0,4,16,17,18,53,54,55] OI L m Q:=ae (by kernel_rfl) h
theorem Nx (h:Obt (aw Try.prog .add 3 (.tmp 18) (.const (.int .i64 1)) (ac L 18) (.int .i64 1)) λa0=>Q .normal ⟨[(0,(ac L 0)),(16,(ac L 16)),(17,(ac L 17)),(18,a0)],m⟩):Rg F 18 [0,16,17,18] OJ L m Q:=ae (by kernel_rfl) h
theorem t18r18 (h:Q .normal ⟨[(2,(.int .i64 0)),(3,(.int .i64 0))],m⟩):Rg F 18 [2,3] OK L m Q:=ae (by kernel_rfl) h
def c19r0:=rg 19 Try.f19 0
def c19r1:=rg 19 Try.f19 1
def c19r2:=rg 19 Try.f19 2
def c19:SC:=
 (.seq (.reg false (some [1]) c19r0) (.seq (.reg false (some [1,5]) c19r1) (.seq (.reg false (some [2]) c19r2) .ret)))
theorem s19:Try.f19.body.bind (bh Try.prog An 19 Try.f19.ntmps)=some c19:=by kernel_rfl
theorem g19:An.glob 19=[]:=rfl
theorem r19:Try.f19.results.toList=[(.tmp 2)]:=by kernel_rfl
theorem t19r0 (h:Obt (ap (ac L 0)) λa0=>Q .normal ⟨[(1,(bo m 16))],(bw m 16 a0)⟩):Rg F 19 [1] c19r0 L m Q:=ae (by kernel_rfl) h
theorem t19r1 (h:Obt (aA 0 (ac L 1)) λa0=>Obt (ld1 m a0) λa1=>Obt (cd An F 19 (some 9) 36 [a1] m) λa2=>Obt (cV 0 a2.1) λa3=>Obt (cV 1 a2.1) λa4=>Obt (cV 2 a2.1) λa5=>Q .normal ⟨[(1,(ac L 1)),(5,a5)],a2.2⟩):Rg F 19 [1,5] c19r1 L m Q:=ae (by kernel_rfl) h
theorem t19r2 (h:Obt (gdO (ac L 5) false ((aA 0 (ac L 1)).map λv=>(v,m)) (.tuple [],m)) λa0=>Obt (gdO (ac L 5) false ((ld1 a0.2 a0.1).map λv=>(v,a0.2)) (.tuple [],a0.2)) λa1=>Obt (gdO (ac L 5) false ((aw Try.prog .eql 3 (.tmp 16) (.const (.int .i64 5)) a1.1 (.int .i64 5)).map λv=>(v,a1.2)) (.tuple [],a1.2)) λa2=>Obt (cT (ac L 5) (.bool true) a2.1) λa3=>Q .normal ⟨[(2,a3)],a2.2⟩):Rg F 19 [2] c19r2 L m Q:=ae (by kernel_rfl) h
def c20r0:=rg 20 Try.f20 0
def c20r1:=rg 20 Try.f20 1
def c20r2:=rg 20 Try.f20 2
def c20r3:=rg 20 Try.f20 3
def c20r4:=rg 20 Try.f20 4
def c20r5:=rg 20 Try.f20 5
def c20r6:=rg 20 Try.f20 6
def c20r7:=rg 20 Try.f20 7
def c20r8:=rg 20 Try.f20 8
def c20r9:=rg 20 Try.f20 9
def OL:=rg 20 Try.f20 10
def OM:=rg 20 Try.f20 11
def ON:=rg 20 Try.f20 12
def OO:=rg 20 Try.f20 13
def c20:SC:=
 (.seq (.reg false (some [0,1]) c20r0) (.seq (.seq (.reg false (some [0,1,21]) c20r1) (.cond (.tmp 21) (.seq (.reg false (some [4]) c20r2) .ret) .nop)) (.seq (.reg false (some [1,5]) c20r3) (.seq (.reg false (some [1,5,8]) c20r4) (.seq (.block 0 (.seq (.reg false (some [1,5,8,33]) c20r5) (.cond (.tmp 33) (.seq (.reg false (some [4]) c20r6) .ret) (.seq (.reg false (some [1,5,8,37]) c20r7) (.cond (.tmp 37) (.seq (.reg false (some [4]) c20r8) .ret) (.seq (.reg false (some [1,5,47]) c20r9) (.cond (.tmp 47) (.seq (.reg false (some [4]) OL) .ret) (.seq (.reg false (some [1,57]) OM) (.cond (.tmp 57) (.seq (.reg false (some [4]) ON) .ret) .nop))))))))) (.seq (.reg false (some [4]) OO) .ret))))))
theorem s20:Try.f20.body.bind (bh Try.prog An 20 Try.f20.ntmps)=some c20:=by kernel_rfl
theorem g20:An.glob 20=[]:=rfl
theorem r20:Try.f20.results.toList=[(.tmp 4)]:=by kernel_rfl
theorem Lr (h:Q .normal ⟨[(0,(ac L 0)),(1,(ac L 1))],m⟩):Rg F 20 [0,1] c20r0 L m Q:=ae (by kernel_rfl) h
theorem Ls (h:Obt (aw Try.prog .lss 3 (.tmp 9) (.const (.int .i64 0)) (ac L 1) (.int .i64 0)) λa0=>Obt (gdO a0 false (some ((ac L 1),m)) (.tuple [],m)) λa1=>Obt (gdO a0 false (some ((ac L 0),a1.2)) (.tuple [],a1.2)) λa2=>Obt (gdO a0 false ((lenS a2.1).map λv=>(v,a2.2)) (.tuple [],a2.2)) λa3=>Obt (gdO a0 false ((aw Try.prog .geq 3 (.tmp 12) (.tmp 14) a1.1 a3.1).map λv=>(v,a3.2)) (.tuple [],a3.2)) λa4=>Obt (cT a0 (.bool true) a4.1) λa5=>Obt (gdO a5 false (some ((ac L 0),a4.2)) (.tuple [],a4.2)) λa6=>Obt (gdO a5 false (some ((ac L 1),a6.2)) (.tuple [],a6.2)) λa7=>Obt (gdO a5 false (cd An F 20 (some 20) 34 [a6.1,a7.1] a7.2) (.tuple [],a7.2)) λa8=>Obt (cT a5 (.bool true) a8.1) λa9=>Q .normal ⟨[(0,(ac L 0)),(1,(ac L 1)),(21,a9)],a8.2⟩):Rg F 20 [0,1,21] c20r1 L m Q:=ae (by kernel_rfl) h
theorem Qs (h:Q .normal ⟨[(4,.nil)],m⟩):Rg F 20 [4] c20r2 L m Q:=ae (by kernel_rfl) h
theorem M5 (h:Obt (bd 6 (ac L 0) (ac L 1)) λa0=>Obt (ldA 6 m a0) λa1=>Obt (stX 6 (bw m 80 [.int .i64 0,.int .i64 0,.int .i64 0,.int .i64 0,.int .i64 0,.int .u64 0]) (bo m 80) a1) λa2=>Q .normal ⟨[(1,(ac L 1)),(5,(bo m 80))],a2⟩):Rg F 20 [1,5] c20r3 L m Q:=ae (by kernel_rfl) h
theorem M6 (h:Obt (aA 0 (ac L 5)) λa0=>Obt (ld1 m a0) λa1=>Obt (cd An F 20 (some 29) 36 [a1] m) λa2=>Obt (cV 0 a2.1) λa3=>Obt (cV 1 a2.1) λa4=>Obt (cV 2 a2.1) λa5=>Q .normal ⟨[(1,(ac L 1)),(5,(ac L 5)),(8,a5)],a2.2⟩):Rg F 20 [1,5,8] c20r4 L m Q:=ae (by kernel_rfl) h
theorem M7 (h:Obt (aA 0 (ac L 5)) λa0=>Obt (ld1 m a0) λa1=>Obt (aw Try.prog .eql 3 (.tmp 35) (.const (.int .i64 149)) a1 (.int .i64 149)) λa2=>Q .normal ⟨[(1,(ac L 1)),(5,(ac L 5)),(8,(ac L 8)),(33,a2)],m⟩):Rg F 20 [1,5,8,33] c20r5 L m Q:=ae (by kernel_rfl) h
theorem t20r6 (h:Q .normal ⟨[(4,.nil)],m⟩):Rg F 20 [4] c20r6 L m Q:=ae (by kernel_rfl) h
theorem NO (h:Obt (aA 0 (ac L 5)) λa0=>Obt (ld1 m a0) λa1=>Obt (aw Try.prog .eql 3 (.tmp 39) (.const (.int .i64 5)) a1 (.int .i64 5)) λa2=>Q .normal ⟨[(1,(ac L 1)),(5,(ac L 5)),(8,(ac L 8)),(37,a2)],m⟩):Rg F 20 [1,5,8,37] c20r7 L m Q:=ae (by kernel_rfl) h
theorem t20r8 (h:Obt (aw Try.prog .add 3 (.tmp 41) (.const (.int .i64 1)) (ac L 1) (.int .i64 1)) λa0=>Obt (aA 3 (ac L 5)) λa1=>Obt (ld1 m a1) λa2=>Obt (aw Try.prog .add 3 (.tmp 42) (.tmp 44) a0 a2) λa3=>Obt (be false 736 1 1 [.int .i64 0] [(0,1,a3)] m) λa4=>Q .normal ⟨[(4,a4.1)],a4.2⟩):Rg F 20 [4] c20r8 L m Q:=ae (by kernel_rfl) h
theorem Qt (h:Q .normal ⟨[(1,(ac L 1)),(5,(ac L 5)),(47,(ac L 8))],m⟩):Rg F 20 [1,5,47] c20r9 L m Q:=ae (by kernel_rfl) h
theorem t20r10 (h:Obt (aw Try.prog .add 3 (.tmp 49) (.const (.int .i64 1)) (ac L 1) (.int .i64 1)) λa0=>Obt (aw Try.prog .add 3 (.tmp 51) (.const (.int .i64 1)) (ac L 1) (.int .i64 1)) λa1=>Obt (aA 3 (ac L 5)) λa2=>Obt (ld1 m a2) λa3=>Obt (aw Try.prog .add 3 (.tmp 52) (.tmp 54) a1 a3) λa4=>Obt (be false 896 1 2 [.int .i64 0,.int .i64 0] [(0,1,a0),(1,1,a4)] m) λa5=>Q .normal ⟨[(4,a5.1)],a5.2⟩):Rg F 20 [4] OL L m Q:=ae (by kernel_rfl) h
theorem Qr (h:Obt (aA 0 (ac L 5)) λa0=>Obt (ld1 m a0) λa1=>Obt (aw Try.prog .eql 3 (.tmp 59) (.const (.int .i64 24)) a1 (.int .i64 24)) λa2=>Q .normal ⟨[(1,(ac L 1)),(57,a2)],m⟩):Rg F 20 [1,57] OM L m Q:=ae (by kernel_rfl) h
theorem t20r12 (h:Obt (aw Try.prog .add 3 (.tmp 61) (.const (.int .i64 2)) (ac L 1) (.int .i64 2)) λa0=>Obt (be false 1008 1 1 [.int .i64 0] [(0,1,a0)] m) λa1=>Q .normal ⟨[(4,a1.1)],a1.2⟩):Rg F 20 [4] ON L m Q:=ae (by kernel_rfl) h
theorem t20r13 (h:Obt (aw Try.prog .add 3 (.tmp 64) (.const (.int .i64 1)) (ac L 1) (.int .i64 1)) λa0=>Obt (be false 1056 1 1 [.int .i64 0] [(0,1,a0)] m) λa1=>Q .normal ⟨[(4,a1.1)],a1.2⟩):Rg F 20 [4] OO L m Q:=ae (by kernel_rfl) h
def c32r0:=rg 32 Try.f32 0
def c32r1:=rg 32 Try.f32 1
def c32r2:=rg 32 Try.f32 2
def c32r3:=rg 32 Try.f32 3
def c32r4:=rg 32 Try.f32 4
def c32r5:=rg 32 Try.f32 5
def c32r7:=rg 32 Try.f32 7
def c32r6:=rg 32 Try.f32 6
def c32l0:SC:=
 (.seq (.seq (.reg false (some [0,5,6,35]) c32r5) (.cond (.tmp 35) .nop (.exit 0))) (.seq (.block 1 (.reg false (some [0,5,6]) c32r7)) (.reg false (some [0,5,6]) c32r6)))
def c32r8:=rg 32 Try.f32 8
def c32:SC:=
 (.seq (.reg false (some [0,1]) c32r0) (.seq (.seq (.reg false (some [0,1,23]) c32r1) (.cond (.tmp 23) (.seq (.reg false (some [4]) c32r2) .ret) .nop)) (.seq (.reg false (some [0,1,5]) c32r3) (.seq (.seq (.reg false (some [0,5,6]) c32r4) (.block 0 (.loop c32l0))) (.seq (.reg false (some [4]) c32r8) .ret)))))
theorem s32:Try.f32.body.bind (bh Try.prog An 32 Try.f32.ntmps)=some c32:=by kernel_rfl
theorem g32:An.glob 32=[]:=rfl
theorem r32:Try.f32.results.toList=[(.tmp 4)]:=by kernel_rfl
theorem NQ (h:Q .normal ⟨[(0,(ac L 0)),(1,(ac L 1))],m⟩):Rg F 32 [0,1] c32r0 L m Q:=ae (by kernel_rfl) h
theorem NR (h:Obt (aw Try.prog .lss 3 (.tmp 7) (.const (.int .i64 1)) (ac L 1) (.int .i64 1)) λa0=>Obt (gdO a0 false (some ((ac L 1),m)) (.tuple [],m)) λa1=>Obt (gdO a0 false (some ((ac L 0),a1.2)) (.tuple [],a1.2)) λa2=>Obt (gdO a0 false ((lenS a2.1).map λv=>(v,a2.2)) (.tuple [],a2.2)) λa3=>Obt (gdO a0 false ((aw Try.prog .geq 3 (.tmp 10) (.tmp 12) a1.1 a3.1).map λv=>(v,a3.2)) (.tuple [],a3.2)) λa4=>Obt (cT a0 (.bool true) a4.1) λa5=>Obt (gdO a5 false (some ((ac L 0),a4.2)) (.tuple [],a4.2)) λa6=>Obt (gdO a5 false (some ((ac L 1),a6.2)) (.tuple [],a6.2)) λa7=>Obt (gdO a5 false ((aw Try.prog .sub 3 (.tmp 17) (.const (.int .i64 1)) a7.1 (.int .i64 1)).map λv=>(v,a7.2)) (.tuple [],a7.2)) λa8=>Obt (gdO a5 false ((bd 6 a6.1 a8.1).map λv=>(v,a8.2)) (.tuple [],a8.2)) λa9=>Obt (gdO a5 false ((aA 0 a9.1).map λv=>(v,a9.2)) (.tuple [],a9.2)) λa10=>Obt (gdO a5 false ((ld1 a10.2 a10.1).map λv=>(v,a10.2)) (.tuple [],a10.2)) λa11=>Obt (gdO a5 false ((aw Try.prog .neq 3 (.tmp 21) (.const (.int .i64 24)) a11.1 (.int .i64 24)).map λv=>(v,a11.2)) (.tuple [],a11.2)) λa12=>Obt (cT a5 (.bool true) a12.1) λa13=>Q .normal ⟨[(0,(ac L 0)),(1,(ac L 1)),(23,a13)],a12.2⟩):Rg F 32 [0,1,23] c32r1 L m Q:=ae (by kernel_rfl) h
theorem QC (h:Q .normal ⟨[(4,(.bool false))],m⟩):Rg F 32 [4] c32r2 L m Q:=ae (by kernel_rfl) h
theorem t32r3 (h:Q .normal ⟨[(0,(ac L 0)),(1,(ac L 1)),(5,(.int .i64 0))],m⟩):Rg F 32 [0,1,5] c32r3 L m Q:=ae (by kernel_rfl) h
theorem t32r4 (h:Obt (aw Try.prog .sub 3 (.tmp 24) (.const (.int .i64 1)) (ac L 1) (.int .i64 1)) λa0=>Q .normal ⟨[(0,(ac L 0)),(5,(ac L 5)),(6,a0)],m⟩):Rg F 32 [0,5,6] c32r4 L m Q:=ae (by kernel_rfl) h
theorem QD (h:Obt (aw Try.prog .geq 3 (.tmp 26) (.const (.int .i64 0)) (ac L 6) (.int .i64 0)) λa0=>Obt (gdO a0 true (some ((ac L 0),m)) (.tuple [],m)) λa1=>Obt (gdO a0 true (some ((ac L 6),a1.2)) (.tuple [],a1.2)) λa2=>Obt (gdO a0 true ((bd 6 a1.1 a2.1).map λv=>(v,a2.2)) (.tuple [],a2.2)) λa3=>Obt (gdO a0 true ((aA 0 a3.1).map λv=>(v,a3.2)) (.tuple [],a3.2)) λa4=>Obt (gdO a0 true ((ld1 a4.2 a4.1).map λv=>(v,a4.2)) (.tuple [],a4.2)) λa5=>Obt (gdO a0 true ((aw Try.prog .eql 3 (.tmp 33) (.const (.int .i64 24)) a5.1 (.int .i64 24)).map λv=>(v,a5.2)) (.tuple [],a5.2)) λa6=>Obt (cT a0 a6.1 (.bool false)) λa7=>Q .normal ⟨[(0,(ac L 0)),(5,(ac L 5)),(6,(ac L 6)),(35,a7)],a6.2⟩):Rg F 32 [0,5,6,35] c32r5 L m Q:=ae (by kernel_rfl) h
theorem t32r7 (h:Obt (aw Try.prog .add 3 (.tmp 38) (.const (.int .i64 1)) (ac L 5) (.int .i64 1)) λa0=>Q .normal ⟨[(0,(ac L 0)),(5,a0),(6,(ac L 6))],m⟩):Rg F 32 [0,5,6] c32r7 L m Q:=ae (by kernel_rfl) h
theorem t32r6 (h:Obt (aw Try.prog .sub 3 (.tmp 36) (.const (.int .i64 1)) (ac L 6) (.int .i64 1)) λa0=>Q .normal ⟨[(0,(ac L 0)),(5,(ac L 5)),(6,a0)],m⟩):Rg F 32 [0,5,6] c32r6 L m Q:=ae (by kernel_rfl) h
theorem t32r8 (h:Obt (aw Try.prog .rem 3 (.tmp 40) (.const (.int .i64 2)) (ac L 5) (.int .i64 2)) λa0=>Obt (aw Try.prog .eql 3 (.tmp 41) (.const (.int .i64 1)) a0 (.int .i64 1)) λa1=>Q .normal ⟨[(4,a1)],m⟩):Rg F 32 [4] c32r8 L m Q:=ae (by kernel_rfl) h
def c33r0:=rg 33 Try.f33 0
def c33r1:=rg 33 Try.f33 1
def c33r2:=rg 33 Try.f33 2
def c33r3:=rg 33 Try.f33 3
def c33r4:=rg 33 Try.f33 4
def c33r5:=rg 33 Try.f33 5
def c33:SC:=
 (.seq (.reg false (some [0]) c33r0) (.seq (.reg false (some [0,5]) c33r1) (.seq (.reg false (some [0,5,6]) c33r2) (.seq (.seq (.reg false (some [5,6,40]) c33r3) (.cond (.tmp 40) (.seq (.reg false (some [2,3,4]) c33r4) .ret) .nop)) (.seq (.reg false (some [2,3,4]) c33r5) .ret)))))
theorem s33:Try.f33.body.bind (bh Try.prog An 33 Try.f33.ntmps)=some c33:=by kernel_rfl
theorem g33:An.glob 33=[]:=rfl
theorem r33:Try.f33.results.toList=[(.tmp 2),(.tmp 3),(.tmp 4)]:=by kernel_rfl
theorem wv (h:Q .normal ⟨[(0,(ac L 0))],m⟩):Rg F 33 [0] c33r0 L m Q:=ae (by kernel_rfl) h
theorem w4 (h:Obt (aw Try.prog .and 3 (.tmp 7) (.const (.int .i64 7)) (ac L 0) (.int .i64 7)) λa0=>Q .normal ⟨[(0,(ac L 0)),(5,a0)],m⟩):Rg F 33 [0,5] c33r1 L m Q:=ae (by kernel_rfl) h
theorem w5 (h:Obt (aw Try.prog .andNot 3 (.tmp 9) (.const (.int .i64 15)) (ac L 0) (.int .i64 15)) λa0=>Q .normal ⟨[(0,(ac L 0)),(5,(ac L 5)),(6,a0)],m⟩):Rg F 33 [0,5,6] c33r2 L m Q:=ae (by kernel_rfl) h
theorem w6 (h:Obt (aw Try.prog .lss 3 (.tmp 11) (.const (.int .i64 0)) (ac L 0) (.int .i64 0)) λa0=>Obt (gdO a0 false (some ((ac L 0),m)) (.tuple [],m)) λa1=>Obt (gdO a0 false ((aw Try.prog .gtr 3 (.tmp 14) (.const (.int .i64 255)) a1.1 (.int .i64 255)).map λv=>(v,a1.2)) (.tuple [],a1.2)) λa2=>Obt (cT a0 (.bool true) a2.1) λa3=>Obt (gdO a3 false (some ((ac L 5),a2.2)) (.tuple [],a2.2)) λa4=>Obt (gdO a3 false ((aw Try.prog .neq 3 (.tmp 18) (.const (.int .i64 5)) a4.1 (.int .i64 5)).map λv=>(v,a4.2)) (.tuple [],a4.2)) λa5=>Obt (gdO a3 false (some (a5.1,a5.2)) (.tuple [],a5.2)) λa6=>Obt (gdO a6.1 true (some ((ac L 5),a6.2)) (.tuple [],a6.2)) λa7=>Obt (gdO a6.1 true ((aw Try.prog .neq 3 (.tmp 21) (.const (.int .i64 6)) a7.1 (.int .i64 6)).map λv=>(v,a7.2)) (.tuple [],a7.2)) λa8=>Obt (gdO a3 false ((cT a6.1 a8.1 (.bool false)).map λv=>(v,a8.2)) (.tuple [],a8.2)) λa9=>Obt (cT a3 (.bool true) a9.1) λa10=>Obt (gdO a10 false (some ((ac L 6),a9.2)) (.tuple [],a9.2)) λa11=>Obt (gdO a10 false ((aw Try.prog .eql 3 (.tmp 26) (.const (.int .i64 0)) a11.1 (.int .i64 0)).map λv=>(v,a11.2)) (.tuple [],a11.2)) λa12=>Obt (cT a10 (.bool true) a12.1) λa13=>Obt (gdO a13 false (some ((ac L 6),a12.2)) (.tuple [],a12.2)) λa14=>Obt (gdO a13 false ((aw Try.prog .eql 3 (.tmp 30) (.const (.int .i64 128)) a14.1 (.int .i64 128)).map λv=>(v,a14.2)) (.tuple [],a14.2)) λa15=>Obt (cT a13 (.bool true) a15.1) λa16=>Obt (gdO a16 false (some ((ac L 6),a15.2)) (.tuple [],a15.2)) λa17=>Obt (gdO a16 false ((aw Try.prog .eql 3 (.tmp 34) (.const (.int .i64 144)) a17.1 (.int .i64 144)).map λv=>(v,a17.2)) (.tuple [],a17.2)) λa18=>Obt (cT a16 (.bool true) a18.1) λa19=>Obt (gdO a19 false (some ((ac L 6),a18.2)) (.tuple [],a18.2)) λa20=>Obt (gdO a19 false ((aw Try.prog .gtr 3 (.tmp 38) (.const (.int .i64 208)) a20.1 (.int .i64 208)).map λv=>(v,a20.2)) (.tuple [],a20.2)) λa21=>Obt (cT a19 (.bool true) a21.1) λa22=>Q .normal ⟨[(5,(ac L 5)),(6,(ac L 6)),(40,a22)],a21.2⟩):Rg F 33 [5,6,40] c33r3 L m Q:=ae (by kernel_rfl) h
theorem Kr (h:Q .normal ⟨[(2,(.int .i64 0)),(3,(.bool false)),(4,(.bool false))],m⟩):Rg F 33 [2,3,4] c33r4 L m Q:=ae (by kernel_rfl) h
theorem t33r5 (h:Obt (aw Try.prog .eql 3 (.tmp 42) (.const (.int .i64 5)) (ac L 5) (.int .i64 5)) λa0=>Q .normal ⟨[(2,(ac L 6)),(3,a0),(4,(.bool true))],m⟩):Rg F 33 [2,3,4] c33r5 L m Q:=ae (by kernel_rfl) h
def c34r0:=rg 34 Try.f34 0
def c34r1:=rg 34 Try.f34 1
def c34r2:=rg 34 Try.f34 2
def c34r3:=rg 34 Try.f34 3
def c34r4:=rg 34 Try.f34 4
def c34r5:=rg 34 Try.f34 5
def c34l0:SC:=
 (.seq (.seq (.reg false (some [0,1,5,27]) c34r4) (.cond (.tmp 27) .nop (.exit 0))) (.block 1 (.reg false (some [0,1,5]) c34r5)))
def c34r6:=rg 34 Try.f34 6
def c34:SC:=
 (.seq (.reg false (some [0,1]) c34r0) (.seq (.seq (.reg false (some [0,1,13]) c34r1) (.cond (.tmp 13) (.seq (.reg false (some [4]) c34r2) .ret) .nop)) (.seq (.reg false (some [0,1,5]) c34r3) (.seq (.block 0 (.loop c34l0)) (.seq (.reg false (some [4]) c34r6) .ret)))))
theorem s34:Try.f34.body.bind (bh Try.prog An 34 Try.f34.ntmps)=some c34:=by kernel_rfl
theorem g34:An.glob 34=[]:=rfl
theorem r34:Try.f34.results.toList=[(.tmp 4)]:=by kernel_rfl
theorem QE (h:Q .normal ⟨[(0,(ac L 0)),(1,(ac L 1))],m⟩):Rg F 34 [0,1] c34r0 L m Q:=ae (by kernel_rfl) h
theorem QF (h:Obt (aw Try.prog .lss 3 (.tmp 6) (.const (.int .i64 1)) (ac L 1) (.int .i64 1)) λa0=>Obt (gdO a0 false (some ((ac L 1),m)) (.tuple [],m)) λa1=>Obt (gdO a0 false (some ((ac L 0),a1.2)) (.tuple [],a1.2)) λa2=>Obt (gdO a0 false ((lenS a2.1).map λv=>(v,a2.2)) (.tuple [],a2.2)) λa3=>Obt (gdO a0 false ((aw Try.prog .geq 3 (.tmp 9) (.tmp 11) a1.1 a3.1).map λv=>(v,a3.2)) (.tuple [],a3.2)) λa4=>Obt (cT a0 (.bool true) a4.1) λa5=>Q .normal ⟨[(0,(ac L 0)),(1,(ac L 1)),(13,a5)],a4.2⟩):Rg F 34 [0,1,13] c34r1 L m Q:=ae (by kernel_rfl) h
theorem t34r2 (h:Q .normal ⟨[(4,(.bool false))],m⟩):Rg F 34 [4] c34r2 L m Q:=ae (by kernel_rfl) h
theorem t34r3 (h:Q .normal ⟨[(0,(ac L 0)),(1,(ac L 1)),(5,(.int .i64 0))],m⟩):Rg F 34 [0,1,5] c34r3 L m Q:=ae (by kernel_rfl) h
theorem QG (h:Obt (aw Try.prog .lss 3 (.tmp 14) (.tmp 15) (ac L 5) (ac L 1)) λa0=>Obt (gdO a0 true (some ((ac L 0),m)) (.tuple [],m)) λa1=>Obt (gdO a0 true (some ((ac L 1),a1.2)) (.tuple [],a1.2)) λa2=>Obt (gdO a0 true ((aw Try.prog .sub 3 (.tmp 19) (.const (.int .i64 1)) a2.1 (.int .i64 1)).map λv=>(v,a2.2)) (.tuple [],a2.2)) λa3=>Obt (gdO a0 true (some ((ac L 5),a3.2)) (.tuple [],a3.2)) λa4=>Obt (gdO a0 true ((aw Try.prog .sub 3 (.tmp 20) (.tmp 21) a3.1 a4.1).map λv=>(v,a4.2)) (.tuple [],a4.2)) λa5=>Obt (gdO a0 true ((bd 6 a1.1 a5.1).map λv=>(v,a5.2)) (.tuple [],a5.2)) λa6=>Obt (gdO a0 true ((aA 0 a6.1).map λv=>(v,a6.2)) (.tuple [],a6.2)) λa7=>Obt (gdO a0 true ((ld1 a7.2 a7.1).map λv=>(v,a7.2)) (.tuple [],a7.2)) λa8=>Obt (gdO a0 true ((aw Try.prog .eql 3 (.tmp 25) (.const (.int .i64 24)) a8.1 (.int .i64 24)).map λv=>(v,a8.2)) (.tuple [],a8.2)) λa9=>Obt (cT a0 a9.1 (.bool false)) λa10=>Q .normal ⟨[(0,(ac L 0)),(1,(ac L 1)),(5,(ac L 5)),(27,a10)],a9.2⟩):Rg F 34 [0,1,5,27] c34r4 L m Q:=ae (by kernel_rfl) h
theorem t34r5 (h:Obt (aw Try.prog .add 3 (.tmp 28) (.const (.int .i64 1)) (ac L 5) (.int .i64 1)) λa0=>Q .normal ⟨[(0,(ac L 0)),(1,(ac L 1)),(5,a0)],m⟩):Rg F 34 [0,1,5] c34r5 L m Q:=ae (by kernel_rfl) h
theorem t34r6 (h:Obt (aw Try.prog .and 3 (.tmp 30) (.const (.int .i64 1)) (ac L 5) (.int .i64 1)) λa0=>Obt (aw Try.prog .eql 3 (.tmp 31) (.const (.int .i64 1)) a0 (.int .i64 1)) λa1=>Q .normal ⟨[(4,a1)],m⟩):Rg F 34 [4] c34r6 L m Q:=ae (by kernel_rfl) h
def c35r0:=rg 35 Try.f35 0
def c35r1:=rg 35 Try.f35 1
def c35r2:=rg 35 Try.f35 2
def c35r3:=rg 35 Try.f35 3
def c35r4:=rg 35 Try.f35 4
def c35r5:=rg 35 Try.f35 5
def c35r6:=rg 35 Try.f35 6
def c35r7:=rg 35 Try.f35 7
def c35r8:=rg 35 Try.f35 8
def c35r9:=rg 35 Try.f35 9
def OZ:=rg 35 Try.f35 10
def O0:=rg 35 Try.f35 11
def O1:=rg 35 Try.f35 12
def O2:=rg 35 Try.f35 13
def O3:=rg 35 Try.f35 14
def O4:=rg 35 Try.f35 15
def O5:=rg 35 Try.f35 16
def O6:=rg 35 Try.f35 17
def O7:=rg 35 Try.f35 18
def O8:=rg 35 Try.f35 19
def O9:=rg 35 Try.f35 20
def Pa:=rg 35 Try.f35 21
def Pb:=rg 35 Try.f35 22
def Pc:=rg 35 Try.f35 23
def Pd:=rg 35 Try.f35 24
def c35:SC:=
 (.seq (.reg false (some [1]) c35r0) (.seq (.reg false (some [1,3,4,5]) c35r1) (.seq (.reg false (some [1,3,4,5,8]) c35r2) (.seq (.reg false (some [1,3,4,5,8,9]) c35r3) (.seq (.seq (.reg false (some [1,3,4,5,8,9,35]) c35r4) (.cond (.tmp 35) (.reg false (some [1,3,4,5,8,9]) c35r5) .nop)) (.seq (.seq (.reg false (some [1,3,4,5,8,51]) c35r6) (.cond (.tmp 51) (.seq (.reg false (some [2]) c35r7) .ret) .nop)) (.seq (.block 0 (.seq (.reg false (some [1,3,4,8,52]) c35r8) (.cond (.tmp 52) (.seq (.reg false (some [2]) c35r9) .ret) (.seq (.reg false (some [1,58]) OZ) (.cond (.tmp 58) (.seq (.reg false (some [2]) O0) .ret) (.seq (.reg false (some [1,62]) O1) (.cond (.tmp 62) (.seq (.reg false (some [2]) O2) .ret) (.seq (.reg false (some [1,74]) O3) (.cond (.tmp 74) (.seq (.reg false (some [2]) O4) .ret) (.seq (.reg false (some [1,91]) O5) (.cond (.tmp 91) (.seq (.reg false (some [2]) O6) .ret) (.seq (.reg false (some [1,105]) O7) (.cond (.tmp 105) (.seq (.reg false (some [2]) O8) .ret) (.seq (.reg false (some [1,111]) O9) (.cond (.tmp 111) (.seq (.reg false (some [2]) Pa) .ret) (.seq (.reg false (some [1,116]) Pb) (.cond (.tmp 116) (.seq (.reg false (some [2]) Pc) .ret) .nop))))))))))))))))) (.seq (.reg false (some [2]) Pd) .ret))))))))
theorem s35:Try.f35.body.bind (bh Try.prog An 35 Try.f35.ntmps)=some c35:=by kernel_rfl
theorem g35:An.glob 35=[]:=rfl
theorem r35:Try.f35.results.toList=[(.tmp 2)]:=by kernel_rfl
theorem ld (h:Obt (ap (ac L 0)) λa0=>Q .normal ⟨[(1,(bo m 16))],(bw m 16 a0)⟩):Rg F 35 [1] c35r0 L m Q:=ae (by kernel_rfl) h
theorem lf (h:Obt (aA 0 (ac L 1)) λa0=>Obt (ld1 m a0) λa1=>Obt (cd An F 35 (some 13) 43 [a1] m) λa2=>Obt (cV 0 a2.1) λa3=>Obt (cV 1 a2.1) λa4=>Obt (cV 2 a2.1) λa5=>Q .normal ⟨[(1,(ac L 1)),(3,a3),(4,a4),(5,a5)],a2.2⟩):Rg F 35 [1,3,4,5] c35r1 L m Q:=ae (by kernel_rfl) h
theorem lp (h:Obt (aA 0 (ac L 1)) λa0=>Obt (ld1 m a0) λa1=>Obt (cd An F 35 (some 20) 36 [a1] m) λa2=>Obt (cV 0 a2.1) λa3=>Obt (cV 1 a2.1) λa4=>Obt (cV 2 a2.1) λa5=>Q .normal ⟨[(1,(ac L 1)),(3,(ac L 3)),(4,(ac L 4)),(5,(ac L 5)),(8,a5)],a2.2⟩):Rg F 35 [1,3,4,5,8] c35r2 L m Q:=ae (by kernel_rfl) h
theorem l5 (h:Q .normal ⟨[(1,(ac L 1)),(3,(ac L 3)),(4,(ac L 4)),(5,(ac L 5)),(8,(ac L 8)),(9,(.int .i64 10))],m⟩):Rg F 35 [1,3,4,5,8,9] c35r3 L m Q:=ae (by kernel_rfl) h
theorem mo (h:Obt (gdO (ac L 5) false ((aA 0 (ac L 1)).map λv=>(v,m)) (.tuple [],m)) λa0=>Obt (gdO (ac L 5) false ((ld1 a0.2 a0.1).map λv=>(v,a0.2)) (.tuple [],a0.2)) λa1=>Obt (gdO (ac L 5) false (cd An F 35 (some 28) 44 [a1.1] a1.2) (.tuple [],a1.2)) λa2=>Obt (gdO (ac L 5) false ((aw Try.prog .eql 3 (.tmp 28) (.const (.int .i64 1)) a2.1 (.int .i64 1)).map λv=>(v,a2.2)) (.tuple [],a2.2)) λa3=>Obt (cT (ac L 5) (.bool true) a3.1) λa4=>Obt (gdO a4 false ((aA 0 (ac L 1)).map λv=>(v,a3.2)) (.tuple [],a3.2)) λa5=>Obt (gdO a4 false ((ld1 a5.2 a5.1).map λv=>(v,a5.2)) (.tuple [],a5.2)) λa6=>Obt (gdO a4 false ((aw Try.prog .eql 3 (.tmp 33) (.const (.int .i64 24)) a6.1 (.int .i64 24)).map λv=>(v,a6.2)) (.tuple [],a6.2)) λa7=>Obt (cT a4 (.bool true) a7.1) λa8=>Q .normal ⟨[(1,(ac L 1)),(3,(ac L 3)),(4,(ac L 4)),(5,(ac L 5)),(8,(ac L 8)),(9,(ac L 9)),(35,a8)],a7.2⟩):Rg F 35 [1,3,4,5,8,9,35] c35r4 L m Q:=ae (by kernel_rfl) h
theorem p3 (h:Obt (aw Try.prog .sub 3 (.tmp 36) (.const (.int .i64 1)) (ac L 9) (.int .i64 1)) λa0=>Q .normal ⟨[(1,(ac L 1)),(3,(ac L 3)),(4,(ac L 4)),(5,(ac L 5)),(8,(ac L 8)),(9,a0)],m⟩):Rg F 35 [1,3,4,5,8,9] c35r5 L m Q:=ae (by kernel_rfl) h
theorem ms (h:Obt (ldA 6 m (ac L 1)) λa0=>Obt (cd An F 35 (some 40) 45 [a0,(ac L 9)] m) λa1=>Obt (cun .not a1.1) λa2=>Obt (gdO a2 false ((aA 0 (ac L 1)).map λv=>(v,a1.2)) (.tuple [],a1.2)) λa3=>Obt (gdO a2 false ((ld1 a3.2 a3.1).map λv=>(v,a3.2)) (.tuple [],a3.2)) λa4=>Obt (gdO a2 false ((aw Try.prog .neq 3 (.tmp 44) (.const (.int .i64 24)) a4.1 (.int .i64 24)).map λv=>(v,a4.2)) (.tuple [],a4.2)) λa5=>Obt (gdO a2 false (some (a5.1,a5.2)) (.tuple [],a5.2)) λa6=>Obt (gdO a6.1 true ((aA 5 (ac L 1)).map λv=>(v,a6.2)) (.tuple [],a6.2)) λa7=>Obt (gdO a6.1 true ((ld1 a7.2 a7.1).map λv=>(v,a7.2)) (.tuple [],a7.2)) λa8=>Obt (gdO a6.1 true ((aw Try.prog .neq 45 (.tmp 48) (.const (.int .u64 0)) a8.1 (.int .u64 0)).map λv=>(v,a8.2)) (.tuple [],a8.2)) λa9=>Obt (gdO a2 false ((cT a6.1 a9.1 (.bool false)).map λv=>(v,a9.2)) (.tuple [],a9.2)) λa10=>Obt (cT a2 (.bool true) a10.1) λa11=>Q .normal ⟨[(1,(ac L 1)),(3,(ac L 3)),(4,(ac L 4)),(5,(ac L 5)),(8,(ac L 8)),(51,a11)],a10.2⟩):Rg F 35 [1,3,4,5,8,51] c35r6 L m Q:=ae (by kernel_rfl) h
theorem Lt (h:Q .normal ⟨[(2,(.bool false))],m⟩):Rg F 35 [2] c35r7 L m Q:=ae (by kernel_rfl) h
theorem oh (h:Q .normal ⟨[(1,(ac L 1)),(3,(ac L 3)),(4,(ac L 4)),(8,(ac L 8)),(52,(ac L 5))],m⟩):Rg F 35 [1,3,4,8,52] c35r8 L m Q:=ae (by kernel_rfl) h
theorem t35r9 (h:Obt (ldA 6 m (ac L 1)) λa0=>Obt (cd An F 35 (some 57) 46 [a0,(ac L 3),(ac L 4)] m) λa1=>Q .normal ⟨[(2,a1.1)],a1.2⟩):Rg F 35 [2] c35r9 L m Q:=ae (by kernel_rfl) h
theorem nh (h:Q .normal ⟨[(1,(ac L 1)),(58,(ac L 8))],m⟩):Rg F 35 [1,58] OZ L m Q:=ae (by kernel_rfl) h
theorem Nz (h:Obt (ldA 6 m (ac L 1)) λa0=>Obt (cd An F 35 (some 61) 47 [a0] m) λa1=>Q .normal ⟨[(2,a1.1)],a1.2⟩):Rg F 35 [2] O0 L m Q:=ae (by kernel_rfl) h
theorem nW (h:Obt (aA 0 (ac L 1)) λa0=>Obt (ld1 m a0) λa1=>Obt (aw Try.prog .eql 3 (.tmp 64) (.const (.int .i64 5)) a1 (.int .i64 5)) λa2=>Q .normal ⟨[(1,(ac L 1)),(62,a2)],m⟩):Rg F 35 [1,62] O1 L m Q:=ae (by kernel_rfl) h
theorem QH (h:Obt (aA 1 (ac L 1)) λa0=>Obt (ld1 m a0) λa1=>Obt (aA 2 (ac L 1)) λa2=>Obt (ld1 m a2) λa3=>Obt (aA 4 (ac L 1)) λa4=>Obt (ld1 m a4) λa5=>Obt (be false 1152 1 3 [.int .i64 0,.int .i64 0,.int .i64 0] [(0,1,a1),(1,1,a3),(2,1,a5)] m) λa6=>Obt (cd An F 35 (some 73) 48 [a6.1] a6.2) λa7=>Q .normal ⟨[(2,a7.1)],a7.2⟩):Rg F 35 [2] O2 L m Q:=ae (by kernel_rfl) h
theorem ra (h:Obt (aA 0 (ac L 1)) λa0=>Obt (ld1 m a0) λa1=>Obt (aw Try.prog .eql 3 (.tmp 76) (.const (.int .i64 133)) a1 (.int .i64 133)) λa2=>Q .normal ⟨[(1,(ac L 1)),(74,a2)],m⟩):Rg F 35 [1,74] O3 L m Q:=ae (by kernel_rfl) h
theorem MA (h:Obt (aA 1 (ac L 1)) λa0=>Obt (ld1 m a0) λa1=>Obt (aA 2 (ac L 1)) λa2=>Obt (ld1 m a2) λa3=>Obt (aA 3 (ac L 1)) λa4=>Obt (ld1 m a4) λa5=>Obt (be false 1344 1 3 [.int .i64 0,.int .i64 0,.int .i64 0] [(0,1,a1),(1,1,a3),(2,1,a5)] m) λa6=>Obt (cd An F 35 (some 85) 48 [a6.1] a6.2) λa7=>Obt (gdO a7.1 true ((aA 4 (ac L 1)).map λv=>(v,a7.2)) (.tuple [],a7.2)) λa8=>Obt (gdO a7.1 true ((ld1 a8.2 a8.1).map λv=>(v,a8.2)) (.tuple [],a8.2)) λa9=>Obt (gdO a7.1 true (cd An F 35 (some 89) 49 [a9.1,(.int .i64 1),(.int .i64 5)] a9.2) (.tuple [],a9.2)) λa10=>Obt (cT a7.1 a10.1 (.bool false)) λa11=>Q .normal ⟨[(2,a11)],a10.2⟩):Rg F 35 [2] O4 L m Q:=ae (by kernel_rfl) h
theorem Ks (h:Obt (aA 0 (ac L 1)) λa0=>Obt (ld1 m a0) λa1=>Obt (aw Try.prog .eql 3 (.tmp 93) (.const (.int .i64 149)) a1 (.int .i64 149)) λa2=>Q .normal ⟨[(1,(ac L 1)),(91,a2)],m⟩):Rg F 35 [1,91] O5 L m Q:=ae (by kernel_rfl) h
theorem QI (h:Obt (aA 1 (ac L 1)) λa0=>Obt (ld1 m a0) λa1=>Obt (aA 2 (ac L 1)) λa2=>Obt (ld1 m a2) λa3=>Obt (aA 3 (ac L 1)) λa4=>Obt (ld1 m a4) λa5=>Obt (aA 4 (ac L 1)) λa6=>Obt (ld1 m a6) λa7=>Obt (be false 1648 1 4 [.int .i64 0,.int .i64 0,.int .i64 0,.int .i64 0] [(0,1,a1),(1,1,a3),(2,1,a5),(3,1,a7)] m) λa8=>Obt (cd An F 35 (some 104) 48 [a8.1] a8.2) λa9=>Q .normal ⟨[(2,a9.1)],a9.2⟩):Rg F 35 [2] O6 L m Q:=ae (by kernel_rfl) h
theorem Li (h:Obt (aA 0 (ac L 1)) λa0=>Obt (ld1 m a0) λa1=>Obt (aw Try.prog .eql 3 (.tmp 107) (.const (.int .i64 24)) a1 (.int .i64 24)) λa2=>Q .normal ⟨[(1,(ac L 1)),(105,a2)],m⟩):Rg F 35 [1,105] O7 L m Q:=ae (by kernel_rfl) h
theorem t35r19 (h:Obt (ldA 6 m (ac L 1)) λa0=>Obt (cd An F 35 (some 110) 50 [a0] m) λa1=>Q .normal ⟨[(2,a1.1)],a1.2⟩):Rg F 35 [2] O8 L m Q:=ae (by kernel_rfl) h
theorem LY (h:Obt (aA 0 (ac L 1)) λa0=>Obt (ld1 m a0) λa1=>Obt (cd An F 35 (some 114) 51 [a1] m) λa2=>Obt (aw Try.prog .eql 3 (.tmp 114) (.const (.int .i64 0)) a2.1 (.int .i64 0)) λa3=>Q .normal ⟨[(1,(ac L 1)),(111,a3)],a2.2⟩):Rg F 35 [1,111] O9 L m Q:=ae (by kernel_rfl) h
theorem QJ (h:Q .normal ⟨[(2,(.bool false))],m⟩):Rg F 35 [2] Pa L m Q:=ae (by kernel_rfl) h
theorem NA (h:Obt (aA 0 (ac L 1)) λa0=>Obt (ld1 m a0) λa1=>Obt (cd An F 35 (some 119) 44 [a1] m) λa2=>Obt (aw Try.prog .eql 3 (.tmp 119) (.const (.int .i64 2)) a2.1 (.int .i64 2)) λa3=>Q .normal ⟨[(1,(ac L 1)),(116,a3)],a2.2⟩):Rg F 35 [1,116] Pb L m Q:=ae (by kernel_rfl) h
theorem t35r23 (h:Obt (aA 2 (ac L 1)) λa0=>Obt (ld1 m a0) λa1=>Obt (be false 1968 1 1 [.int .i64 0] [(0,1,a1)] m) λa2=>Obt (cd An F 35 (some 124) 48 [a2.1] a2.2) λa3=>Q .normal ⟨[(2,a3.1)],a3.2⟩):Rg F 35 [2] Pc L m Q:=ae (by kernel_rfl) h
theorem QK (h:Obt (aA 4 (ac L 1)) λa0=>Obt (ld1 m a0) λa1=>Obt (be false 2032 1 1 [.int .i64 0] [(0,1,a1)] m) λa2=>Obt (cd An F 35 (some 128) 48 [a2.1] a2.2) λa3=>Q .normal ⟨[(2,a3.1)],a3.2⟩):Rg F 35 [2] Pd L m Q:=ae (by kernel_rfl) h
def c36r0:=rg 36 Try.f36 0
def c36r1:=rg 36 Try.f36 1
def c36r2:=rg 36 Try.f36 2
def c36r3:=rg 36 Try.f36 3
def c36r4:=rg 36 Try.f36 4
def c36r5:=rg 36 Try.f36 5
def c36:SC:=
 (.seq (.reg false (some [0]) c36r0) (.seq (.reg false (some [5,6]) c36r1) (.seq (.reg false (some [5,6,8]) c36r2) (.seq (.seq (.reg false (some [5,6,27]) c36r3) (.cond (.tmp 27) (.seq (.reg false (some [2,3,4]) c36r4) .ret) .nop)) (.seq (.reg false (some [2,3,4]) c36r5) .ret)))))
theorem s36:Try.f36.body.bind (bh Try.prog An 36 Try.f36.ntmps)=some c36:=by kernel_rfl
theorem g36:An.glob 36=[]:=rfl
theorem r36:Try.f36.results.toList=[(.tmp 2),(.tmp 3),(.tmp 4)]:=by kernel_rfl
theorem sS (h:Q .normal ⟨[(0,(ac L 0))],m⟩):Rg F 36 [0] c36r0 L m Q:=ae (by kernel_rfl) h
theorem sT (h:Obt (cd An F 36 (some 10) 44 [(ac L 0)] m) λa0=>Obt (aw Try.prog .and 3 (.tmp 11) (.const (.int .i64 240)) (ac L 0) (.int .i64 240)) λa1=>Q .normal ⟨[(5,a0.1),(6,a1)],a0.2⟩):Rg F 36 [5,6] c36r1 L m Q:=ae (by kernel_rfl) h
theorem M9 (h:Obt (cd An F 36 (some 15) 52 [(ac L 6),(.int .u64 0),(.int .u64 0),(.bool true)] m) λa0=>Obt (cV 0 a0.1) λa1=>Obt (cV 1 a0.1) λa2=>Q .normal ⟨[(5,(ac L 5)),(6,(ac L 6)),(8,a2)],a0.2⟩):Rg F 36 [5,6,8] c36r2 L m Q:=ae (by kernel_rfl) h
theorem Na (h:Obt (aw Try.prog .neq 3 (.tmp 18) (.const (.int .i64 5)) (ac L 5) (.int .i64 5)) λa0=>Obt (gdO a0 true (some ((ac L 5),m)) (.tuple [],m)) λa1=>Obt (gdO a0 true ((aw Try.prog .neq 3 (.tmp 21) (.const (.int .i64 6)) a1.1 (.int .i64 6)).map λv=>(v,a1.2)) (.tuple [],a1.2)) λa2=>Obt (cT a0 a2.1 (.bool false)) λa3=>Obt (gdO a3 false (some ((ac L 8),a2.2)) (.tuple [],a2.2)) λa4=>Obt (gdO a3 false ((cun .not a4.1).map λv=>(v,a4.2)) (.tuple [],a4.2)) λa5=>Obt (cT a3 (.bool true) a5.1) λa6=>Q .normal ⟨[(5,(ac L 5)),(6,(ac L 6)),(27,a6)],a5.2⟩):Rg F 36 [5,6,27] c36r3 L m Q:=ae (by kernel_rfl) h
theorem QL (h:Q .normal ⟨[(2,(.int .i64 0)),(3,(.bool false)),(4,(.bool false))],m⟩):Rg F 36 [2,3,4] c36r4 L m Q:=ae (by kernel_rfl) h
theorem sU (h:Obt (aw Try.prog .eql 3 (.tmp 29) (.const (.int .i64 5)) (ac L 5) (.int .i64 5)) λa0=>Q .normal ⟨[(2,(ac L 6)),(3,a0),(4,(.bool true))],m⟩):Rg F 36 [2,3,4] c36r5 L m Q:=ae (by kernel_rfl) h
def c37r0:=rg 37 Try.f37 0
def c37r1:=rg 37 Try.f37 1
def c37r2:=rg 37 Try.f37 2
def c37r3:=rg 37 Try.f37 3
def c37:SC:=
 (.seq (.reg false (some [1]) c37r0) (.seq (.seq (.reg false (some [5]) c37r1) (.cond (.tmp 5) (.seq (.reg false (some [2]) c37r2) .ret) .nop)) (.seq (.reg false (some [2]) c37r3) .ret)))
theorem s37:Try.f37.body.bind (bh Try.prog An 37 Try.f37.ntmps)=some c37:=by kernel_rfl
theorem g37:An.glob 37=[]:=rfl
theorem r37:Try.f37.results.toList=[(.tmp 2)]:=by kernel_rfl
theorem t37r0 (h:Obt (ap (ac L 0)) λa0=>Q .normal ⟨[(1,(bo m 16))],(bw m 16 a0)⟩):Rg F 37 [1] c37r0 L m Q:=ae (by kernel_rfl) h
theorem t37r1 (h:Obt (aA 0 (ac L 1)) λa0=>Obt (ld1 m a0) λa1=>Obt (aw Try.prog .eql 3 (.tmp 4) (.const (.int .i64 24)) a1 (.int .i64 24)) λa2=>Q .normal ⟨[(5,a2)],m⟩):Rg F 37 [5] c37r1 L m Q:=ae (by kernel_rfl) h
theorem t37r2 (h:Q .normal ⟨[(2,(.int .i64 2))],m⟩):Rg F 37 [2] c37r2 L m Q:=ae (by kernel_rfl) h
theorem t37r3 (h:Q .normal ⟨[(2,(.int .i64 1))],m⟩):Rg F 37 [2] c37r3 L m Q:=ae (by kernel_rfl) h
def c43r0:=rg 43 Try.f43 0
def c43r1:=rg 43 Try.f43 1
def c43r2:=rg 43 Try.f43 2
def c43r3:=rg 43 Try.f43 3
def c43r4:=rg 43 Try.f43 4
def c43r5:=rg 43 Try.f43 5
def c43:SC:=
 (.seq (.reg false (some [0]) c43r0) (.seq (.reg false (some [0,5,6]) c43r1) (.seq (.reg false (some [0,5,6,8]) c43r2) (.seq (.seq (.reg false (some [5,6,36]) c43r3) (.cond (.tmp 36) (.seq (.reg false (some [2,3,4]) c43r4) .ret) .nop)) (.seq (.reg false (some [2,3,4]) c43r5) .ret)))))
theorem s43:Try.f43.body.bind (bh Try.prog An 43 Try.f43.ntmps)=some c43:=by kernel_rfl
theorem g43:An.glob 43=[]:=rfl
theorem r43:Try.f43.results.toList=[(.tmp 2),(.tmp 3),(.tmp 4)]:=by kernel_rfl
theorem K5 (h:Q .normal ⟨[(0,(ac L 0))],m⟩):Rg F 43 [0] c43r0 L m Q:=ae (by kernel_rfl) h
theorem K6 (h:Obt (cd An F 43 (some 10) 44 [(ac L 0)] m) λa0=>Obt (aw Try.prog .and 3 (.tmp 11) (.const (.int .i64 240)) (ac L 0) (.int .i64 240)) λa1=>Q .normal ⟨[(0,(ac L 0)),(5,a0.1),(6,a1)],a0.2⟩):Rg F 43 [0,5,6] c43r1 L m Q:=ae (by kernel_rfl) h
theorem K7 (h:Obt (cd An F 43 (some 15) 62 [(ac L 6),(.int .u64 0),(.int .u64 0),(.bool true)] m) λa0=>Obt (cV 0 a0.1) λa1=>Obt (cV 1 a0.1) λa2=>Q .normal ⟨[(0,(ac L 0)),(5,(ac L 5)),(6,(ac L 6)),(8,a2)],a0.2⟩):Rg F 43 [0,5,6,8] c43r2 L m Q:=ae (by kernel_rfl) h
theorem K8 (h:Obt (aw Try.prog .neq 3 (.tmp 18) (.const (.int .i64 4)) (ac L 5) (.int .i64 4)) λa0=>Obt (gdO a0 true (some ((ac L 5),m)) (.tuple [],m)) λa1=>Obt (gdO a0 true ((aw Try.prog .neq 3 (.tmp 21) (.const (.int .i64 7)) a1.1 (.int .i64 7)).map λv=>(v,a1.2)) (.tuple [],a1.2)) λa2=>Obt (cT a0 a2.1 (.bool false)) λa3=>Obt (gdO a3 false (some ((ac L 8),a2.2)) (.tuple [],a2.2)) λa4=>Obt (gdO a3 false ((cun .not a4.1).map λv=>(v,a4.2)) (.tuple [],a4.2)) λa5=>Obt (cT a3 (.bool true) a5.1) λa6=>Obt (gdO a6 false (some ((ac L 6),a5.2)) (.tuple [],a5.2)) λa7=>Obt (gdO a6 false ((aw Try.prog .eql 3 (.tmp 29) (.const (.int .i64 128)) a7.1 (.int .i64 128)).map λv=>(v,a7.2)) (.tuple [],a7.2)) λa8=>Obt (gdO a6 false (some (a8.1,a8.2)) (.tuple [],a8.2)) λa9=>Obt (gdO a9.1 true (some ((ac L 0),a9.2)) (.tuple [],a9.2)) λa10=>Obt (gdO a9.1 true ((aw Try.prog .and 3 (.tmp 32) (.const (.int .i64 8)) a10.1 (.int .i64 8)).map λv=>(v,a10.2)) (.tuple [],a10.2)) λa11=>Obt (gdO a9.1 true ((aw Try.prog .gtr 3 (.tmp 33) (.const (.int .i64 0)) a11.1 (.int .i64 0)).map λv=>(v,a11.2)) (.tuple [],a11.2)) λa12=>Obt (gdO a6 false ((cT a9.1 a12.1 (.bool false)).map λv=>(v,a12.2)) (.tuple [],a12.2)) λa13=>Obt (cT a6 (.bool true) a13.1) λa14=>Q .normal ⟨[(5,(ac L 5)),(6,(ac L 6)),(36,a14)],a13.2⟩):Rg F 43 [5,6,36] c43r3 L m Q:=ae (by kernel_rfl) h
theorem Nb (h:Q .normal ⟨[(2,(.int .i64 0)),(3,(.bool false)),(4,(.bool false))],m⟩):Rg F 43 [2,3,4] c43r4 L m Q:=ae (by kernel_rfl) h
theorem NS (h:Obt (aw Try.prog .eql 3 (.tmp 38) (.const (.int .i64 7)) (ac L 5) (.int .i64 7)) λa0=>Q .normal ⟨[(2,(ac L 6)),(3,a0),(4,(.bool true))],m⟩):Rg F 43 [2,3,4] c43r5 L m Q:=ae (by kernel_rfl) h
def c44r0:=rg 44 Try.f44 0
def c44r1:=rg 44 Try.f44 1
def c44r2:=rg 44 Try.f44 2
def c44r3:=rg 44 Try.f44 3
def c44:SC:=
 (.seq (.reg false (some [0]) c44r0) (.seq (.seq (.reg false (some [0,8]) c44r1) (.cond (.tmp 8) (.seq (.reg false (some [2]) c44r2) .ret) .nop)) (.seq (.reg false (some [2]) c44r3) .ret)))
theorem s44:Try.f44.body.bind (bh Try.prog An 44 Try.f44.ntmps)=some c44:=by kernel_rfl
theorem g44:An.glob 44=[]:=rfl
theorem r44:Try.f44.results.toList=[(.tmp 2)]:=by kernel_rfl
theorem QO (h:Q .normal ⟨[(0,(ac L 0))],m⟩):Rg F 44 [0] c44r0 L m Q:=ae (by kernel_rfl) h
theorem QP (h:Obt (aw Try.prog .lss 3 (.tmp 3) (.const (.int .i64 0)) (ac L 0) (.int .i64 0)) λa0=>Obt (gdO a0 false (some ((ac L 0),m)) (.tuple [],m)) λa1=>Obt (gdO a0 false ((aw Try.prog .gtr 3 (.tmp 6) (.const (.int .i64 255)) a1.1 (.int .i64 255)).map λv=>(v,a1.2)) (.tuple [],a1.2)) λa2=>Obt (cT a0 (.bool true) a2.1) λa3=>Q .normal ⟨[(0,(ac L 0)),(8,a3)],a2.2⟩):Rg F 44 [0,8] c44r1 L m Q:=ae (by kernel_rfl) h
theorem t44r2 (h:Q .normal ⟨[(2,(.int .i64 (-1)))],m⟩):Rg F 44 [2] c44r2 L m Q:=ae (by kernel_rfl) h
theorem t44r3 (h:Obt (aw Try.prog .and 3 (.tmp 9) (.const (.int .i64 7)) (ac L 0) (.int .i64 7)) λa0=>Q .normal ⟨[(2,a0)],m⟩):Rg F 44 [2] c44r3 L m Q:=ae (by kernel_rfl) h
def c45r0:=rg 45 Try.f45 0
def c45r1:=rg 45 Try.f45 1
def c45:SC:=
 (.seq (.reg false (some [1,2]) c45r0) (.seq (.reg false (some [4]) c45r1) .ret))
theorem s45:Try.f45.body.bind (bh Try.prog An 45 Try.f45.ntmps)=some c45:=by kernel_rfl
theorem g45:An.glob 45=[]:=rfl
theorem r45:Try.f45.results.toList=[(.tmp 4)]:=by kernel_rfl
theorem NT (h:Obt (ap (ac L 0)) λa0=>Q .normal ⟨[(1,(ac L 1)),(2,(bo m 32))],(bw m 32 a0)⟩):Rg F 45 [1,2] c45r0 L m Q:=ae (by kernel_rfl) h
theorem NU (h:Obt (aA 1 (ac L 2)) λa0=>Obt (ld1 m a0) λa1=>Obt (cd An F 45 (some 8) 49 [a1,(.int .i64 0),(ac L 1)] m) λa2=>Obt (gdO a2.1 true ((aA 2 (ac L 2)).map λv=>(v,a2.2)) (.tuple [],a2.2)) λa3=>Obt (gdO a2.1 true ((ld1 a3.2 a3.1).map λv=>(v,a3.2)) (.tuple [],a3.2)) λa4=>Obt (gdO a2.1 true (cd An F 45 (some 12) 49 [a4.1,(.int .i64 0),(.int .i64 10)] a4.2) (.tuple [],a4.2)) λa5=>Obt (cT a2.1 a5.1 (.bool false)) λa6=>Obt (gdO a6 true ((aA 3 (ac L 2)).map λv=>(v,a5.2)) (.tuple [],a5.2)) λa7=>Obt (gdO a6 true ((ld1 a7.2 a7.1).map λv=>(v,a7.2)) (.tuple [],a7.2)) λa8=>Obt (gdO a6 true (cd An F 45 (some 17) 49 [a8.1,(.int .i64 (-32768)),(.int .i64 32767)] a8.2) (.tuple [],a8.2)) λa9=>Obt (cT a6 a9.1 (.bool false)) λa10=>Obt (gdO a10 true ((aA 4 (ac L 2)).map λv=>(v,a9.2)) (.tuple [],a9.2)) λa11=>Obt (gdO a10 true ((ld1 a11.2 a11.1).map λv=>(v,a11.2)) (.tuple [],a11.2)) λa12=>Obt (gdO a10 true (cd An F 45 (some 22) 49 [a12.1,(.int .i64 (-2147483648)),(.int .i64 2147483647)] a12.2) (.tuple [],a12.2)) λa13=>Obt (cT a10 a13.1 (.bool false)) λa14=>Q .normal ⟨[(4,a14)],a13.2⟩):Rg F 45 [4] c45r1 L m Q:=ae (by kernel_rfl) h
def c46r0:=rg 46 Try.f46 0
def c46r1:=rg 46 Try.f46 1
def c46r2:=rg 46 Try.f46 2
def c46r3:=rg 46 Try.f46 3
def c46r4:=rg 46 Try.f46 4
def c46r5:=rg 46 Try.f46 5
def c46r6:=rg 46 Try.f46 6
def c46r7:=rg 46 Try.f46 7
def c46r8:=rg 46 Try.f46 8
def c46r9:=rg 46 Try.f46 9
def AW:=rg 46 Try.f46 10
def c46:SC:=
 (.seq (.reg false (some [1,2,3]) c46r0) (.seq (.seq (.reg false (some [1,2,3,14]) c46r1) (.cond (.tmp 14) (.seq (.reg false (some [6]) c46r2) .ret) .nop)) (.seq (.seq (.reg false (some [2,3,15]) c46r3) (.block 0 (.seq (.reg false (some [2,3,15,16]) c46r4) (.cond (.tmp 16) (.seq (.reg false (some [6]) c46r5) .ret) (.seq (.seq (.reg false (some [2,3,15,21]) c46r6) (.cond (.tmp 21) .nop (.seq (.reg false (some [2,3,15,21]) c46r7) (.cond (.tmp 21) .nop (.reg false (some [2,3,21]) c46r8))))) (.cond (.tmp 21) (.seq (.reg false (some [6]) c46r9) .ret) .nop)))))) (.seq (.reg false (some [6]) AW) .ret))))
theorem s46:Try.f46.body.bind (bh Try.prog An 46 Try.f46.ntmps)=some c46:=by kernel_rfl
theorem g46:An.glob 46=[]:=rfl
theorem r46:Try.f46.results.toList=[(.tmp 6)]:=by kernel_rfl
theorem sb (h:Obt (ap (ac L 0)) λa0=>Q .normal ⟨[(1,(ac L 1)),(2,(ac L 2)),(3,(bo m 48))],(bw m 48 a0)⟩):Rg F 46 [1,2,3] c46r0 L m Q:=ae (by kernel_rfl) h
theorem ti (h:Obt (ldA 6 m (ac L 3)) λa0=>Obt (cd An F 46 (some 8) 47 [a0] m) λa1=>Obt (cun .not a1.1) λa2=>Obt (gdO a2 false ((aA 3 (ac L 3)).map λv=>(v,a1.2)) (.tuple [],a1.2)) λa3=>Obt (gdO a2 false ((ld1 a3.2 a3.1).map λv=>(v,a3.2)) (.tuple [],a3.2)) λa4=>Obt (gdO a2 false ((aw Try.prog .neq 3 (.tmp 12) (.const (.int .i64 0)) a4.1 (.int .i64 0)).map λv=>(v,a4.2)) (.tuple [],a4.2)) λa5=>Obt (cT a2 (.bool true) a5.1) λa6=>Q .normal ⟨[(1,(ac L 1)),(2,(ac L 2)),(3,(ac L 3)),(14,a6)],a5.2⟩):Rg F 46 [1,2,3,14] c46r1 L m Q:=ae (by kernel_rfl) h
theorem t46r2 (h:Q .normal ⟨[(6,(.bool false))],m⟩):Rg F 46 [6] c46r2 L m Q:=ae (by kernel_rfl) h
theorem ww (h:Q .normal ⟨[(2,(ac L 2)),(3,(ac L 3)),(15,(ac L 1))],m⟩):Rg F 46 [2,3,15] c46r3 L m Q:=ae (by kernel_rfl) h
theorem EV (h:Obt (aw Try.prog .eql 3 (.tmp 15) (.const (.int .i64 128)) (ac L 15) (.int .i64 128)) λa0=>Q .normal ⟨[(2,(ac L 2)),(3,(ac L 3)),(15,(ac L 15)),(16,a0)],m⟩):Rg F 46 [2,3,15,16] c46r4 L m Q:=ae (by kernel_rfl) h
theorem EW (h:Obt (aA 4 (ac L 3)) λa0=>Obt (ld1 m a0) λa1=>Obt (aw Try.prog .eql 3 (.tmp 19) (.const (.int .i64 0)) a1 (.int .i64 0)) λa2=>Q .normal ⟨[(6,a2)],m⟩):Rg F 46 [6] c46r5 L m Q:=ae (by kernel_rfl) h
theorem EX (h:Obt (aw Try.prog .eql 3 (.tmp 15) (.const (.int .i64 96)) (ac L 15) (.int .i64 96)) λa0=>Q .normal ⟨[(2,(ac L 2)),(3,(ac L 3)),(15,(ac L 15)),(21,a0)],m⟩):Rg F 46 [2,3,15,21] c46r6 L m Q:=ae (by kernel_rfl) h
theorem EY (h:Obt (aw Try.prog .eql 3 (.tmp 15) (.const (.int .i64 112)) (ac L 15) (.int .i64 112)) λa0=>Q .normal ⟨[(2,(ac L 2)),(3,(ac L 3)),(15,(ac L 15)),(21,a0)],m⟩):Rg F 46 [2,3,15,21] c46r7 L m Q:=ae (by kernel_rfl) h
theorem Nc (h:Obt (aw Try.prog .eql 3 (.tmp 15) (.const (.int .i64 192)) (ac L 15) (.int .i64 192)) λa0=>Q .normal ⟨[(2,(ac L 2)),(3,(ac L 3)),(21,a0)],m⟩):Rg F 46 [2,3,21] c46r8 L m Q:=ae (by kernel_rfl) h
theorem EZ (h:Obt (gdO (ac L 2) true ((aA 4 (ac L 3)).map λv=>(v,m)) (.tuple [],m)) λa0=>Obt (gdO (ac L 2) true ((ld1 a0.2 a0.1).map λv=>(v,a0.2)) (.tuple [],a0.2)) λa1=>Obt (gdO (ac L 2) true ((aw Try.prog .leq 3 (.tmp 28) (.const (.int .i64 63)) a1.1 (.int .i64 63)).map λv=>(v,a1.2)) (.tuple [],a1.2)) λa2=>Obt (cT (ac L 2) a2.1 (.bool false)) λa3=>Obt (gdO a3 true ((aA 4 (ac L 3)).map λv=>(v,a2.2)) (.tuple [],a2.2)) λa4=>Obt (gdO a3 true ((ld1 a4.2 a4.1).map λv=>(v,a4.2)) (.tuple [],a4.2)) λa5=>Obt (gdO a3 true ((aw Try.prog .geq 3 (.tmp 33) (.const (.int .i64 0)) a5.1 (.int .i64 0)).map λv=>(v,a5.2)) (.tuple [],a5.2)) λa6=>Obt (cT a3 a6.1 (.bool false)) λa7=>Obt (gdO a7 false ((aA 4 (ac L 3)).map λv=>(v,a6.2)) (.tuple [],a6.2)) λa8=>Obt (gdO a7 false ((ld1 a8.2 a8.1).map λv=>(v,a8.2)) (.tuple [],a8.2)) λa9=>Obt (gdO a7 false (cd An F 46 (some 39) 49 [a9.1,(.int .i64 0),(.int .i64 31)] a9.2) (.tuple [],a9.2)) λa10=>Obt (cT a7 (.bool true) a10.1) λa11=>Q .normal ⟨[(6,a11)],a10.2⟩):Rg F 46 [6] c46r9 L m Q:=ae (by kernel_rfl) h
theorem t46r10 (h:Q .normal ⟨[(6,(.bool true))],m⟩):Rg F 46 [6] AW L m Q:=ae (by kernel_rfl) h
def c47r0:=rg 47 Try.f47 0
def c47r1:=rg 47 Try.f47 1
def c47r2:=rg 47 Try.f47 2
def c47r3:=rg 47 Try.f47 3
def c47:SC:=
 (.seq (.reg false (some [1]) c47r0) (.seq (.seq (.reg false (some [1,6]) c47r1) (.cond (.tmp 6) (.seq (.reg false (some [2]) c47r2) .ret) .nop)) (.seq (.reg false (some [2]) c47r3) .ret)))
theorem s47:Try.f47.body.bind (bh Try.prog An 47 Try.f47.ntmps)=some c47:=by kernel_rfl
theorem g47:An.glob 47=[]:=rfl
theorem r47:Try.f47.results.toList=[(.tmp 2)]:=by kernel_rfl
theorem t47r0 (h:Obt (ap (ac L 0)) λa0=>Q .normal ⟨[(1,(bo m 16))],(bw m 16 a0)⟩):Rg F 47 [1] c47r0 L m Q:=ae (by kernel_rfl) h
theorem t47r1 (h:Obt (aA 0 (ac L 1)) λa0=>Obt (ld1 m a0) λa1=>Obt (aw Try.prog .and 3 (.tmp 4) (.const (.int .i64 8)) a1 (.int .i64 8)) λa2=>Obt (aw Try.prog .gtr 3 (.tmp 5) (.const (.int .i64 0)) a2 (.int .i64 0)) λa3=>Q .normal ⟨[(1,(ac L 1)),(6,a3)],m⟩):Rg F 47 [1,6] c47r1 L m Q:=ae (by kernel_rfl) h
theorem t47r2 (h:Obt (aA 4 (ac L 1)) λa0=>Obt (ld1 m a0) λa1=>Obt (aw Try.prog .eql 3 (.tmp 8) (.const (.int .i64 0)) a1 (.int .i64 0)) λa2=>Q .normal ⟨[(2,a2)],m⟩):Rg F 47 [2] c47r2 L m Q:=ae (by kernel_rfl) h
theorem p8 (h:Obt (aA 2 (ac L 1)) λa0=>Obt (ld1 m a0) λa1=>Obt (aw Try.prog .eql 3 (.tmp 11) (.const (.int .i64 0)) a1 (.int .i64 0)) λa2=>Q .normal ⟨[(2,a2)],m⟩):Rg F 47 [2] c47r3 L m Q:=ae (by kernel_rfl) h
def c48r0:=rg 48 Try.f48 0
def c48r1:=rg 48 Try.f48 1
def c48r2:=rg 48 Try.f48 2
def c48r3:=rg 48 Try.f48 3
def c48r4:=rg 48 Try.f48 4
def c48r5:=rg 48 Try.f48 5
def c48r6:=rg 48 Try.f48 6
def c48l0:SC:=
 (.seq (.reg false (some [5,6,7,8]) c48r2) (.seq (.cond (.tmp 8) .nop (.exit 0)) (.seq (.block 1 (.seq (.reg false (some [4,5,6,7]) c48r3) (.seq (.reg false (some [5,6,7,12]) c48r4) (.cond (.tmp 12) (.seq (.reg false (some [2]) c48r5) .ret) .nop)))) (.reg false (some [5,6,7]) c48r6))))
def c48r7:=rg 48 Try.f48 7
def c48:SC:=
 (.seq (.reg false (some [0]) c48r0) (.seq (.seq (.reg false (some [5,6,7]) c48r1) (.block 0 (.loop c48l0))) (.seq (.reg false (some [2]) c48r7) .ret)))
theorem s48:Try.f48.body.bind (bh Try.prog An 48 Try.f48.ntmps)=some c48:=by kernel_rfl
theorem g48:An.glob 48=[]:=rfl
theorem r48:Try.f48.results.toList=[(.tmp 2)]:=by kernel_rfl
theorem t48r0 (h:Q .normal ⟨[(0,(ac L 0))],m⟩):Rg F 48 [0] c48r0 L m Q:=ae (by kernel_rfl) h
theorem t48r1 (h:Obt (lenS (ac L 0)) λa0=>Q .normal ⟨[(5,(ac L 0)),(6,a0),(7,(.int .i64 0))],m⟩):Rg F 48 [5,6,7] c48r1 L m Q:=ae (by kernel_rfl) h
theorem QQ (h:Obt (aw Try.prog .lss 3 (.tmp 7) (.tmp 6) (ac L 7) (ac L 6)) λa0=>Q .normal ⟨[(5,(ac L 5)),(6,(ac L 6)),(7,(ac L 7)),(8,a0)],m⟩):Rg F 48 [5,6,7,8] c48r2 L m Q:=ae (by kernel_rfl) h
theorem t48r3 (h:Obt (bd 1 (ac L 5) (ac L 7)) λa0=>Obt (ld1 m a0) λa1=>Q .normal ⟨[(4,a1),(5,(ac L 5)),(6,(ac L 6)),(7,(ac L 7))],m⟩):Rg F 48 [4,5,6,7] c48r3 L m Q:=ae (by kernel_rfl) h
theorem t48r4 (h:Obt (aw Try.prog .neq 3 (.tmp 11) (.const (.int .i64 0)) (ac L 4) (.int .i64 0)) λa0=>Q .normal ⟨[(5,(ac L 5)),(6,(ac L 6)),(7,(ac L 7)),(12,a0)],m⟩):Rg F 48 [5,6,7,12] c48r4 L m Q:=ae (by kernel_rfl) h
theorem t48r5 (h:Q .normal ⟨[(2,(.bool false))],m⟩):Rg F 48 [2] c48r5 L m Q:=ae (by kernel_rfl) h
theorem t48r6 (h:Obt (aw Try.prog .add 3 (.tmp 7) (.const (.int .i64 1)) (ac L 7) (.int .i64 1)) λa0=>Q .normal ⟨[(5,(ac L 5)),(6,(ac L 6)),(7,a0)],m⟩):Rg F 48 [5,6,7] c48r6 L m Q:=ae (by kernel_rfl) h
theorem E8 (h:Q .normal ⟨[(2,(.bool true))],m⟩):Rg F 48 [2] c48r7 L m Q:=ae (by kernel_rfl) h
def c49r0:=rg 49 Try.f49 0
def c49r1:=rg 49 Try.f49 1
def c49:SC:=
 (.seq (.reg false (some [0,1,2]) c49r0) (.seq (.reg false (some [6]) c49r1) .ret))
theorem s49:Try.f49.body.bind (bh Try.prog An 49 Try.f49.ntmps)=some c49:=by kernel_rfl
theorem g49:An.glob 49=[]:=rfl
theorem r49:Try.f49.results.toList=[(.tmp 6)]:=by kernel_rfl
theorem QR (h:Q .normal ⟨[(0,(ac L 0)),(1,(ac L 1)),(2,(ac L 2))],m⟩):Rg F 49 [0,1,2] c49r0 L m Q:=ae (by kernel_rfl) h
theorem QS (h:Obt (aw Try.prog .geq 3 (.tmp 7) (.tmp 8) (ac L 0) (ac L 1)) λa0=>Obt (gdO a0 true (some ((ac L 0),m)) (.tuple [],m)) λa1=>Obt (gdO a0 true (some ((ac L 2),a1.2)) (.tuple [],a1.2)) λa2=>Obt (gdO a0 true ((aw Try.prog .leq 3 (.tmp 11) (.tmp 12) a1.1 a2.1).map λv=>(v,a2.2)) (.tuple [],a2.2)) λa3=>Obt (cT a0 a3.1 (.bool false)) λa4=>Q .normal ⟨[(6,a4)],a3.2⟩):Rg F 49 [6] c49r1 L m Q:=ae (by kernel_rfl) h
def c50r0:=rg 50 Try.f50 0
def c50r1:=rg 50 Try.f50 1
def c50r2:=rg 50 Try.f50 2
def c50r3:=rg 50 Try.f50 3
def c50r4:=rg 50 Try.f50 4
def c50r5:=rg 50 Try.f50 5
def c50:SC:=
 (.seq (.reg false (some [1]) c50r0) (.seq (.block 0 (.seq (.reg false (some [1,3]) c50r1) (.cond (.tmp 3) (.seq (.reg false (some [2]) c50r2) .ret) (.seq (.reg false (some [1,18]) c50r3) (.cond (.tmp 18) (.seq (.reg false (some [2]) c50r4) .ret) .nop))))) (.seq (.reg false (some [2]) c50r5) .ret)))
theorem s50:Try.f50.body.bind (bh Try.prog An 50 Try.f50.ntmps)=some c50:=by kernel_rfl
theorem g50:An.glob 50=[]:=rfl
theorem r50:Try.f50.results.toList=[(.tmp 2)]:=by kernel_rfl
theorem Ng (h:Obt (ap (ac L 0)) λa0=>Q .normal ⟨[(1,(bo m 16))],(bw m 16 a0)⟩):Rg F 50 [1] c50r0 L m Q:=ae (by kernel_rfl) h
theorem Nh (h:Obt (aA 3 (ac L 1)) λa0=>Obt (ld1 m a0) λa1=>Obt (be false 96 1 1 [.int .i64 0] [(0,1,a1)] m) λa2=>Obt (cd An F 50 (some 7) 48 [a2.1] a2.2) λa3=>Obt (cun .not a3.1) λa4=>Obt (gdO a4 false ((aA 5 (ac L 1)).map λv=>(v,a3.2)) (.tuple [],a3.2)) λa5=>Obt (gdO a4 false ((ld1 a5.2 a5.1).map λv=>(v,a5.2)) (.tuple [],a5.2)) λa6=>Obt (gdO a4 false ((pF .u32 a6.1).map λv=>(v,a6.2)) (.tuple [],a6.2)) λa7=>Obt (gdO a4 false ((aA 4 (ac L 1)).map λv=>(v,a7.2)) (.tuple [],a7.2)) λa8=>Obt (gdO a4 false ((ld1 a8.2 a8.1).map λv=>(v,a8.2)) (.tuple [],a8.2)) λa9=>Obt (gdO a4 false ((pF .u32 a9.1).map λv=>(v,a9.2)) (.tuple [],a9.2)) λa10=>Obt (gdO a4 false ((aw Try.prog .neq 80 (.tmp 12) (.tmp 15) a7.1 a10.1).map λv=>(v,a10.2)) (.tuple [],a10.2)) λa11=>Obt (cT a4 (.bool true) a11.1) λa12=>Q .normal ⟨[(1,(ac L 1)),(3,a12)],a11.2⟩):Rg F 50 [1,3] c50r1 L m Q:=ae (by kernel_rfl) h
theorem t50r2 (h:Q .normal ⟨[(2,(.bool false))],m⟩):Rg F 50 [2] c50r2 L m Q:=ae (by kernel_rfl) h
theorem Fe (h:Obt (aA 2 (ac L 1)) λa0=>Obt (ld1 m a0) λa1=>Obt (aw Try.prog .eql 3 (.tmp 20) (.const (.int .i64 1)) a1 (.int .i64 1)) λa2=>Q .normal ⟨[(1,(ac L 1)),(18,a2)],m⟩):Rg F 50 [1,18] c50r3 L m Q:=ae (by kernel_rfl) h
theorem t50r4 (h:Obt (aA 4 (ac L 1)) λa0=>Obt (ld1 m a0) λa1=>Obt (cd An F 50 (some 24) 49 [a1,(.int .i64 0),(.int .i64 7)] m) λa2=>Obt (gdO a2.1 true ((aA 5 (ac L 1)).map λv=>(v,a2.2)) (.tuple [],a2.2)) λa3=>Obt (gdO a2.1 true ((ld1 a3.2 a3.1).map λv=>(v,a3.2)) (.tuple [],a3.2)) λa4=>Obt (gdO a2.1 true ((aw Try.prog .shr 45 (.tmp 27) (.const (.int .u64 32)) a4.1 (.int .u64 32)).map λv=>(v,a4.2)) (.tuple [],a4.2)) λa5=>Obt (gdO a2.1 true ((aw Try.prog .eql 45 (.tmp 28) (.const (.int .u64 0)) a5.1 (.int .u64 0)).map λv=>(v,a5.2)) (.tuple [],a5.2)) λa6=>Obt (cT a2.1 a6.1 (.bool false)) λa7=>Q .normal ⟨[(2,a7)],a6.2⟩):Rg F 50 [2] c50r4 L m Q:=ae (by kernel_rfl) h
theorem t50r5 (h:Obt (aA 2 (ac L 1)) λa0=>Obt (ld1 m a0) λa1=>Obt (aw Try.prog .eql 3 (.tmp 32) (.const (.int .i64 0)) a1 (.int .i64 0)) λa2=>Q .normal ⟨[(2,a2)],m⟩):Rg F 50 [2] c50r5 L m Q:=ae (by kernel_rfl) h
def c51r0:=rg 51 Try.f51 0
def c51r1:=rg 51 Try.f51 1
def c51r2:=rg 51 Try.f51 2
def c51r3:=rg 51 Try.f51 3
def c51r4:=rg 51 Try.f51 4
def c51r5:=rg 51 Try.f51 5
def c51r6:=rg 51 Try.f51 6
def c51r7:=rg 51 Try.f51 7
def c51r8:=rg 51 Try.f51 8
def c51r9:=rg 51 Try.f51 9
def Ps:=rg 51 Try.f51 10
def Pt:=rg 51 Try.f51 11
def Pu:=rg 51 Try.f51 12
def Pv:=rg 51 Try.f51 13
def Pw:=rg 51 Try.f51 14
def c51:SC:=
 (.seq (.reg false (some [0]) c51r0) (.seq (.seq (.reg false (some [0,4]) c51r1) (.block 0 (.seq (.block 3 (.block 2 (.block 1 (.seq (.seq (.seq (.reg false (some [0,4,5]) c51r2) (.cond (.tmp 5) (.exit 1) .nop)) (.seq (.seq (.reg false (some [0,4,7]) c51r3) (.cond (.tmp 7) (.exit 2) .nop)) (.seq (.reg false (some [0,9]) c51r4) (.cond (.tmp 9) (.exit 3) .nop)))) (.exit 0))))) (.seq (.seq (.reg false (some [12]) c51r5) (.block 4 (.seq (.reg false (some [12,13]) c51r6) (.cond (.tmp 13) (.seq (.reg false (some [2]) c51r7) .ret) (.seq (.reg false (some [12,15]) c51r8) (.cond (.tmp 15) (.seq (.reg false (some [2]) c51r9) .ret) (.seq (.reg false (some [12,17]) Ps) (.cond (.tmp 17) (.seq (.reg false (some [2]) Pt) .ret) (.seq (.reg false (some [19]) Pu) (.cond (.tmp 19) (.seq (.reg false (some [2]) Pv) .ret) .nop)))))))))) (.exit 0))))) (.seq (.reg false (some [2]) Pw) .ret)))
theorem s51:Try.f51.body.bind (bh Try.prog An 51 Try.f51.ntmps)=some c51:=by kernel_rfl
theorem g51:An.glob 51=[]:=rfl
theorem r51:Try.f51.results.toList=[(.tmp 2)]:=by kernel_rfl
theorem wy (h:Q .normal ⟨[(0,(ac L 0))],m⟩):Rg F 51 [0] c51r0 L m Q:=ae (by kernel_rfl) h
theorem wz (h:Obt (cd An F 51 (some 4) 44 [(ac L 0)] m) λa0=>Q .normal ⟨[(0,(ac L 0)),(4,a0.1)],a0.2⟩):Rg F 51 [0,4] c51r1 L m Q:=ae (by kernel_rfl) h
theorem wA (h:Obt (aw Try.prog .eql 3 (.tmp 4) (.const (.int .i64 1)) (ac L 4) (.int .i64 1)) λa0=>Q .normal ⟨[(0,(ac L 0)),(4,(ac L 4)),(5,a0)],m⟩):Rg F 51 [0,4,5] c51r2 L m Q:=ae (by kernel_rfl) h
theorem Ku (h:Obt (aw Try.prog .eql 3 (.tmp 4) (.const (.int .i64 2)) (ac L 4) (.int .i64 2)) λa0=>Q .normal ⟨[(0,(ac L 0)),(4,(ac L 4)),(7,a0)],m⟩):Rg F 51 [0,4,7] c51r3 L m Q:=ae (by kernel_rfl) h
theorem Fg (h:Obt (aw Try.prog .eql 3 (.tmp 4) (.const (.int .i64 3)) (ac L 4) (.int .i64 3)) λa0=>Q .normal ⟨[(0,(ac L 0)),(9,a0)],m⟩):Rg F 51 [0,9] c51r4 L m Q:=ae (by kernel_rfl) h
theorem tT (h:Obt (aw Try.prog .andNot 3 (.tmp 11) (.const (.int .i64 7)) (ac L 0) (.int .i64 7)) λa0=>Q .normal ⟨[(12,a0)],m⟩):Rg F 51 [12] c51r5 L m Q:=ae (by kernel_rfl) h
theorem uf (h:Obt (aw Try.prog .eql 3 (.tmp 12) (.const (.int .i64 96)) (ac L 12) (.int .i64 96)) λa0=>Q .normal ⟨[(12,(ac L 12)),(13,a0)],m⟩):Rg F 51 [12,13] c51r6 L m Q:=ae (by kernel_rfl) h
theorem QX (h:Q .normal ⟨[(2,(.int .i64 4))],m⟩):Rg F 51 [2] c51r7 L m Q:=ae (by kernel_rfl) h
theorem Ch (h:Obt (aw Try.prog .eql 3 (.tmp 12) (.const (.int .i64 104)) (ac L 12) (.int .i64 104)) λa0=>Q .normal ⟨[(12,(ac L 12)),(15,a0)],m⟩):Rg F 51 [12,15] c51r8 L m Q:=ae (by kernel_rfl) h
theorem QY (h:Q .normal ⟨[(2,(.int .i64 2))],m⟩):Rg F 51 [2] c51r9 L m Q:=ae (by kernel_rfl) h
theorem B0 (h:Obt (aw Try.prog .eql 3 (.tmp 12) (.const (.int .i64 112)) (ac L 12) (.int .i64 112)) λa0=>Q .normal ⟨[(12,(ac L 12)),(17,a0)],m⟩):Rg F 51 [12,17] Ps L m Q:=ae (by kernel_rfl) h
theorem NC (h:Q .normal ⟨[(2,(.int .i64 1))],m⟩):Rg F 51 [2] Pt L m Q:=ae (by kernel_rfl) h
theorem Lk (h:Obt (aw Try.prog .eql 3 (.tmp 12) (.const (.int .i64 120)) (ac L 12) (.int .i64 120)) λa0=>Q .normal ⟨[(19,a0)],m⟩):Rg F 51 [19] Pu L m Q:=ae (by kernel_rfl) h
theorem ND (h:Q .normal ⟨[(2,(.int .i64 8))],m⟩):Rg F 51 [2] Pv L m Q:=ae (by kernel_rfl) h
theorem MC (h:Q .normal ⟨[(2,(.int .i64 0))],m⟩):Rg F 51 [2] Pw L m Q:=ae (by kernel_rfl) h
def c52r0:=rg 52 Try.f52 0
def c52r1:=rg 52 Try.f52 1
def c52r2:=rg 52 Try.f52 2
def c52r3:=rg 52 Try.f52 3
def c52r4:=rg 52 Try.f52 4
def c52r5:=rg 52 Try.f52 5
def c52r6:=rg 52 Try.f52 6
def c52r7:=rg 52 Try.f52 7
def c52r8:=rg 52 Try.f52 8
def c52r9:=rg 52 Try.f52 9
def Px:=rg 52 Try.f52 10
def Py:=rg 52 Try.f52 11
def c52r12:=rg 52 Try.f52 12
def Pz:=rg 52 Try.f52 13
def PA:=rg 52 Try.f52 14
def c52r15:=rg 52 Try.f52 15
def PB:=rg 52 Try.f52 16
def PC:=rg 52 Try.f52 17
def c52r18:=rg 52 Try.f52 18
def PD:=rg 52 Try.f52 19
def PE:=rg 52 Try.f52 20
def c52r21:=rg 52 Try.f52 21
def PF:=rg 52 Try.f52 22
def c52:SC:=
 (.seq (.reg false (some [0,1,2,3]) c52r0) (.seq (.reg false (some [0,1,2,3]) c52r1) (.seq (.reg false (some [0,1,2,10]) c52r2) (.seq (.seq (.reg false (some [1,2,10,22]) c52r3) (.block 0 (.seq (.reg false (some [1,2,10,22,23]) c52r4) (.cond (.tmp 23) (.seq (.reg false (some [8,9]) c52r5) .ret) (.seq (.reg false (some [1,2,10,22,27]) c52r6) (.cond (.tmp 27) (.seq (.reg false (some [8,9]) c52r7) .ret) (.seq (.reg false (some [1,2,10,22,31]) c52r8) (.cond (.tmp 31) (.seq (.reg false (some [8,9]) c52r9) .ret) (.seq (.seq (.reg false (some [10,22,37]) Px) (.cond (.tmp 37) .nop (.reg false (some [10,22,37]) Py))) (.cond (.tmp 37) (.seq (.reg false (some [8,9]) c52r12) .ret) (.seq (.seq (.reg false (some [10,22,42]) Pz) (.cond (.tmp 42) .nop (.reg false (some [10,22,42]) PA))) (.cond (.tmp 42) (.seq (.reg false (some [8,9]) c52r15) .ret) (.seq (.seq (.reg false (some [10,22,47]) PB) (.cond (.tmp 47) .nop (.reg false (some [10,22,47]) PC))) (.cond (.tmp 47) (.seq (.reg false (some [8,9]) c52r18) .ret) (.seq (.seq (.reg false (some [10,22,52]) PD) (.cond (.tmp 52) .nop (.reg false (some [10,52]) PE))) (.cond (.tmp 52) (.seq (.reg false (some [8,9]) c52r21) .ret) .nop)))))))))))))))) (.seq (.reg false (some [8,9]) PF) .ret)))))
theorem s52:Try.f52.body.bind (bh Try.prog An 52 Try.f52.ntmps)=some c52:=by kernel_rfl
theorem g52:An.glob 52=[]:=rfl
theorem r52:Try.f52.results.toList=[(.tmp 8),(.tmp 9)]:=by kernel_rfl
theorem p9 (h:Q .normal ⟨[(0,(ac L 0)),(1,(ac L 1)),(2,(ac L 2)),(3,(ac L 3))],m⟩):Rg F 52 [0,1,2,3] c52r0 L m Q:=ae (by kernel_rfl) h
theorem qa (h:Obt (cd An F 52 (some 13) 63 [(ac L 1),(ac L 3)] m) λa0=>Obt (cd An F 52 (some 16) 63 [(ac L 2),(ac L 3)] a0.2) λa1=>Q .normal ⟨[(0,(ac L 0)),(1,a0.1),(2,a1.1),(3,(ac L 3))],a1.2⟩):Rg F 52 [0,1,2,3] c52r1 L m Q:=ae (by kernel_rfl) h
theorem t52r2 (h:Obt (cd An F 52 (some 21) 64 [(ac L 0),(ac L 1),(ac L 2),(ac L 3)] m) λa0=>Q .normal ⟨[(0,(ac L 0)),(1,(ac L 1)),(2,(ac L 2)),(10,a0.1)],a0.2⟩):Rg F 52 [0,1,2,10] c52r2 L m Q:=ae (by kernel_rfl) h
theorem sY (h:Q .normal ⟨[(1,(ac L 1)),(2,(ac L 2)),(10,(ac L 10)),(22,(ac L 0))],m⟩):Rg F 52 [1,2,10,22] c52r3 L m Q:=ae (by kernel_rfl) h
theorem t52r4 (h:Obt (aw Try.prog .eql 3 (.tmp 22) (.const (.int .i64 16)) (ac L 22) (.int .i64 16)) λa0=>Q .normal ⟨[(1,(ac L 1)),(2,(ac L 2)),(10,(ac L 10)),(22,(ac L 22)),(23,a0)],m⟩):Rg F 52 [1,2,10,22,23] c52r4 L m Q:=ae (by kernel_rfl) h
theorem t52r6 (h:Obt (aw Try.prog .eql 3 (.tmp 22) (.const (.int .i64 80)) (ac L 22) (.int .i64 80)) λa0=>Q .normal ⟨[(1,(ac L 1)),(2,(ac L 2)),(10,(ac L 10)),(22,(ac L 22)),(27,a0)],m⟩):Rg F 52 [1,2,10,22,27] c52r6 L m Q:=ae (by kernel_rfl) h
theorem t52r8 (h:Obt (aw Try.prog .eql 3 (.tmp 22) (.const (.int .i64 64)) (ac L 22) (.int .i64 64)) λa0=>Q .normal ⟨[(1,(ac L 1)),(2,(ac L 2)),(10,(ac L 10)),(22,(ac L 22)),(31,a0)],m⟩):Rg F 52 [1,2,10,22,31] c52r8 L m Q:=ae (by kernel_rfl) h
theorem t52r10 (h:Obt (aw Try.prog .eql 3 (.tmp 22) (.const (.int .i64 32)) (ac L 22) (.int .i64 32)) λa0=>Q .normal ⟨[(10,(ac L 10)),(22,(ac L 22)),(37,a0)],m⟩):Rg F 52 [10,22,37] Px L m Q:=ae (by kernel_rfl) h
theorem t52r11 (h:Obt (aw Try.prog .eql 3 (.tmp 22) (.const (.int .i64 96)) (ac L 22) (.int .i64 96)) λa0=>Q .normal ⟨[(10,(ac L 10)),(22,(ac L 22)),(37,a0)],m⟩):Rg F 52 [10,22,37] Py L m Q:=ae (by kernel_rfl) h
theorem t52r13 (h:Obt (aw Try.prog .eql 3 (.tmp 22) (.const (.int .i64 48)) (ac L 22) (.int .i64 48)) λa0=>Q .normal ⟨[(10,(ac L 10)),(22,(ac L 22)),(42,a0)],m⟩):Rg F 52 [10,22,42] Pz L m Q:=ae (by kernel_rfl) h
theorem t52r14 (h:Obt (aw Try.prog .eql 3 (.tmp 22) (.const (.int .i64 112)) (ac L 22) (.int .i64 112)) λa0=>Q .normal ⟨[(10,(ac L 10)),(22,(ac L 22)),(42,a0)],m⟩):Rg F 52 [10,22,42] PA L m Q:=ae (by kernel_rfl) h
theorem t52r16 (h:Obt (aw Try.prog .eql 3 (.tmp 22) (.const (.int .i64 160)) (ac L 22) (.int .i64 160)) λa0=>Q .normal ⟨[(10,(ac L 10)),(22,(ac L 22)),(47,a0)],m⟩):Rg F 52 [10,22,47] PB L m Q:=ae (by kernel_rfl) h
theorem t52r17 (h:Obt (aw Try.prog .eql 3 (.tmp 22) (.const (.int .i64 192)) (ac L 22) (.int .i64 192)) λa0=>Q .normal ⟨[(10,(ac L 10)),(22,(ac L 22)),(47,a0)],m⟩):Rg F 52 [10,22,47] PC L m Q:=ae (by kernel_rfl) h
theorem t52r19 (h:Obt (aw Try.prog .eql 3 (.tmp 22) (.const (.int .i64 176)) (ac L 22) (.int .i64 176)) λa0=>Q .normal ⟨[(10,(ac L 10)),(22,(ac L 22)),(52,a0)],m⟩):Rg F 52 [10,22,52] PD L m Q:=ae (by kernel_rfl) h
theorem t52r20 (h:Obt (aw Try.prog .eql 3 (.tmp 22) (.const (.int .i64 208)) (ac L 22) (.int .i64 208)) λa0=>Q .normal ⟨[(10,(ac L 10)),(52,a0)],m⟩):Rg F 52 [10,52] PE L m Q:=ae (by kernel_rfl) h
theorem t52r22 (h:Q .normal ⟨[(8,(.bool false)),(9,(.bool false))],m⟩):Rg F 52 [8,9] PF L m Q:=ae (by kernel_rfl) h
def c62r0:=rg 62 Try.f62 0
def c62r1:=rg 62 Try.f62 1
def c62r2:=rg 62 Try.f62 2
def c62r3:=rg 62 Try.f62 3
def c62r4:=rg 62 Try.f62 4
def c62r5:=rg 62 Try.f62 5
def c62r6:=rg 62 Try.f62 6
def c62r7:=rg 62 Try.f62 7
def c62r8:=rg 62 Try.f62 8
def c62r9:=rg 62 Try.f62 9
def Ca:=rg 62 Try.f62 10
def Cb:=rg 62 Try.f62 11
def Cc:=rg 62 Try.f62 12
def Ce:=rg 62 Try.f62 13
def Cf:=rg 62 Try.f62 14
def Cg:=rg 62 Try.f62 15
def Ci:=rg 62 Try.f62 16
def c62:SC:=
 (.seq (.reg false (some [0,1,2,3]) c62r0) (.seq (.reg false (some [0,1,2,3]) c62r1) (.seq (.seq (.reg false (some [0,1,2,3,18]) c62r2) (.block 0 (.seq (.reg false (some [0,1,2,3,18,19]) c62r3) (.cond (.tmp 19) (.seq (.seq (.reg false (some [1,2,22]) c62r4) (.cond (.tmp 22) (.seq (.reg false (some [8,9]) c62r5) .ret) .nop)) (.seq (.reg false (some [8,9]) c62r6) .ret)) (.seq (.reg false (some [0,1,2,3,18,26]) c62r7) (.cond (.tmp 26) (.seq (.seq (.reg false (some [1,2,29]) c62r8) (.cond (.tmp 29) (.seq (.reg false (some [8,9]) c62r9) .ret) .nop)) (.seq (.reg false (some [8,9]) Ca) .ret)) (.seq (.seq (.reg false (some [0,1,2,3,18,34]) Cb) (.cond (.tmp 34) .nop (.seq (.reg false (some [0,1,2,3,18,34]) Cc) (.cond (.tmp 34) .nop (.reg false (some [0,1,2,3,34]) Ce))))) (.cond (.tmp 34) (.seq (.reg false (some [8,9]) Cf) .ret) .nop)))))))) (.seq (.reg false (some [3,10,11]) Cg) (.seq (.reg false (some [8,9]) Ci) .ret)))))
theorem s62:Try.f62.body.bind (bh Try.prog An 62 Try.f62.ntmps)=some c62:=by kernel_rfl
theorem g62:An.glob 62=[]:=rfl
theorem r62:Try.f62.results.toList=[(.tmp 8),(.tmp 9)]:=by kernel_rfl
theorem t62r0 (h:Q .normal ⟨[(0,(ac L 0)),(1,(ac L 1)),(2,(ac L 2)),(3,(ac L 3))],m⟩):Rg F 62 [0,1,2,3] c62r0 L m Q:=ae (by kernel_rfl) h
theorem t62r1 (h:Obt (cd An F 62 (some 14) 63 [(ac L 1),(ac L 3)] m) λa0=>Obt (cd An F 62 (some 17) 63 [(ac L 2),(ac L 3)] a0.2) λa1=>Q .normal ⟨[(0,(ac L 0)),(1,a0.1),(2,a1.1),(3,(ac L 3))],a1.2⟩):Rg F 62 [0,1,2,3] c62r1 L m Q:=ae (by kernel_rfl) h
theorem t62r2 (h:Q .normal ⟨[(0,(ac L 0)),(1,(ac L 1)),(2,(ac L 2)),(3,(ac L 3)),(18,(ac L 0))],m⟩):Rg F 62 [0,1,2,3,18] c62r2 L m Q:=ae (by kernel_rfl) h
theorem t62r3 (h:Obt (aw Try.prog .eql 3 (.tmp 18) (.const (.int .i64 48)) (ac L 18) (.int .i64 48)) λa0=>Q .normal ⟨[(0,(ac L 0)),(1,(ac L 1)),(2,(ac L 2)),(3,(ac L 3)),(18,(ac L 18)),(19,a0)],m⟩):Rg F 62 [0,1,2,3,18,19] c62r3 L m Q:=ae (by kernel_rfl) h
theorem Fr (h:Obt (aw Try.prog .eql 3 (.tmp 18) (.const (.int .i64 144)) (ac L 18) (.int .i64 144)) λa0=>Q .normal ⟨[(0,(ac L 0)),(1,(ac L 1)),(2,(ac L 2)),(3,(ac L 3)),(18,(ac L 18)),(26,a0)],m⟩):Rg F 62 [0,1,2,3,18,26] c62r7 L m Q:=ae (by kernel_rfl) h
theorem t62r11 (h:Obt (aw Try.prog .eql 3 (.tmp 18) (.const (.int .i64 96)) (ac L 18) (.int .i64 96)) λa0=>Q .normal ⟨[(0,(ac L 0)),(1,(ac L 1)),(2,(ac L 2)),(3,(ac L 3)),(18,(ac L 18)),(34,a0)],m⟩):Rg F 62 [0,1,2,3,18,34] Cb L m Q:=ae (by kernel_rfl) h
theorem Fp (h:Obt (aw Try.prog .eql 3 (.tmp 18) (.const (.int .i64 112)) (ac L 18) (.int .i64 112)) λa0=>Q .normal ⟨[(0,(ac L 0)),(1,(ac L 1)),(2,(ac L 2)),(3,(ac L 3)),(18,(ac L 18)),(34,a0)],m⟩):Rg F 62 [0,1,2,3,18,34] Cc L m Q:=ae (by kernel_rfl) h
theorem t62r13 (h:Obt (aw Try.prog .eql 3 (.tmp 18) (.const (.int .i64 192)) (ac L 18) (.int .i64 192)) λa0=>Q .normal ⟨[(0,(ac L 0)),(1,(ac L 1)),(2,(ac L 2)),(3,(ac L 3)),(34,a0)],m⟩):Rg F 62 [0,1,2,3,34] Ce L m Q:=ae (by kernel_rfl) h
theorem t62r15 (h:Obt (cd An F 62 (some 49) 78 [(ac L 0),(ac L 1),(ac L 2)] m) λa0=>Obt (cV 0 a0.1) λa1=>Obt (cV 1 a0.1) λa2=>Q .normal ⟨[(3,(ac L 3)),(10,a1),(11,a2)],a0.2⟩):Rg F 62 [3,10,11] Cg L m Q:=ae (by kernel_rfl) h
theorem t62r16 (h:Obt (cd An F 62 (some 54) 63 [(ac L 10),(ac L 3)] m) λa0=>Q .normal ⟨[(8,a0.1),(9,(ac L 11))],a0.2⟩):Rg F 62 [8,9] Ci L m Q:=ae (by kernel_rfl) h
def c64r0:=rg 64 Try.f64 0
def c64r1:=rg 64 Try.f64 1
def c64r2:=rg 64 Try.f64 2
def c64r3:=rg 64 Try.f64 3
def c64r4:=rg 64 Try.f64 4
def c64r5:=rg 64 Try.f64 5
def c64r6:=rg 64 Try.f64 6
def c64r7:=rg 64 Try.f64 7
def c64r8:=rg 64 Try.f64 8
def c64r9:=rg 64 Try.f64 9
def c64:SC:=
 (.seq (.reg false (some [0,1,2,3]) c64r0) (.seq (.seq (.reg false (some [1,2,3,9]) c64r1) (.block 0 (.seq (.block 4 (.block 3 (.block 2 (.block 1 (.seq (.seq (.seq (.reg false (some [1,2,3,9,10]) c64r2) (.cond (.tmp 10) (.exit 1) .nop)) (.seq (.seq (.reg false (some [1,2,3,9,12]) c64r3) (.cond (.tmp 12) (.exit 2) .nop)) (.seq (.seq (.reg false (some [1,2,3,9,14]) c64r4) (.cond (.tmp 14) (.exit 3) .nop)) (.seq (.reg false (some [1,2,3,16]) c64r5) (.cond (.tmp 16) (.exit 4) .nop))))) (.exit 0)))))) (.seq (.seq (.seq (.reg false (some [1,2,19]) c64r6) (.cond (.tmp 19) (.seq (.reg false (some [8]) c64r7) .ret) .nop)) (.seq (.reg false (some [8]) c64r8) .ret)) (.exit 0))))) (.seq (.reg false (some [8]) c64r9) .ret)))
theorem s64:Try.f64.body.bind (bh Try.prog An 64 Try.f64.ntmps)=some c64:=by kernel_rfl
theorem g64:An.glob 64=[]:=rfl
theorem r64:Try.f64.results.toList=[(.tmp 8)]:=by kernel_rfl
theorem t64r0 (h:Q .normal ⟨[(0,(ac L 0)),(1,(ac L 1)),(2,(ac L 2)),(3,(ac L 3))],m⟩):Rg F 64 [0,1,2,3] c64r0 L m Q:=ae (by kernel_rfl) h
theorem t64r1 (h:Q .normal ⟨[(1,(ac L 1)),(2,(ac L 2)),(3,(ac L 3)),(9,(ac L 0))],m⟩):Rg F 64 [1,2,3,9] c64r1 L m Q:=ae (by kernel_rfl) h
theorem t64r2 (h:Obt (aw Try.prog .eql 3 (.tmp 9) (.const (.int .i64 96)) (ac L 9) (.int .i64 96)) λa0=>Q .normal ⟨[(1,(ac L 1)),(2,(ac L 2)),(3,(ac L 3)),(9,(ac L 9)),(10,a0)],m⟩):Rg F 64 [1,2,3,9,10] c64r2 L m Q:=ae (by kernel_rfl) h
theorem t64r3 (h:Obt (aw Try.prog .eql 3 (.tmp 9) (.const (.int .i64 112)) (ac L 9) (.int .i64 112)) λa0=>Q .normal ⟨[(1,(ac L 1)),(2,(ac L 2)),(3,(ac L 3)),(9,(ac L 9)),(12,a0)],m⟩):Rg F 64 [1,2,3,9,12] c64r3 L m Q:=ae (by kernel_rfl) h
theorem t64r4 (h:Obt (aw Try.prog .eql 3 (.tmp 9) (.const (.int .i64 192)) (ac L 9) (.int .i64 192)) λa0=>Q .normal ⟨[(1,(ac L 1)),(2,(ac L 2)),(3,(ac L 3)),(9,(ac L 9)),(14,a0)],m⟩):Rg F 64 [1,2,3,9,14] c64r4 L m Q:=ae (by kernel_rfl) h
theorem t64r5 (h:Obt (aw Try.prog .eql 3 (.tmp 9) (.const (.int .i64 208)) (ac L 9) (.int .i64 208)) λa0=>Q .normal ⟨[(1,(ac L 1)),(2,(ac L 2)),(3,(ac L 3)),(16,a0)],m⟩):Rg F 64 [1,2,3,16] c64r5 L m Q:=ae (by kernel_rfl) h
theorem t64r9 (h:Obt (cd An F 64 (some 36) 80 [(ac L 1),(ac L 2)] m) λa0=>Q .normal ⟨[(8,a0.1)],a0.2⟩):Rg F 64 [8] c64r9 L m Q:=ae (by kernel_rfl) h
def c78r0:=rg 78 Try.f78 0
def c78r1:=rg 78 Try.f78 1
def c78r2:=rg 78 Try.f78 2
def c78r3:=rg 78 Try.f78 3
def c78r4:=rg 78 Try.f78 4
def c78r5:=rg 78 Try.f78 5
def c78r6:=rg 78 Try.f78 6
def c78r7:=rg 78 Try.f78 7
def c78r8:=rg 78 Try.f78 8
def c78r9:=rg 78 Try.f78 9
def PO:=rg 78 Try.f78 10
def c78r11:=rg 78 Try.f78 11
def PP:=rg 78 Try.f78 12
def c78r13:=rg 78 Try.f78 13
def PQ:=rg 78 Try.f78 14
def c78r15:=rg 78 Try.f78 15
def PR:=rg 78 Try.f78 16
def c78r17:=rg 78 Try.f78 17
def PS:=rg 78 Try.f78 18
def c78:SC:=
 (.seq (.reg false (some [0,1,2]) c78r0) (.seq (.seq (.reg false (some [1,2,8]) c78r1) (.block 0 (.seq (.reg false (some [1,2,8,9]) c78r2) (.cond (.tmp 9) (.seq (.reg false (some [6,7]) c78r3) .ret) (.seq (.reg false (some [1,2,8,14]) c78r4) (.cond (.tmp 14) (.seq (.reg false (some [6,7]) c78r5) .ret) (.seq (.reg false (some [1,2,8,19]) c78r6) (.cond (.tmp 19) (.seq (.reg false (some [6,7]) c78r7) .ret) (.seq (.reg false (some [1,2,8,24]) c78r8) (.cond (.tmp 24) (.seq (.reg false (some [6,7]) c78r9) .ret) (.seq (.reg false (some [1,2,8,29]) PO) (.cond (.tmp 29) (.seq (.reg false (some [6,7]) c78r11) .ret) (.seq (.reg false (some [1,2,8,34]) PP) (.cond (.tmp 34) (.seq (.reg false (some [6,7]) c78r13) .ret) (.seq (.reg false (some [1,2,8,39]) PQ) (.cond (.tmp 39) (.seq (.reg false (some [6,7]) c78r15) .ret) (.seq (.reg false (some [2,43]) PR) (.cond (.tmp 43) (.seq (.reg false (some [6,7]) c78r17) .ret) .nop)))))))))))))))))) (.seq (.reg false (some [6,7]) PS) .ret)))
theorem s78:Try.f78.body.bind (bh Try.prog An 78 Try.f78.ntmps)=some c78:=by kernel_rfl
theorem g78:An.glob 78=[]:=rfl
theorem r78:Try.f78.results.toList=[(.tmp 6),(.tmp 7)]:=by kernel_rfl
theorem t78r0 (h:Q .normal ⟨[(0,(ac L 0)),(1,(ac L 1)),(2,(ac L 2))],m⟩):Rg F 78 [0,1,2] c78r0 L m Q:=ae (by kernel_rfl) h
theorem t78r1 (h:Q .normal ⟨[(1,(ac L 1)),(2,(ac L 2)),(8,(ac L 0))],m⟩):Rg F 78 [1,2,8] c78r1 L m Q:=ae (by kernel_rfl) h
theorem t78r2 (h:Obt (aw Try.prog .eql 3 (.tmp 8) (.const (.int .i64 0)) (ac L 8) (.int .i64 0)) λa0=>Q .normal ⟨[(1,(ac L 1)),(2,(ac L 2)),(8,(ac L 8)),(9,a0)],m⟩):Rg F 78 [1,2,8,9] c78r2 L m Q:=ae (by kernel_rfl) h
theorem t78r4 (h:Obt (aw Try.prog .eql 3 (.tmp 8) (.const (.int .i64 16)) (ac L 8) (.int .i64 16)) λa0=>Q .normal ⟨[(1,(ac L 1)),(2,(ac L 2)),(8,(ac L 8)),(14,a0)],m⟩):Rg F 78 [1,2,8,14] c78r4 L m Q:=ae (by kernel_rfl) h
theorem t78r6 (h:Obt (aw Try.prog .eql 3 (.tmp 8) (.const (.int .i64 32)) (ac L 8) (.int .i64 32)) λa0=>Q .normal ⟨[(1,(ac L 1)),(2,(ac L 2)),(8,(ac L 8)),(19,a0)],m⟩):Rg F 78 [1,2,8,19] c78r6 L m Q:=ae (by kernel_rfl) h
theorem t78r8 (h:Obt (aw Try.prog .eql 3 (.tmp 8) (.const (.int .i64 64)) (ac L 8) (.int .i64 64)) λa0=>Q .normal ⟨[(1,(ac L 1)),(2,(ac L 2)),(8,(ac L 8)),(24,a0)],m⟩):Rg F 78 [1,2,8,24] c78r8 L m Q:=ae (by kernel_rfl) h
theorem t78r10 (h:Obt (aw Try.prog .eql 3 (.tmp 8) (.const (.int .i64 80)) (ac L 8) (.int .i64 80)) λa0=>Q .normal ⟨[(1,(ac L 1)),(2,(ac L 2)),(8,(ac L 8)),(29,a0)],m⟩):Rg F 78 [1,2,8,29] PO L m Q:=ae (by kernel_rfl) h
theorem t78r12 (h:Obt (aw Try.prog .eql 3 (.tmp 8) (.const (.int .i64 160)) (ac L 8) (.int .i64 160)) λa0=>Q .normal ⟨[(1,(ac L 1)),(2,(ac L 2)),(8,(ac L 8)),(34,a0)],m⟩):Rg F 78 [1,2,8,34] PP L m Q:=ae (by kernel_rfl) h
theorem t78r14 (h:Obt (aw Try.prog .eql 3 (.tmp 8) (.const (.int .i64 128)) (ac L 8) (.int .i64 128)) λa0=>Q .normal ⟨[(1,(ac L 1)),(2,(ac L 2)),(8,(ac L 8)),(39,a0)],m⟩):Rg F 78 [1,2,8,39] PQ L m Q:=ae (by kernel_rfl) h
theorem t78r16 (h:Obt (aw Try.prog .eql 3 (.tmp 8) (.const (.int .i64 176)) (ac L 8) (.int .i64 176)) λa0=>Q .normal ⟨[(2,(ac L 2)),(43,a0)],m⟩):Rg F 78 [2,43] PR L m Q:=ae (by kernel_rfl) h
theorem t78r18 (h:Q .normal ⟨[(6,(.int .u64 0)),(7,(.bool false))],m⟩):Rg F 78 [6,7] PS L m Q:=ae (by kernel_rfl) h
def c11r0:=rg 11 Try.f11 0
def c11r1:=rg 11 Try.f11 1
def c11r2:=rg 11 Try.f11 2
def c11r3:=rg 11 Try.f11 3
def c11r4:=rg 11 Try.f11 4
def c11r5:=rg 11 Try.f11 5
def c11r6:=rg 11 Try.f11 6
def c11r7:=rg 11 Try.f11 7
def c11r8:=rg 11 Try.f11 8
def c11r9:=rg 11 Try.f11 9
def On:=rg 11 Try.f11 10
def Oo:=rg 11 Try.f11 11
def c11l0:SC:=
 (.seq (.seq (.reg false (some [0,5,6,19]) c11r6) (.cond (.tmp 19) .nop (.exit 0))) (.block 1 (.seq (.reg false (some [0,5,6,7]) c11r7) (.seq (.reg false (some [0,5,6,7]) c11r8) (.seq (.reg false (some [0,5,6,7,28]) c11r9) (.cond (.tmp 28) (.seq (.reg false (some [0,5,6,7]) On) (.reg false (some [0,5,6]) Oo)) .nop))))))
def Oq:=rg 11 Try.f11 12
def c11:SC:=
 (.seq (.reg false (some [0]) c11r0) (.seq (.seq (.reg false (some [0,4]) c11r1) (.seq (.reg false (some [0,14]) c11r2) (.cond (.tmp 14) (.seq (.reg false (some [2]) c11r3) .ret) .nop))) (.seq (.reg false (some [0,5]) c11r4) (.seq (.reg false (some [0,5,6]) c11r5) (.seq (.block 0 (.loop c11l0)) (.seq (.reg false (some [2]) Oq) .ret))))))
theorem s11:Try.f11.body.bind (bh Try.prog An 11 Try.f11.ntmps)=some c11:=by kernel_rfl
theorem g11:An.glob 11=[15]:=rfl
theorem r11:Try.f11.results.toList=[(.tmp 2)]:=by kernel_rfl
theorem t11r0 (h:Q .normal ⟨[(0,(ac L 0))],m⟩):Rg F 11 [0] c11r0 L m Q:=ae (by kernel_rfl) h
theorem t11r1 (h:Obt (cd An F 11 (some 10) 18 [(ac L 0)] m) λa0=>Obt (cV 0 a0.1) λa1=>Obt (cV 1 a0.1) λa2=>Q .normal ⟨[(0,(ac L 0)),(4,a2)],a0.2⟩):Rg F 11 [0,4] c11r1 L m Q:=ae (by kernel_rfl) h
theorem t11r2 (h:Obt (aw Try.prog .neq 24 (.tmp 13) (.const (.int .i64 0)) (ac L 4) (.int .i64 0)) λa0=>Q .normal ⟨[(0,(ac L 0)),(14,a0)],m⟩):Rg F 11 [0,14] c11r2 L m Q:=ae (by kernel_rfl) h
theorem t11r3 (h:Q .normal ⟨[(2,.nil)],m⟩):Rg F 11 [2] c11r3 L m Q:=ae (by kernel_rfl) h
theorem t11r4 (h:Q .normal ⟨[(0,(ac L 0)),(5,(md m))],(jJ m)⟩):Rg F 11 [0,5] c11r4 L m Q:=ae (by kernel_rfl) h
theorem t11r5 (h:Obt (be false 256 1 1 [.int .i64 0] [(0,1,(.int .i64 0))] m) λa0=>Q .normal ⟨[(0,(ac L 0)),(5,(ac L 5)),(6,a0.1)],a0.2⟩):Rg F 11 [0,5,6] c11r5 L m Q:=ae (by kernel_rfl) h
theorem Qh (h:Obt (lenS (ac L 6)) λa0=>Obt (aw Try.prog .gtr 3 (.tmp 18) (.const (.int .i64 0)) a0 (.int .i64 0)) λa1=>Q .normal ⟨[(0,(ac L 0)),(5,(ac L 5)),(6,(ac L 6)),(19,a1)],m⟩):Rg F 11 [0,5,6,19] c11r6 L m Q:=ae (by kernel_rfl) h
theorem t11r7 (h:Obt (bd 1 (ac L 6) (.int .i64 0)) λa0=>Obt (ld1 m a0) λa1=>Q .normal ⟨[(0,(ac L 0)),(5,(ac L 5)),(6,(ac L 6)),(7,a1)],m⟩):Rg F 11 [0,5,6,7] c11r7 L m Q:=ae (by kernel_rfl) h
theorem t11r8 (h:Obt (sJ 1 (ac L 6) (some (.int .i64 1)) none none m) λa0=>Q .normal ⟨[(0,(ac L 0)),(5,(ac L 5)),(6,a0),(7,(ac L 7))],m⟩):Rg F 11 [0,5,6,7] c11r8 L m Q:=ae (by kernel_rfl) h
theorem t11r9 (h:Obt (gK Try.prog 3 (.bool false) (ac L 5) (ac L 7) false m) λa0=>Obt (cun .not a0) λa1=>Q .normal ⟨[(0,(ac L 0)),(5,(ac L 5)),(6,(ac L 6)),(7,(ac L 7)),(28,a1)],m⟩):Rg F 11 [0,5,6,7,28] c11r9 L m Q:=ae (by kernel_rfl) h
theorem t11r10 (h:Obt (mB Try.prog 3 (ac L 5) (ac L 7) (.bool true) m) λa0=>Q .normal ⟨[(0,(ac L 0)),(5,(ac L 5)),(6,(ac L 6)),(7,(ac L 7))],a0⟩):Rg F 11 [0,5,6,7] On L m Q:=ae (by kernel_rfl) h
theorem t11r11 (h:Obt (cd An F 11 (some 34) 20 [(ac L 0),(ac L 7)] m) λa0=>Obt (ej false 560 1 8 (ac L 6) a0.1 a0.2) λa1=>Q .normal ⟨[(0,(ac L 0)),(5,(ac L 5)),(6,a1.1)],a1.2⟩):Rg F 11 [0,5,6] Oo L m Q:=ae (by kernel_rfl) h
theorem t11r12 (h:Obt (cd An F 11 (some 37) 29 [(ac L 5)] m) λa0=>Obt (cd An F 11 (some 38) 28 [a0.1] a0.2) λa1=>Q .normal ⟨[(2,a1.1)],a1.2⟩):Rg F 11 [2] Oq L m Q:=ae (by kernel_rfl) h
def c29r0:=rg 29 Try.f29 0
def c29r1:=rg 29 Try.f29 1
def c29:SC:=
 (.seq (.reg false (some [1]) c29r0) (.seq (.reg false (some [2]) c29r1) .ret))
theorem s29:Try.f29.body.bind (bh Try.prog An 29 Try.f29.ntmps)=some c29:=by kernel_rfl
theorem g29:An.glob 29=[1]:=rfl
theorem r29:Try.f29.results.toList=[(.tmp 2)]:=by kernel_rfl
theorem t29r0 (h:Obt (iB (ac L 0) m) λa0=>Q .normal ⟨[(1,a0.1)],a0.2⟩):Rg F 29 [1] c29r0 L m Q:=ae (by kernel_rfl) h
theorem t29r1 (h:Q .normal ⟨[(2,(.func (.func 42) [] [(ac L 1)]))],m⟩):Rg F 29 [2] c29r1 L m Q:=ae (by kernel_rfl) h
end
end Go.Cm
