import Derived.Test.YtijcpefcfcbcnaaCxD
import Derived.KernelRfl
import Derived.Test.YtijcpefcfcbcnaaProg
set_option linter.unusedSimpArgs false
set_option linter.unusedVariables false
namespace Go.Cm
open Go.Proofs
variable {F:aW}{L:List (Nat×CV)}{m:Mem}{Q:CE→TS→Prop}
noncomputable section
def kept:FuncId→List (Nat×List Tmp)
 |5=>[(0,[1]),(1,[1,12]),(2,[2]),(3,[1,3,4]),(4,[1,3,4,5,6]),(5,[1,3,4,5,6,7,8]),(6,[1,3,4,5,6,7,8,32]),(7,[2]),(8,[1,3,4,5,6,7,8,9]),(9,[1,3,4,5,6,7,8,9,36]),(10,[1,3,4,5,6,7,8,9]),(11,[1,3,4,5,6,7,8,9,47]),(12,[2]),(13,[2])]
 |12=>[(0,[1]),(1,[2])]
 |15=>[(0,[2,3]),(1,[2,3,23]),(2,[4]),(3,[2,3,5]),(4,[2,3,5,28]),(5,[2,3,5]),(6,[2,3,5,6,7]),(7,[2,3,5,6,7,71]),(8,[4]),(9,[2,3,5,6,7,8]),(10,[2,3,5,6,7,8,76]),(11,[2,3,5,6,7,8]),(12,[2,3,5,6,7,8,107]),(13,[4]),(14,[2,3,5,6,7,9]),(15,[2,3,5,6,7,9,112]),(16,[2,3,5,6,7,9]),(17,[2,3,5,6,7,9,126]),(18,[4]),(19,[4])]
 |16=>[(0,[1]),(1,[1,27]),(2,[2]),(3,[1,3]),(4,[1,3,33]),(5,[2]),(6,[1,3,4,5]),(7,[1,3,4,40]),(8,[2]),(9,[1,6]),(10,[1,6,7]),(11,[1,6,7,52]),(12,[1,6,7]),(13,[1,6,7,58]),(14,[2]),(15,[2])]
 |20=>[(0,[1]),(1,[2])]
 |22=>[(0,[1,2]),(1,[1,2,4]),(2,[1,2,4,17]),(3,[2,3]),(4,[1,2,5]),(5,[1,2,5,6]),(6,[2,5,6,26,27,28]),(7,[2,5,6,26,27,28,29]),(8,[2,5,6,8,26,27,28]),(9,[2,5,6,8,9,26,27,28]),(10,[2,5,6,8,9,26,27,28,38,39,40]),(11,[2,5,6,8,9,26,27,28,38,39,40,41]),(12,[2,5,6,8,9,11,26,27,28,38,39,40]),(13,[2,5,6,8,9,11,26,27,28,38,39,40,48]),(14,[2,5,6,8,9,26,27,28,38,39,40]),(15,[2,5,6,8,9,26,27,28,38,39,40]),(16,[2,5,6,9,26,27,28,57,58,59]),(17,[2,5,6,9,26,27,28,57,58,59,60]),(18,[2,5,6,9,13,26,27,28,57,58,59]),(19,[2,5,6,9,13,26,27,28,57,58,59,71]),(20,[2,5,6,9,26,27,28,57,58,59]),(21,[2,5,6,9,26,27,28,57,58,59]),(22,[2,5,6,26,27,28]),(23,[2,5,6,26,27,28]),(24,[2,3])]
 |23=>[(0,[1,2]),(1,[1,2,13]),(2,[2,3]),(3,[1,2,4]),(4,[1,2,4,5]),(5,[1,2,4,5,6]),(6,[1,2,4,5,6,24]),(7,[1,2,4,5,6]),(8,[1,2,4,5,6,7]),(9,[1,2,4,5,6,7,8]),(10,[1,2,4,5,6,7,8,9]),(11,[1,2,4,5,6,7,8,9,41]),(12,[1,2,4,5,6,7,8,9]),(13,[1,2,4,5,6,7,8,9,52]),(14,[1,2,4,5,6,7,8,9]),(15,[1,2,4,5,6,7,8,10]),(16,[1,2,4,5,6,7,8,10,67]),(17,[1,2,4,5,6,7,8,10]),(18,[1,2,4,5,6,7,8,10,86]),(19,[1,2,4,5,6,7,8,10]),(20,[1,2,4,5,6]),(21,[2,3])]
 |24=>[(0,[1]),(1,[1,9]),(2,[2]),(3,[1,3]),(4,[3,4,5]),(5,[3,4,5,20]),(6,[3,4,5,6]),(7,[3,4,5,6]),(8,[3,4,5,6,36]),(9,[3,4,5,6]),(10,[3,4,5]),(11,[2])]
 |25=>[(0,[1]),(1,[1,12]),(2,[2]),(3,[1,3]),(4,[1,3,4]),(5,[1,3,4,5]),(6,[1,3,4,5,20]),(7,[1,3,4,5]),(8,[1,3,4,5,6]),(9,[1,3,4,5,6]),(10,[1,3,4,5,6,7]),(11,[1,3,4,5,6,7,40]),(12,[1,3,4,5,6,7]),(13,[1,3,4,5,6,7,51]),(14,[1,3,4,5,6,7]),(15,[1,3,4,5,6,8]),(16,[1,3,4,5,6,8,67]),(17,[1,3,4,5,6,8]),(18,[1,3,4,5,6,8,9]),(19,[1,3,4,5,6,8,9,83]),(20,[1,3,4,5,6,8]),(21,[1,3,92]),(22,[2])]
 |26=>[(0,[1]),(1,[1,3]),(2,[3,7,8,9]),(3,[3,7,8,9,10]),(4,[3,5,7,8,9]),(5,[3,7,8,9]),(6,[3,7,8,9]),(7,[2])]
 |27=>[(0,[1]),(1,[1,3]),(2,[1,3,4]),(3,[1,3,4,9]),(4,[1,3,4]),(5,[1,3,4]),(6,[2])]
 |29=>[(0,[1]),(1,[1,4]),(2,[1,4,5]),(3,[2]),(4,[1,12]),(5,[2]),(6,[2])]
 |30=>[(0,[1]),(1,[1,4]),(2,[1,4,5]),(3,[1,4,5]),(4,[2]),(5,[1,4,13]),(6,[2]),(7,[1,18]),(8,[2]),(9,[2])]
 |36=>[(0,[1]),(1,[1,26]),(2,[2]),(3,[3]),(4,[36,37,38]),(5,[36,37,38,39]),(6,[5,36,37,38]),(7,[6,36,37,38]),(8,[36,37,38,56]),(9,[2]),(10,[36,37,38]),(11,[2])]
 |42=>[(0,[0]),(1,[0,4]),(2,[2]),(3,[2])]
 |43=>[(0,[0]),(1,[0,4]),(2,[2]),(3,[2])]
 |44=>[(0,[0,1]),(1,[0,1,10]),(2,[4]),(3,[0,1,5]),(4,[0,1,5,14]),(5,[0,1,5]),(6,[0,1,5,25]),(7,[4]),(8,[4])]
 |45=>[(0,[2,3]),(1,[4])]
 |46=>[(0,[1]),(1,[1,3]),(2,[1,3,4]),(3,[1,3,4,11]),(4,[1,3,4]),(5,[1,3,4,5]),(6,[1,3,4,5,6]),(7,[1,3,4,5,6,27]),(8,[1,3,4,5,6]),(9,[1,3,4,5,6,35]),(10,[1,3,4,5]),(11,[1,3,4]),(12,[2])]
 |47=>[(0,[1,2]),(1,[1,2,5]),(2,[1,2,5,6]),(3,[1,2,5,6,21]),(4,[1,2,5,6]),(5,[1,2,5,6,7]),(6,[1,2,5,6,7,9]),(7,[1,2,5,6,59]),(8,[4]),(9,[1,2,5,6,10]),(10,[1,2,5,6,10,66]),(11,[1,2,5,6,10]),(12,[1,2,5,6,10,87]),(13,[4]),(14,[1,2,5,11]),(15,[1,2,5,11,12]),(16,[1,2,5,11,12,92]),(17,[1,2,5,11,12]),(18,[1,2,5,11,12,13]),(19,[1,2,5,11,12,13,14]),(20,[1,2,5,11,12,13,14,97]),(21,[1,2,5,11,12,13,14]),(22,[1,2,5,11,12,13,14,15]),(23,[1,2,5,11,12,13,14,15,106]),(24,[1,2,5,11,12,13,14,15]),(25,[1,2,5,11,12,13,14,15,117]),(26,[1,2,5,11,12,13,14,15]),(27,[1,2,5,11,12,137]),(28,[4]),(29,[4])]
 |48=>[(0,[1]),(1,[1,4]),(2,[1,4,5]),(3,[1,4,5,16]),(4,[1,4,5]),(5,[1,4,5,6]),(6,[1,4,5,6,7]),(7,[1,4,5,6,7,28]),(8,[1,4,5,6,7]),(9,[1,4,5,6,7,40]),(10,[2,3]),(11,[1,4,5,6,8]),(12,[1,4,5,6,8,45]),(13,[1,4,5,6,8]),(14,[1,4,5,6,8,77]),(15,[2,3]),(16,[2,3])]
 |49=>[(0,[0]),(1,[0,3]),(2,[0,3,4]),(3,[0,3,4,5]),(4,[0,3,4,5,14]),(5,[0,3,4,5]),(6,[0,3,4,5,6]),(7,[0,3,4,5,6,7]),(8,[0,3,4,5,6,7,8]),(9,[0,3,4,5,6,7,8,26]),(10,[0,3,4,5,6,7,8]),(11,[0,3,4,5,6,7,8]),(12,[0,3,4,5]),(13,[2])]
 |50=>[(0,[0,1]),(1,[0,1,5]),(2,[0,1,5,6]),(3,[0,1,5,6,21]),(4,[0,1,5,6]),(5,[0,1,5,6,34]),(6,[4]),(7,[0,1,5,6,7]),(8,[0,1,5,6,7,39]),(9,[0,1,5,6,7]),(10,[0,1,5,6,7,59]),(11,[4]),(12,[0,1,5,8]),(13,[0,1,5,8,64]),(14,[0,1,5,8]),(15,[0,1,5,8,78]),(16,[4]),(17,[4])]
 |53=>[(0,[1]),(1,[2])]
 |54=>[(0,[1]),(1,[2])]
 |55=>[(0,[1]),(1,[1,4]),(2,[1,4,5]),(3,[4,5,14,15,16]),(4,[4,5,14,15,16,17]),(5,[4,5,7,14,15,16]),(6,[4,5,7,14,15,16,21,22,23]),(7,[4,5,7,14,15,16,21,22,23,24]),(8,[4,5,7,9,14,15,16,21,22,23]),(9,[4,5,7,14,15,16,21,22,23]),(10,[4,5,7,14,15,16,21,22,23]),(11,[4,5,7,14,15,16,34,35,36]),(12,[4,5,7,14,15,16,34,35,36,37]),(13,[4,5,7,11,14,15,16,34,35,36]),(14,[4,5,7,11,14,15,16,34,35,36,42]),(15,[4,5,7,11,14,15,16,34,35,36]),(16,[4,5,7,11,14,15,16,34,35,36,49]),(17,[4,5,7,14,15,16,34,35,36]),(18,[4,5,7,14,15,16,34,35,36]),(19,[4,5,7,14,15,16,57]),(20,[4,5,7,14,15,16,57,58]),(21,[4,5,14,15,16]),(22,[4,5,7,14,15,16,69]),(23,[4,5,14,15,16]),(24,[4,5,14,15,16]),(25,[2,3])]
 |56=>[(0,[0,1]),(1,[0,1,5]),(2,[0,1,5,6]),(3,[0,1,5,6,10]),(4,[0,1,5,6]),(5,[0,1,5,6]),(6,[0,1,5,6]),(7,[4])]
 |60=>[(0,[0]),(1,[0,3]),(2,[0,3,25,26,27]),(3,[0,3,25,26,27,28]),(4,[0,3,4,5,25,26,27]),(5,[0,3,4,6,25,26,27]),(6,[0,3,4,6,8,25,26,27]),(7,[0,3,4,6,25,26,27,63]),(8,[2]),(9,[0,3,4,25,26,27,69,70,71]),(10,[0,3,4,25,26,27,69,70,71,72]),(11,[0,3,4,10,25,26,27,69,70,71]),(12,[0,3,4,10,25,26,27,69,70,71,82]),(13,[2]),(14,[0,3,4,25,26,27,69,70,71]),(15,[0,3,4,25,26,27,69,70,71]),(16,[0,3,25,26,27]),(17,[0,3,11]),(18,[3,11,109,110,111]),(19,[3,11,109,110,111,112]),(20,[3,11,12,13,109,110,111]),(21,[3,11,12,109,110,111,140]),(22,[2]),(23,[3,11,109,110,111]),(24,[2])]
 |61=>[(0,[0]),(1,[0]),(2,[0,23,24]),(3,[0,23,24,25]),(4,[0,3,23,24]),(5,[0,23,24]),(6,[0,23,24]),(7,[0,39,40,41]),(8,[0,39,40,41,42]),(9,[0,4,5,39,40,41]),(10,[0,4,5,39,40,41,47,48,49]),(11,[0,4,5,39,40,41,47,48,49,50]),(12,[0,4,5,7,39,40,41,47,48,49]),(13,[0,4,5,39,40,41,47,48,49,59]),(14,[2]),(15,[0,4,5,39,40,41,47,48,49]),(16,[0,4,39,40,41,66,67,68]),(17,[0,4,39,40,41,66,67,68,69]),(18,[0,4,8,9,39,40,41,66,67,68]),(19,[0,4,39,40,41,66,67,68,91]),(20,[2]),(21,[0,4,39,40,41,66,67,68]),(22,[0,39,40,41]),(23,[2])]
 |62=>[(0,[0]),(1,[0]),(2,[0,25,26,27]),(3,[0,25,26,27,28]),(4,[0,3,4,25,26,27]),(5,[0,3,4,5,25,26,27]),(6,[0,3,4,5,25,26,27,36,37,38]),(7,[0,3,4,5,25,26,27,36,37,38,39]),(8,[0,3,4,5,7,25,26,27,36,37,38]),(9,[0,3,4,5,7,25,26,27,36,37,38,48]),(10,[2]),(11,[0,3,4,5,25,26,27,36,37,38,52,53,54]),(12,[0,3,4,5,25,26,27,36,37,38,52,53,54,55]),(13,[0,3,4,5,8,9,25,26,27,36,37,38,52,53,54]),(14,[0,3,4,5,25,26,27,36,37,38,52,53,54,69]),(15,[2]),(16,[0,3,4,5,25,26,27,36,37,38,52,53,54]),(17,[0,3,4,5,25,26,27,36,37,38]),(18,[0,3,4,5,25,26,27,75,76,77]),(19,[0,3,4,5,25,26,27,75,76,77,78]),(20,[0,3,4,5,10,11,25,26,27,75,76,77]),(21,[0,3,4,5,25,26,27,75,76,77,90]),(22,[2]),(23,[0,3,4,5,25,26,27,75,76,77]),(24,[0,5,25,26,27,101]),(25,[2]),(26,[0,25,26,27]),(27,[2])]
 |66=>[(0,[1]),(1,[1,3]),(2,[3,7,8,9]),(3,[3,7,8,9,10]),(4,[3,5,7,8,9]),(5,[3,7,8,9]),(6,[3,7,8,9]),(7,[2])]
 |71=>[(0,[0,1,2,3]),(1,[0,1,2,3,11]),(2,[0,1,2,3]),(3,[0,1,2,3]),(4,[1,2,3,16]),(5,[1,2,3,16,17]),(6,[8,9]),(7,[1,2,3,16,22]),(8,[8,9]),(9,[1,2,3,16,27]),(10,[8,9]),(11,[1,2,3,16,33]),(12,[8,9]),(13,[1,2,3,16,39]),(14,[8,9]),(15,[1,2,3,16,46]),(16,[8,9]),(17,[1,2,3,16,52]),(18,[8,9]),(19,[1,2,3,16,59]),(20,[8,9]),(21,[1,2,3,16,65]),(22,[8,9]),(23,[1,2,3,16,72]),(24,[8,9]),(25,[1,2,3,78]),(26,[8,9]),(27,[8,9])]
 |72=>[(0,[0]),(1,[2])]
 |73=>[(0,[0,1,2,3]),(1,[0,1,2,3,23]),(2,[8]),(3,[]),(4,[8])]
 |74=>[(0,[1]),(1,[1,3]),(2,[1,3,17]),(3,[1,3,17,18]),(4,[1,3,17,18]),(5,[1,3,17,18]),(6,[2]),(7,[1,3,17,22]),(8,[5]),(9,[2]),(10,[1,3,17,31]),(11,[2]),(12,[1,3,17,39]),(13,[2]),(14,[1,52]),(15,[1,56]),(16,[2]),(17,[1,6,7]),(18,[2]),(19,[2])]
 |75=>[(0,[0,1]),(1,[0,1,5]),(2,[0,1,5,19]),(3,[4]),(4,[0,1,5,6]),(5,[0,1,5,6,24]),(6,[0,1,5,6,7]),(7,[0,1,5,6,7]),(8,[0,1,5,6,7,39]),(9,[0,1,5,6,7]),(10,[0,1,5,6,7,8]),(11,[0,1,5,6,7,8,49]),(12,[0,1,5,6,7,8]),(13,[0,1,5,6,7,8,9]),(14,[0,1,5,6,7,8,9,71]),(15,[0,1,5,6,7,8]),(16,[4])]
 |76=>[(0,[0,1,2,3]),(1,[0,1,2,3,9]),(2,[0,1,2,3,9,13]),(3,[0,1,2,3,9]),(4,[0,1,2,3,9,24]),(5,[8]),(6,[8])]
 |79=>[(0,[1]),(1,[1,4]),(2,[1,4,5]),(3,[1,4,5]),(4,[2]),(5,[1,4,13]),(6,[2]),(7,[1,18]),(8,[2]),(9,[2])]
 |84=>[(0,[0]),(1,[0,3]),(2,[3,10,11,12]),(3,[3,10,11,12,13]),(4,[3,5,10,11,12]),(5,[3,10,11,12]),(6,[3,10,11,12]),(7,[2])]
 |85=>[(0,[0,1]),(1,[4])]
 |86=>[(0,[0,1,2,3]),(1,[0,1,2,3]),(2,[0,1,2,10]),(3,[1,2,10,22]),(4,[1,2,10,22,23]),(5,[8,9]),(6,[1,2,10,22,27]),(7,[8,9]),(8,[1,2,10,22,31]),(9,[8,9]),(10,[10,22,37]),(11,[10,22,37]),(12,[8,9]),(13,[10,22,42]),(14,[10,22,42]),(15,[8,9]),(16,[10,22,47]),(17,[10,22,47]),(18,[8,9]),(19,[10,22,52]),(20,[10,52]),(21,[8,9]),(22,[8,9])]
 |87=>[(0,[1]),(1,[1,4]),(2,[1,4,5]),(3,[2]),(4,[1,10]),(5,[2]),(6,[2])]
 |88=>[(0,[0,1]),(1,[0,1,10]),(2,[4]),(3,[0,1,12,13]),(4,[0,1,12,13,14]),(5,[0,1,5,12,13]),(6,[0,1,12,13,24]),(7,[4]),(8,[0,1,12,13]),(9,[4])]
 |89=>[(0,[0,1,5]),(1,[0,1,5,28]),(2,[6]),(3,[]),(4,[6])]
 |90=>[(0,[1]),(1,[1,8]),(2,[1,8,9]),(3,[1,8,9]),(4,[1,8,9]),(5,[2]),(6,[1,8,13]),(7,[4]),(8,[2]),(9,[1,8,22]),(10,[1,8,22]),(11,[2]),(12,[1,48]),(13,[1,5,6]),(14,[2]),(15,[2])]
 |91=>[(0,[0]),(1,[0,3]),(2,[0,3,4]),(3,[0,3,4,5]),(4,[0,3,4,5,26,27]),(5,[0,3,4,5,26,27,28]),(6,[0,3,4,5,6,26,27]),(7,[0,3,4,5,26,27]),(8,[0,3,4,5,26,27]),(9,[0,3,4,5,34,35,36]),(10,[0,3,4,5,34,35,36,37]),(11,[0,3,4,5,7,8,34,35,36]),(12,[0,3,4,5,34,35,36]),(13,[0,3,4,5,34,35,36]),(14,[3,4,5,9]),(15,[3,5,9,10]),(16,[3,5,9,10,11]),(17,[3,5,9,10,49]),(18,[3,5,9,10,11]),(19,[3,5,9,10,11,50,51,52]),(20,[3,5,9,10,11,50,51,52,53]),(21,[3,5,9,10,11,12,13,50,51,52]),(22,[3,5,9,10,11,13,50,51,52,58]),(23,[3,5,9,10,11,13,14,50,51,52]),(24,[3,5,9,10,11,13,14,50,51,52,61,62,63]),(25,[3,5,9,10,11,13,14,50,51,52,61,62,63,64]),(26,[3,5,9,10,11,13,14,16,50,51,52,61,62,63]),(27,[3,5,9,10,11,13,14,16,50,51,52,61,62,63,78]),(28,[3,5,9,10,11,13,14,16,50,51,52,61,62,63,80]),(29,[3,5,9,10,11,13,14,50,51,52,61,62,63]),(30,[3,5,9,10,11,13,14,50,51,52,61,62,63]),(31,[3,5,9,10,11,13,14,50,51,52,61,62,63]),(32,[3,5,9,10,11,13,14,50,51,52]),(33,[3,5,9,10,11,50,51,52]),(34,[3,5,9,10,11,50,51,52]),(35,[2])]
 |92=>[(0,[0,2,4]),(1,[0,4,11,12,13]),(2,[0,4,11,12,13,14]),(3,[0,4,8,11,12,13]),(4,[0,4,8,11,12,13,38]),(5,[6]),(6,[0,4,9,11,12,13]),(7,[0,4,9,10,11,12,13]),(8,[0,4,9,10,11,12,13,51]),(9,[0,4,11,12,13,56]),(10,[6]),(11,[0,4,9,10,11,12,13,64]),(12,[0,4,9,10,11,12,13]),(13,[0,4,11,12,13,73]),(14,[6]),(15,[0,4,11,12,13]),(16,[6])]
 |93=>[(0,[1]),(1,[1,4]),(2,[1,4,5]),(3,[2]),(4,[1,10]),(5,[2]),(6,[2])]
 |101=>[(0,[0,1,2,3]),(1,[0,1,2,3,10]),(2,[0,1,2,3,10,13]),(3,[0,1,2,3,10]),(4,[0,1,2,3,10]),(5,[0,1,2,3,10]),(6,[0,1,2,3,10,11]),(7,[0,1,2,3,10,11,18]),(8,[8,9]),(9,[0,1,2,3,10,11,18,19]),(10,[3,11]),(11,[0,1,2,3,10,11,18,24]),(12,[3,11]),(13,[0,1,2,3,10,11,18,29]),(14,[3,11]),(15,[0,1,2,3,10,11,18,34]),(16,[1,2,3,11,37]),(17,[3,11]),(18,[0,1,2,3,10,18,41]),(19,[1,2,3,11]),(20,[1,2,3,11,45]),(21,[3,11]),(22,[0,1,2,3,10,18,49]),(23,[3,11]),(24,[0,1,2,3,10,18,54]),(25,[3,11]),(26,[0,1,2,3,10,18,59]),(27,[3,11]),(28,[0,1,2,3,10,18,64]),(29,[0,1,2,3,10,18,64]),(30,[0,1,2,3,10,18,64]),(31,[3,11]),(32,[1,2,3,18,76]),(33,[3,11]),(34,[2,3,80]),(35,[3,11]),(36,[11,84]),(37,[11]),(38,[8,9])]
 |102=>[(0,[0]),(1,[2])]
 |103=>[(0,[0,2]),(1,[2,4]),(2,[2,4,5]),(3,[2,3]),(4,[2,4,8]),(5,[2,3]),(6,[2,4,12]),(7,[2,3]),(8,[2,4,16]),(9,[2,3]),(10,[2,20]),(11,[2,3]),(12,[2,3])]
 |104=>[(0,[0,1,2,3]),(1,[0,1,2,3,31]),(2,[8]),(3,[0,2,3,9]),(4,[0,2,3,9,42]),(5,[8]),(6,[8])]
 |106=>[(0,[0]),(1,[0,4]),(2,[2]),(3,[2])]
 |112=>[(0,[1]),(1,[1,8]),(2,[2]),(3,[1,3]),(4,[1,3,4]),(5,[1,3,4,5]),(6,[4,5]),(7,[4]),(8,[4]),(9,[2])]
 |113=>[(0,[0,1]),(1,[0,1,7,8]),(2,[0,1,7,8,9]),(3,[0,1,5,7,8]),(4,[0,1,5,7,8,16]),(5,[4]),(6,[0,1,7,8]),(7,[4])]
 |115=>[(0,[0,1,2,3]),(1,[1,2,3,9]),(2,[1,2,3,9,10]),(3,[1,2,3,9,12]),(4,[1,2,3,9,14]),(5,[1,2,3,16]),(6,[1,2,19]),(7,[8]),(8,[8]),(9,[8])]
 |116=>[(0,[0,1,2,3]),(1,[0,1,2,3]),(2,[0,1,2,3,18]),(3,[0,1,2,3,18,19]),(4,[1,2,22]),(5,[8,9]),(6,[8,9]),(7,[0,1,2,3,18,26]),(8,[1,2,29]),(9,[8,9]),(10,[8,9]),(11,[0,1,2,3,18,34]),(12,[0,1,2,3,18,34]),(13,[0,1,2,3,34]),(14,[8,9]),(15,[3,10,11]),(16,[8,9])]
 |117=>[(0,[0]),(1,[2])]
 |118=>[(0,[0,2]),(1,[2,4,5]),(2,[2,3])]
 |119=>[(0,[0,1]),(1,[0,1,5]),(2,[0,5,11,12,13]),(3,[0,5,11,12,13,14]),(4,[0,5,7,11,12,13]),(5,[0,5,7,11,12,13,19,20,21]),(6,[0,5,7,11,12,13,19,20,21,22]),(7,[0,5,7,9,11,12,13,19,20,21]),(8,[0,5,7,9,11,12,13,19,20,21,30]),(9,[0,5,7,11,12,13,19,20,21]),(10,[0,5,7,11,12,13,19,20,21]),(11,[0,5,11,12,13]),(12,[4])]
 |120=>[(0,[0,1,2,3]),(1,[0,1,2,3,9]),(2,[0,1,2,3,16]),(3,[0,1,2,3]),(4,[0,1,2,3,27]),(5,[0,1,2,3]),(6,[6])]
 |134=>[(0,[0,1,2,3,4,10]),(1,[0,2,3,4]),(2,[0,3,4,15,16,17]),(3,[0,3,4,15,16,17,18]),(4,[0,3,4,7,15,16,17]),(5,[0,3,4,15,16,17]),(6,[0,3,4,15,16,17]),(7,[])]
 |135=>[(0,[0,1]),(1,[0,1,5]),(2,[0,5,11,12,13]),(3,[0,5,11,12,13,14]),(4,[0,5,7,11,12,13]),(5,[0,5,7,11,12,13,24]),(6,[0,5,11,12,13]),(7,[0,5,11,12,13]),(8,[4])]
 |136=>[(0,[0,2,3]),(1,[0,2,3,9]),(2,[0,2,3]),(3,[0,2,3])]
 |140=>[(0,[0,1,2]),(1,[1,2,8]),(2,[1,2,8,9]),(3,[6,7]),(4,[1,2,8,14]),(5,[6,7]),(6,[1,2,8,19]),(7,[6,7]),(8,[1,2,8,24]),(9,[6,7]),(10,[1,2,8,29]),(11,[6,7]),(12,[1,2,8,34]),(13,[6,7]),(14,[1,2,8,39]),(15,[6,7]),(16,[2,43]),(17,[6,7]),(18,[6,7])]
 |_=>[]
def globs:FuncId→List Tmp
 |7=>[29]
 |16=>[47]
 |25=>[15]
 |36=>[29]
 |48=>[11]
 |55=>[12]
 |60=>[20,66,85,95,143]
 |61=>[16,62,94]
 |62=>[34]
 |91=>[21,4,24,5]
 |112=>[1,9,3,4,5]
 |119=>[10,38]
 |134=>[28]
 |141=>[2]
 |_=>[]
def impure:FuncId→Bool
 |25=>true
 |28=>true
 |48=>true
 |50=>true
 |55=>true
 |56=>true
 |60=>true
 |61=>true
 |62=>true
 |63=>true
 |73=>true
 |76=>true
 |85=>true
 |88=>true
 |89=>true
 |91=>true
 |92=>true
 |104=>true
 |112=>true
 |113=>true
 |119=>true
 |120=>true
 |134=>true
 |136=>true
 |141=>true
 |_=>false
def nds:FuncId→List Nat
 |5=>[5]
 |16=>[9]
 |55=>[15]
 |_=>[]
def An:Ann:={ glob:=globs,pure:=λf=>!(impure f),keep:=λf r=>((kept f).find? λx=>x.1==r).map (·.2),nd:=λf r=>(nds f).contains r }
abbrev rg:=rgo Try.prog An
abbrev Rg (F:aW) (k:Nat) (l:List Tmp) (c:List SO) (L:List (Nat×CV)) (m:Mem) (Q:CE→TS→Prop):=Tx Try.prog An F k (.reg false (some l) c) ⟨L,m⟩ Q
abbrev Rt (F:aW) (k:Nat) (l:List Tmp) (c:List SO) (L:List (Nat×CV)) (m:Mem) (Q:CE→TS→Prop):=Tx Try.prog An F k (.reg true (some l) c) ⟨L,m⟩ Q
theorem Ee:cm Try.prog=true:=by kernel_rfl
theorem mg:Try.prog.follows .mixedOrders=true:=by kernel_rfl
abbrev R87:=rg 87 Try.f87
def c87:SC:=
 (.seq (.reg false (some [1]) (R87 0)) (.seq (.seq (.reg false (some [1,4]) (R87 1)) (.block 0 (.seq (.reg false (some [1,4,5]) (R87 2)) (.cond (.tmp 5) (.seq (.reg false (some [2]) (R87 3)) .ret) (.seq (.reg false (some [1,10]) (R87 4)) (.cond (.tmp 10) (.seq (.reg false (some [2]) (R87 5)) .ret) .nop)))))) (.seq (.reg false (some [2]) (R87 6)) .ret)))
theorem s87:Try.f87.body.bind (bh Try.prog An 87 Try.f87.ntmps)=some c87:=by kernel_rfl
theorem g87:An.glob 87=[]:=rfl
theorem r87:Try.f87.results.toList=[(.tmp 2)]:=by kernel_rfl
theorem t87r0 (h:Obt (ap (ac L 0)) λa0=>Q .normal ⟨[(1,(bo m 16))],(bw m 16 a0)⟩):Rg F 87 [1] (R87 0) L m Q:=Tq h
theorem t87r1 (h:Obt (aA 0 (ac L 1)) λa0=>Obt (ld1 m a0) λa1=>Q .normal ⟨tk L [1] [(4,a1)],m⟩):Rg F 87 [1,4] (R87 1) L m Q:=Tq h
theorem t87r2 (h:Obt (aw Try.prog .eql 54 (.tmp 4) (.const (.int .i64 1)) (ac L 4) (.int .i64 1)) λa0=>Q .normal ⟨tk L [1,4] [(5,a0)],m⟩):Rg F 87 [1,4,5] (R87 2) L m Q:=Tq h
theorem t87r3 (h:Obt (aA 5 (ac L 1)) λa0=>Obt (ld1 m a0) λa1=>Obt (be false 144 1 1 [.int .i64 0] [(0,1,a1)] m) λa2=>Q .normal ⟨[(2,a2.1)],a2.2⟩):Rg F 87 [2] (R87 3) L m Q:=Tq h
theorem t87r4 (h:Obt (aw Try.prog .eql 54 (.tmp 4) (.const (.int .i64 2)) (ac L 4) (.int .i64 2)) λa0=>Q .normal ⟨tk L [1] [(10,a0)],m⟩):Rg F 87 [1,10] (R87 4) L m Q:=Tq h
theorem t87r5 (h:Obt (aA 5 (ac L 1)) λa0=>Obt (ld1 m a0) λa1=>Obt (aA 6 (ac L 1)) λa2=>Obt (ld1 m a2) λa3=>Obt (be false 256 1 2 [.int .i64 0,.int .i64 0] [(0,1,a1),(1,1,a3)] m) λa4=>Q .normal ⟨[(2,a4.1)],a4.2⟩):Rg F 87 [2] (R87 5) L m Q:=Tq h
theorem t87r6 (h:Q .normal ⟨[(2,.nil)],m⟩):Rg F 87 [2] (R87 6) L m Q:=Tq h
abbrev R66:=rg 66 Try.f66
def c66l0:SC:=
 (.seq (.reg false (some [3,7,8,9,10]) (R66 3)) (.seq (.cond (.tmp 10) .nop (.exit 0)) (.seq (.block 1 (.seq (.reg false (some [3,5,7,8,9]) (R66 4)) (.reg false (some [3,7,8,9]) (R66 5)))) (.reg false (some [3,7,8,9]) (R66 6)))))
def c66:SC:=
 (.seq (.reg false (some [1]) (R66 0)) (.seq (.reg false (some [1,3]) (R66 1)) (.seq (.seq (.reg false (some [3,7,8,9]) (R66 2)) (.block 0 (.loop c66l0))) (.seq (.reg false (some [2]) (R66 7)) .ret))))
theorem s66:Try.f66.body.bind (bh Try.prog An 66 Try.f66.ntmps)=some c66:=by kernel_rfl
theorem g66:An.glob 66=[]:=rfl
theorem r66:Try.f66.results.toList=[(.tmp 2)]:=by kernel_rfl
theorem t66r0 (h:Obt (ap (ac L 0)) λa0=>Q .normal ⟨[(1,(bo m 16))],(bw m 16 a0)⟩):Rg F 66 [1] (R66 0) L m Q:=Tq h
theorem t66r1 (h:Q .normal ⟨tk L [1] [(3,.nil)],m⟩):Rg F 66 [1,3] (R66 1) L m Q:=Tq h
theorem t66r2 (h:Obt (aA 0 (ac L 1)) λa0=>Obt (ld1 m a0) λa1=>Obt (lenS a1) λa2=>Q .normal ⟨tk L [3] [(7,a1),(8,a2),(9,(.int .i64 0))],m⟩):Rg F 66 [3,7,8,9] (R66 2) L m Q:=Tq h
theorem t66r3 (h:Obt (aw Try.prog .lss 3 (.tmp 9) (.tmp 8) (ac L 9) (ac L 8)) λa0=>Q .normal ⟨tk L [3,7,8,9] [(10,a0)],m⟩):Rg F 66 [3,7,8,9,10] (R66 3) L m Q:=Tq h
theorem t66r4 (h:Obt (bd 10 (ac L 7) (ac L 9)) λa0=>Obt (ldA 10 m a0) λa1=>Obt (stX 10 (bw m 80 [.nil,.nil,.nil,.int .i64 0,.int .i64 0,.bool false,.int .i64 0,.int .i64 0,.int .i64 0,.int .i64 0]) (bo m 80) a1) λa2=>Q .normal ⟨tk L [3] ((5,(bo m 80))::tk L [7,8,9] []),a2⟩):Rg F 66 [3,5,7,8,9] (R66 4) L m Q:=Tq h
theorem t66r5 (h:Obt (aA 3 (ac L 5)) λa0=>Obt (ldA 7 m a0) λa1=>Obt (aB An F 66 (some 16) 87 [a1] m) λa2=>Obt (be false 272 1 1 [.nil] [(0,1,a2.1)] a2.2) λa3=>Obt (ej false 288 1 24 (ac L 3) a3.1 a3.2) λa4=>Q .normal ⟨(3,a4.1)::tk L [7,8,9] [],a4.2⟩):Rg F 66 [3,7,8,9] (R66 5) L m Q:=Tq h
theorem t66r6 (h:Obt (aw Try.prog .add 3 (.tmp 9) (.const (.int .i64 1)) (ac L 9) (.int .i64 1)) λa0=>Q .normal ⟨tk L [3,7,8] [(9,a0)],m⟩):Rg F 66 [3,7,8,9] (R66 6) L m Q:=Tq h
theorem t66r7 (h:Q .normal ⟨[(2,(ac L 3))],m⟩):Rg F 66 [2] (R66 7) L m Q:=Tq h
abbrev R79:=rg 79 Try.f79
def c79:SC:=
 (.seq (.reg false (some [1]) (R79 0)) (.seq (.seq (.reg false (some [1,4]) (R79 1)) (.block 0 (.seq (.seq (.reg false (some [1,4,5]) (R79 2)) (.cond (.tmp 5) .nop (.reg false (some [1,4,5]) (R79 3)))) (.cond (.tmp 5) (.seq (.reg false (some [2]) (R79 4)) .ret) (.seq (.reg false (some [1,4,13]) (R79 5)) (.cond (.tmp 13) (.seq (.reg false (some [2]) (R79 6)) .ret) (.seq (.reg false (some [1,18]) (R79 7)) (.cond (.tmp 18) (.seq (.reg false (some [2]) (R79 8)) .ret) .nop)))))))) (.seq (.reg false (some [2]) (R79 9)) .ret)))
theorem s79:Try.f79.body.bind (bh Try.prog An 79 Try.f79.ntmps)=some c79:=by kernel_rfl
theorem g79:An.glob 79=[]:=rfl
theorem r79:Try.f79.results.toList=[(.tmp 2)]:=by kernel_rfl
theorem qc (h:Obt (ap (ac L 0)) λa0=>Q .normal ⟨[(1,(bo m 16))],(bw m 16 a0)⟩):Rg F 79 [1] (R79 0) L m Q:=Tq h
theorem qd (h:Obt (aA 0 (ac L 1)) λa0=>Obt (ld1 m a0) λa1=>Q .normal ⟨tk L [1] [(4,a1)],m⟩):Rg F 79 [1,4] (R79 1) L m Q:=Tq h
theorem qe (h:Obt (aw Try.prog .eql 64 (.tmp 4) (.const (.int .i64 4)) (ac L 4) (.int .i64 4)) λa0=>Q .normal ⟨tk L [1,4] [(5,a0)],m⟩):Rg F 79 [1,4,5] (R79 2) L m Q:=Tq h
theorem te (h:Obt (aw Try.prog .eql 64 (.tmp 4) (.const (.int .i64 6)) (ac L 4) (.int .i64 6)) λa0=>Q .normal ⟨tk L [1,4] [(5,a0)],m⟩):Rg F 79 [1,4,5] (R79 3) L m Q:=Tq h
theorem t79r4 (h:Obt (aA 4 (ac L 1)) λa0=>Obt (ld1 m a0) λa1=>Obt (aA 5 (ac L 1)) λa2=>Obt (ld1 m a2) λa3=>Obt (be false 192 1 2 [.int .i64 0,.int .i64 0] [(0,1,a1),(1,1,a3)] m) λa4=>Q .normal ⟨[(2,a4.1)],a4.2⟩):Rg F 79 [2] (R79 4) L m Q:=Tq h
theorem wF (h:Obt (aw Try.prog .eql 64 (.tmp 4) (.const (.int .i64 5)) (ac L 4) (.int .i64 5)) λa0=>Q .normal ⟨tk L [1,4] [(13,a0)],m⟩):Rg F 79 [1,4,13] (R79 5) L m Q:=Tq h
theorem t79r6 (h:Obt (aA 4 (ac L 1)) λa0=>Obt (ld1 m a0) λa1=>Obt (be false 272 1 1 [.int .i64 0] [(0,1,a1)] m) λa2=>Q .normal ⟨[(2,a2.1)],a2.2⟩):Rg F 79 [2] (R79 6) L m Q:=Tq h
theorem FD (h:Obt (aw Try.prog .eql 64 (.tmp 4) (.const (.int .i64 7)) (ac L 4) (.int .i64 7)) λa0=>Q .normal ⟨tk L [1] [(18,a0)],m⟩):Rg F 79 [1,18] (R79 7) L m Q:=Tq h
theorem t79r8 (h:Obt (aA 10 (ac L 1)) λa0=>Obt (ld1 m a0) λa1=>Obt (aB An F 79 (some 22) 106 [a1] m) λa2=>Q .normal ⟨[(2,a2.1)],a2.2⟩):Rg F 79 [2] (R79 8) L m Q:=Tq h
theorem t79r9 (h:Q .normal ⟨[(2,.nil)],m⟩):Rg F 79 [2] (R79 9) L m Q:=Tq h
abbrev R93:=rg 93 Try.f93
def c93:SC:=
 (.seq (.reg false (some [1]) (R93 0)) (.seq (.seq (.reg false (some [1,4]) (R93 1)) (.block 0 (.seq (.reg false (some [1,4,5]) (R93 2)) (.cond (.tmp 5) (.seq (.reg false (some [2]) (R93 3)) .ret) (.seq (.reg false (some [1,10]) (R93 4)) (.cond (.tmp 10) (.seq (.reg false (some [2]) (R93 5)) .ret) .nop)))))) (.seq (.reg false (some [2]) (R93 6)) .ret)))
theorem s93:Try.f93.body.bind (bh Try.prog An 93 Try.f93.ntmps)=some c93:=by kernel_rfl
theorem g93:An.glob 93=[]:=rfl
theorem r93:Try.f93.results.toList=[(.tmp 2)]:=by kernel_rfl
theorem t93r0 (h:Obt (ap (ac L 0)) λa0=>Q .normal ⟨[(1,(bo m 16))],(bw m 16 a0)⟩):Rg F 93 [1] (R93 0) L m Q:=Tq h
theorem t93r1 (h:Obt (aA 0 (ac L 1)) λa0=>Obt (ld1 m a0) λa1=>Q .normal ⟨tk L [1] [(4,a1)],m⟩):Rg F 93 [1,4] (R93 1) L m Q:=Tq h
theorem t93r2 (h:Obt (aw Try.prog .eql 54 (.tmp 4) (.const (.int .i64 3)) (ac L 4) (.int .i64 3)) λa0=>Q .normal ⟨tk L [1,4] [(5,a0)],m⟩):Rg F 93 [1,4,5] (R93 2) L m Q:=Tq h
theorem t93r3 (h:Obt (aA 3 (ac L 1)) λa0=>Obt (ld1 m a0) λa1=>Obt (be false 144 1 1 [.int .i64 0] [(0,1,a1)] m) λa2=>Q .normal ⟨[(2,a2.1)],a2.2⟩):Rg F 93 [2] (R93 3) L m Q:=Tq h
theorem t93r4 (h:Obt (aw Try.prog .eql 54 (.tmp 4) (.const (.int .i64 2)) (ac L 4) (.int .i64 2)) λa0=>Q .normal ⟨tk L [1] [(10,a0)],m⟩):Rg F 93 [1,10] (R93 4) L m Q:=Tq h
theorem t93r5 (h:Obt (aA 3 (ac L 1)) λa0=>Obt (ld1 m a0) λa1=>Obt (aA 4 (ac L 1)) λa2=>Obt (ld1 m a2) λa3=>Obt (be false 256 1 2 [.int .i64 0,.int .i64 0] [(0,1,a1),(1,1,a3)] m) λa4=>Q .normal ⟨[(2,a4.1)],a4.2⟩):Rg F 93 [2] (R93 5) L m Q:=Tq h
theorem t93r6 (h:Q .normal ⟨[(2,.nil)],m⟩):Rg F 93 [2] (R93 6) L m Q:=Tq h
abbrev Ju:=rg 140 Try.f140
def c140:SC:=
 (.seq (.reg false (some [0,1,2]) (Ju 0)) (.seq (.seq (.reg false (some [1,2,8]) (Ju 1)) (.block 0 (.seq (.reg false (some [1,2,8,9]) (Ju 2)) (.cond (.tmp 9) (.seq (.reg false (some [6,7]) (Ju 3)) .ret) (.seq (.reg false (some [1,2,8,14]) (Ju 4)) (.cond (.tmp 14) (.seq (.reg false (some [6,7]) (Ju 5)) .ret) (.seq (.reg false (some [1,2,8,19]) (Ju 6)) (.cond (.tmp 19) (.seq (.reg false (some [6,7]) (Ju 7)) .ret) (.seq (.reg false (some [1,2,8,24]) (Ju 8)) (.cond (.tmp 24) (.seq (.reg false (some [6,7]) (Ju 9)) .ret) (.seq (.reg false (some [1,2,8,29]) (Ju 10)) (.cond (.tmp 29) (.seq (.reg false (some [6,7]) (Ju 11)) .ret) (.seq (.reg false (some [1,2,8,34]) (Ju 12)) (.cond (.tmp 34) (.seq (.reg false (some [6,7]) (Ju 13)) .ret) (.seq (.reg false (some [1,2,8,39]) (Ju 14)) (.cond (.tmp 39) (.seq (.reg false (some [6,7]) (Ju 15)) .ret) (.seq (.reg false (some [2,43]) (Ju 16)) (.cond (.tmp 43) (.seq (.reg false (some [6,7]) (Ju 17)) .ret) .nop)))))))))))))))))) (.seq (.reg false (some [6,7]) (Ju 18)) .ret)))
theorem s140:Try.f140.body.bind (bh Try.prog An 140 Try.f140.ntmps)=some c140:=by kernel_rfl
theorem g140:An.glob 140=[]:=rfl
theorem r140:Try.f140.results.toList=[(.tmp 6),(.tmp 7)]:=by kernel_rfl
theorem t140r0 (h:Q .normal ⟨tk L [0,1,2] [],m⟩):Rg F 140 [0,1,2] (Ju 0) L m Q:=Tq h
theorem t140r1 (h:Q .normal ⟨tk L [1,2] [(8,(ac L 0))],m⟩):Rg F 140 [1,2,8] (Ju 1) L m Q:=Tq h
theorem t140r2 (h:Obt (aw Try.prog .eql 3 (.tmp 8) (.const (.int .i64 0)) (ac L 8) (.int .i64 0)) λa0=>Q .normal ⟨tk L [1,2,8] [(9,a0)],m⟩):Rg F 140 [1,2,8,9] (Ju 2) L m Q:=Tq h
theorem t140r4 (h:Obt (aw Try.prog .eql 3 (.tmp 8) (.const (.int .i64 16)) (ac L 8) (.int .i64 16)) λa0=>Q .normal ⟨tk L [1,2,8] [(14,a0)],m⟩):Rg F 140 [1,2,8,14] (Ju 4) L m Q:=Tq h
theorem t140r6 (h:Obt (aw Try.prog .eql 3 (.tmp 8) (.const (.int .i64 32)) (ac L 8) (.int .i64 32)) λa0=>Q .normal ⟨tk L [1,2,8] [(19,a0)],m⟩):Rg F 140 [1,2,8,19] (Ju 6) L m Q:=Tq h
theorem t140r8 (h:Obt (aw Try.prog .eql 3 (.tmp 8) (.const (.int .i64 64)) (ac L 8) (.int .i64 64)) λa0=>Q .normal ⟨tk L [1,2,8] [(24,a0)],m⟩):Rg F 140 [1,2,8,24] (Ju 8) L m Q:=Tq h
theorem t140r10 (h:Obt (aw Try.prog .eql 3 (.tmp 8) (.const (.int .i64 80)) (ac L 8) (.int .i64 80)) λa0=>Q .normal ⟨tk L [1,2,8] [(29,a0)],m⟩):Rg F 140 [1,2,8,29] (Ju 10) L m Q:=Tq h
theorem t140r12 (h:Obt (aw Try.prog .eql 3 (.tmp 8) (.const (.int .i64 160)) (ac L 8) (.int .i64 160)) λa0=>Q .normal ⟨tk L [1,2,8] [(34,a0)],m⟩):Rg F 140 [1,2,8,34] (Ju 12) L m Q:=Tq h
theorem t140r14 (h:Obt (aw Try.prog .eql 3 (.tmp 8) (.const (.int .i64 128)) (ac L 8) (.int .i64 128)) λa0=>Q .normal ⟨tk L [1,2,8] [(39,a0)],m⟩):Rg F 140 [1,2,8,39] (Ju 14) L m Q:=Tq h
theorem t140r16 (h:Obt (aw Try.prog .eql 3 (.tmp 8) (.const (.int .i64 176)) (ac L 8) (.int .i64 176)) λa0=>Q .normal ⟨tk L [2] [(43,a0)],m⟩):Rg F 140 [2,43] (Ju 16) L m Q:=Tq h
theorem t140r18 (h:Q .normal ⟨[(6,(.int .u64 0)),(7,(.bool false))],m⟩):Rg F 140 [6,7] (Ju 18) L m Q:=Tq h
abbrev JB:=rg 115 Try.f115
def c115:SC:=
 (.seq (.reg false (some [0,1,2,3]) (JB 0)) (.seq (.seq (.reg false (some [1,2,3,9]) (JB 1)) (.block 0 (.seq (.block 4 (.block 3 (.block 2 (.block 1 (.seq (.seq (.seq (.reg false (some [1,2,3,9,10]) (JB 2)) (.cond (.tmp 10) (.exit 1) .nop)) (.seq (.seq (.reg false (some [1,2,3,9,12]) (JB 3)) (.cond (.tmp 12) (.exit 2) .nop)) (.seq (.seq (.reg false (some [1,2,3,9,14]) (JB 4)) (.cond (.tmp 14) (.exit 3) .nop)) (.seq (.reg false (some [1,2,3,16]) (JB 5)) (.cond (.tmp 16) (.exit 4) .nop))))) (.exit 0)))))) (.seq (.seq (.seq (.reg false (some [1,2,19]) (JB 6)) (.cond (.tmp 19) (.seq (.reg false (some [8]) (JB 7)) .ret) .nop)) (.seq (.reg false (some [8]) (JB 8)) .ret)) (.exit 0))))) (.seq (.reg false (some [8]) (JB 9)) .ret)))
theorem s115:Try.f115.body.bind (bh Try.prog An 115 Try.f115.ntmps)=some c115:=by kernel_rfl
theorem g115:An.glob 115=[]:=rfl
theorem r115:Try.f115.results.toList=[(.tmp 8)]:=by kernel_rfl
theorem t115r0 (h:Q .normal ⟨tk L [0,1,2,3] [],m⟩):Rg F 115 [0,1,2,3] (JB 0) L m Q:=Tq h
theorem t115r1 (h:Q .normal ⟨tk L [1,2,3] [(9,(ac L 0))],m⟩):Rg F 115 [1,2,3,9] (JB 1) L m Q:=Tq h
theorem t115r2 (h:Obt (aw Try.prog .eql 3 (.tmp 9) (.const (.int .i64 96)) (ac L 9) (.int .i64 96)) λa0=>Q .normal ⟨tk L [1,2,3,9] [(10,a0)],m⟩):Rg F 115 [1,2,3,9,10] (JB 2) L m Q:=Tq h
theorem t115r3 (h:Obt (aw Try.prog .eql 3 (.tmp 9) (.const (.int .i64 112)) (ac L 9) (.int .i64 112)) λa0=>Q .normal ⟨tk L [1,2,3,9] [(12,a0)],m⟩):Rg F 115 [1,2,3,9,12] (JB 3) L m Q:=Tq h
theorem t115r4 (h:Obt (aw Try.prog .eql 3 (.tmp 9) (.const (.int .i64 192)) (ac L 9) (.int .i64 192)) λa0=>Q .normal ⟨tk L [1,2,3,9] [(14,a0)],m⟩):Rg F 115 [1,2,3,9,14] (JB 4) L m Q:=Tq h
theorem t115r5 (h:Obt (aw Try.prog .eql 3 (.tmp 9) (.const (.int .i64 208)) (ac L 9) (.int .i64 208)) λa0=>Q .normal ⟨tk L [1,2,3] [(16,a0)],m⟩):Rg F 115 [1,2,3,16] (JB 5) L m Q:=Tq h
theorem t115r9 (h:Obt (aB An F 115 (some 36) 138 [(ac L 1),(ac L 2)] m) λa0=>Q .normal ⟨[(8,a0.1)],a0.2⟩):Rg F 115 [8] (JB 9) L m Q:=Tq h
abbrev Jv:=rg 116 Try.f116
def c116:SC:=
 (.seq (.reg false (some [0,1,2,3]) (Jv 0)) (.seq (.reg false (some [0,1,2,3]) (Jv 1)) (.seq (.seq (.reg false (some [0,1,2,3,18]) (Jv 2)) (.block 0 (.seq (.reg false (some [0,1,2,3,18,19]) (Jv 3)) (.cond (.tmp 19) (.seq (.seq (.reg false (some [1,2,22]) (Jv 4)) (.cond (.tmp 22) (.seq (.reg false (some [8,9]) (Jv 5)) .ret) .nop)) (.seq (.reg false (some [8,9]) (Jv 6)) .ret)) (.seq (.reg false (some [0,1,2,3,18,26]) (Jv 7)) (.cond (.tmp 26) (.seq (.seq (.reg false (some [1,2,29]) (Jv 8)) (.cond (.tmp 29) (.seq (.reg false (some [8,9]) (Jv 9)) .ret) .nop)) (.seq (.reg false (some [8,9]) (Jv 10)) .ret)) (.seq (.seq (.reg false (some [0,1,2,3,18,34]) (Jv 11)) (.cond (.tmp 34) .nop (.seq (.reg false (some [0,1,2,3,18,34]) (Jv 12)) (.cond (.tmp 34) .nop (.reg false (some [0,1,2,3,34]) (Jv 13)))))) (.cond (.tmp 34) (.seq (.reg false (some [8,9]) (Jv 14)) .ret) .nop)))))))) (.seq (.reg false (some [3,10,11]) (Jv 15)) (.seq (.reg false (some [8,9]) (Jv 16)) .ret)))))
theorem s116:Try.f116.body.bind (bh Try.prog An 116 Try.f116.ntmps)=some c116:=by kernel_rfl
theorem g116:An.glob 116=[]:=rfl
theorem r116:Try.f116.results.toList=[(.tmp 8),(.tmp 9)]:=by kernel_rfl
theorem t116r0 (h:Q .normal ⟨tk L [0,1,2,3] [],m⟩):Rg F 116 [0,1,2,3] (Jv 0) L m Q:=Tq h
theorem t116r1 (h:Obt (aB An F 116 (some 14) 114 [(ac L 1),(ac L 3)] m) λa0=>Obt (aB An F 116 (some 17) 114 [(ac L 2),(ac L 3)] a0.2) λa1=>Q .normal ⟨tk L [0] ((1,a0.1)::(2,a1.1)::tk L [3] []),a1.2⟩):Rg F 116 [0,1,2,3] (Jv 1) L m Q:=Tq h
theorem t116r2 (h:Q .normal ⟨tk L [0,1,2,3] [(18,(ac L 0))],m⟩):Rg F 116 [0,1,2,3,18] (Jv 2) L m Q:=Tq h
theorem t116r3 (h:Obt (aw Try.prog .eql 3 (.tmp 18) (.const (.int .i64 48)) (ac L 18) (.int .i64 48)) λa0=>Q .normal ⟨tk L [0,1,2,3,18] [(19,a0)],m⟩):Rg F 116 [0,1,2,3,18,19] (Jv 3) L m Q:=Tq h
theorem t116r7 (h:Obt (aw Try.prog .eql 3 (.tmp 18) (.const (.int .i64 144)) (ac L 18) (.int .i64 144)) λa0=>Q .normal ⟨tk L [0,1,2,3,18] [(26,a0)],m⟩):Rg F 116 [0,1,2,3,18,26] (Jv 7) L m Q:=Tq h
theorem t116r11 (h:Obt (aw Try.prog .eql 3 (.tmp 18) (.const (.int .i64 96)) (ac L 18) (.int .i64 96)) λa0=>Q .normal ⟨tk L [0,1,2,3,18] [(34,a0)],m⟩):Rg F 116 [0,1,2,3,18,34] (Jv 11) L m Q:=Tq h
theorem t116r12 (h:Obt (aw Try.prog .eql 3 (.tmp 18) (.const (.int .i64 112)) (ac L 18) (.int .i64 112)) λa0=>Q .normal ⟨tk L [0,1,2,3,18] [(34,a0)],m⟩):Rg F 116 [0,1,2,3,18,34] (Jv 12) L m Q:=Tq h
theorem t116r13 (h:Obt (aw Try.prog .eql 3 (.tmp 18) (.const (.int .i64 192)) (ac L 18) (.int .i64 192)) λa0=>Q .normal ⟨tk L [0,1,2,3] [(34,a0)],m⟩):Rg F 116 [0,1,2,3,34] (Jv 13) L m Q:=Tq h
theorem t116r15 (h:Obt (aB An F 116 (some 49) 140 [(ac L 0),(ac L 1),(ac L 2)] m) λa0=>Obt (cV 0 a0.1) λa1=>Obt (cV 1 a0.1) λa2=>Q .normal ⟨tk L [3] [(10,a1),(11,a2)],a0.2⟩):Rg F 116 [3,10,11] (Jv 15) L m Q:=Tq h
theorem t116r16 (h:Obt (aB An F 116 (some 54) 114 [(ac L 10),(ac L 3)] m) λa0=>Q .normal ⟨[(8,a0.1),(9,(ac L 11))],a0.2⟩):Rg F 116 [8,9] (Jv 16) L m Q:=Tq h
abbrev R86:=rg 86 Try.f86
def c86:SC:=
 (.seq (.reg false (some [0,1,2,3]) (R86 0)) (.seq (.reg false (some [0,1,2,3]) (R86 1)) (.seq (.reg false (some [0,1,2,10]) (R86 2)) (.seq (.seq (.reg false (some [1,2,10,22]) (R86 3)) (.block 0 (.seq (.reg false (some [1,2,10,22,23]) (R86 4)) (.cond (.tmp 23) (.seq (.reg false (some [8,9]) (R86 5)) .ret) (.seq (.reg false (some [1,2,10,22,27]) (R86 6)) (.cond (.tmp 27) (.seq (.reg false (some [8,9]) (R86 7)) .ret) (.seq (.reg false (some [1,2,10,22,31]) (R86 8)) (.cond (.tmp 31) (.seq (.reg false (some [8,9]) (R86 9)) .ret) (.seq (.seq (.reg false (some [10,22,37]) (R86 10)) (.cond (.tmp 37) .nop (.reg false (some [10,22,37]) (R86 11)))) (.cond (.tmp 37) (.seq (.reg false (some [8,9]) (R86 12)) .ret) (.seq (.seq (.reg false (some [10,22,42]) (R86 13)) (.cond (.tmp 42) .nop (.reg false (some [10,22,42]) (R86 14)))) (.cond (.tmp 42) (.seq (.reg false (some [8,9]) (R86 15)) .ret) (.seq (.seq (.reg false (some [10,22,47]) (R86 16)) (.cond (.tmp 47) .nop (.reg false (some [10,22,47]) (R86 17)))) (.cond (.tmp 47) (.seq (.reg false (some [8,9]) (R86 18)) .ret) (.seq (.seq (.reg false (some [10,22,52]) (R86 19)) (.cond (.tmp 52) .nop (.reg false (some [10,52]) (R86 20)))) (.cond (.tmp 52) (.seq (.reg false (some [8,9]) (R86 21)) .ret) .nop)))))))))))))))) (.seq (.reg false (some [8,9]) (R86 22)) .ret)))))
theorem s86:Try.f86.body.bind (bh Try.prog An 86 Try.f86.ntmps)=some c86:=by kernel_rfl
theorem g86:An.glob 86=[]:=rfl
theorem r86:Try.f86.results.toList=[(.tmp 8),(.tmp 9)]:=by kernel_rfl
theorem t86r0 (h:Q .normal ⟨tk L [0,1,2,3] [],m⟩):Rg F 86 [0,1,2,3] (R86 0) L m Q:=Tq h
theorem t86r1 (h:Obt (aB An F 86 (some 13) 114 [(ac L 1),(ac L 3)] m) λa0=>Obt (aB An F 86 (some 16) 114 [(ac L 2),(ac L 3)] a0.2) λa1=>Q .normal ⟨tk L [0] ((1,a0.1)::(2,a1.1)::tk L [3] []),a1.2⟩):Rg F 86 [0,1,2,3] (R86 1) L m Q:=Tq h
theorem t86r2 (h:Obt (aB An F 86 (some 21) 115 [(ac L 0),(ac L 1),(ac L 2),(ac L 3)] m) λa0=>Q .normal ⟨tk L [0,1,2] [(10,a0.1)],a0.2⟩):Rg F 86 [0,1,2,10] (R86 2) L m Q:=Tq h
theorem t86r3 (h:Q .normal ⟨tk L [1,2,10] [(22,(ac L 0))],m⟩):Rg F 86 [1,2,10,22] (R86 3) L m Q:=Tq h
theorem t86r4 (h:Obt (aw Try.prog .eql 3 (.tmp 22) (.const (.int .i64 16)) (ac L 22) (.int .i64 16)) λa0=>Q .normal ⟨tk L [1,2,10,22] [(23,a0)],m⟩):Rg F 86 [1,2,10,22,23] (R86 4) L m Q:=Tq h
theorem t86r6 (h:Obt (aw Try.prog .eql 3 (.tmp 22) (.const (.int .i64 80)) (ac L 22) (.int .i64 80)) λa0=>Q .normal ⟨tk L [1,2,10,22] [(27,a0)],m⟩):Rg F 86 [1,2,10,22,27] (R86 6) L m Q:=Tq h
theorem t86r8 (h:Obt (aw Try.prog .eql 3 (.tmp 22) (.const (.int .i64 64)) (ac L 22) (.int .i64 64)) λa0=>Q .normal ⟨tk L [1,2,10,22] [(31,a0)],m⟩):Rg F 86 [1,2,10,22,31] (R86 8) L m Q:=Tq h
theorem t86r10 (h:Obt (aw Try.prog .eql 3 (.tmp 22) (.const (.int .i64 32)) (ac L 22) (.int .i64 32)) λa0=>Q .normal ⟨tk L [10,22] [(37,a0)],m⟩):Rg F 86 [10,22,37] (R86 10) L m Q:=Tq h
theorem t86r11 (h:Obt (aw Try.prog .eql 3 (.tmp 22) (.const (.int .i64 96)) (ac L 22) (.int .i64 96)) λa0=>Q .normal ⟨tk L [10,22] [(37,a0)],m⟩):Rg F 86 [10,22,37] (R86 11) L m Q:=Tq h
theorem t86r13 (h:Obt (aw Try.prog .eql 3 (.tmp 22) (.const (.int .i64 48)) (ac L 22) (.int .i64 48)) λa0=>Q .normal ⟨tk L [10,22] [(42,a0)],m⟩):Rg F 86 [10,22,42] (R86 13) L m Q:=Tq h
theorem t86r14 (h:Obt (aw Try.prog .eql 3 (.tmp 22) (.const (.int .i64 112)) (ac L 22) (.int .i64 112)) λa0=>Q .normal ⟨tk L [10,22] [(42,a0)],m⟩):Rg F 86 [10,22,42] (R86 14) L m Q:=Tq h
theorem t86r16 (h:Obt (aw Try.prog .eql 3 (.tmp 22) (.const (.int .i64 160)) (ac L 22) (.int .i64 160)) λa0=>Q .normal ⟨tk L [10,22] [(47,a0)],m⟩):Rg F 86 [10,22,47] (R86 16) L m Q:=Tq h
theorem t86r17 (h:Obt (aw Try.prog .eql 3 (.tmp 22) (.const (.int .i64 192)) (ac L 22) (.int .i64 192)) λa0=>Q .normal ⟨tk L [10,22] [(47,a0)],m⟩):Rg F 86 [10,22,47] (R86 17) L m Q:=Tq h
theorem t86r19 (h:Obt (aw Try.prog .eql 3 (.tmp 22) (.const (.int .i64 176)) (ac L 22) (.int .i64 176)) λa0=>Q .normal ⟨tk L [10,22] [(52,a0)],m⟩):Rg F 86 [10,22,52] (R86 19) L m Q:=Tq h
theorem t86r20 (h:Obt (aw Try.prog .eql 3 (.tmp 22) (.const (.int .i64 208)) (ac L 22) (.int .i64 208)) λa0=>Q .normal ⟨tk L [10] [(52,a0)],m⟩):Rg F 86 [10,52] (R86 20) L m Q:=Tq h
theorem t86r22 (h:Q .normal ⟨[(8,(.bool false)),(9,(.bool false))],m⟩):Rg F 86 [8,9] (R86 22) L m Q:=Tq h
abbrev R117:=rg 117 Try.f117
def c117:SC:=
 (.seq (.reg false (some [0]) (R117 0)) (.seq (.reg false (some [2]) (R117 1)) .ret))
theorem s117:Try.f117.body.bind (bh Try.prog An 117 Try.f117.ntmps)=some c117:=by kernel_rfl
theorem g117:An.glob 117=[]:=rfl
theorem r117:Try.f117.results.toList=[(.tmp 2)]:=by kernel_rfl
theorem EA (h:Q .normal ⟨tk L [0] [],m⟩):Rg F 117 [0] (R117 0) L m Q:=Tq h
theorem EB (h:Obt (aw Try.prog .gtr 3 (.tmp 3) (.const (.int .i64 0)) (ac L 0) (.int .i64 0)) λa0=>Obt (gW a0 true (ac L 0) m) λa1=>Obt (gV a0 true (aw Try.prog .leq 3 (.tmp 6) (.const (.int .i64 8)) a1.1 (.int .i64 8)) a1.2) λa2=>Obt (aT a0 a2.1 (.bool false)) λa3=>Obt (gW a3 true (ac L 0) a2.2) λa4=>Obt (gW a3 true (ac L 0) a4.2) λa5=>Obt (gV a3 true (aw Try.prog .sub 3 (.tmp 11) (.const (.int .i64 1)) a5.1 (.int .i64 1)) a5.2) λa6=>Obt (gV a3 true (aw Try.prog .and 3 (.tmp 10) (.tmp 12) a4.1 a6.1) a6.2) λa7=>Obt (gV a3 true (aw Try.prog .eql 3 (.tmp 13) (.const (.int .i64 0)) a7.1 (.int .i64 0)) a7.2) λa8=>Obt (aT a3 a8.1 (.bool false)) λa9=>Q .normal ⟨[(2,a9)],a8.2⟩):Rg F 117 [2] (R117 1) L m Q:=Tq h
theorem cl174 {m:Mem}{p:CV}:eW Try.prog m 174 p=ldA 3 m p:=by kernel_rfl
abbrev JJ:=rg 118 Try.f118
def c118:SC:=
 (.seq (.reg false (some [0,2]) (JJ 0)) (.seq (.reg false (some [2,4,5]) (JJ 1)) (.seq (.reg false (some [2,3]) (JJ 2)) .ret)))
theorem s118:Try.f118.body.bind (bh Try.prog An 118 Try.f118.ntmps)=some c118:=by kernel_rfl
theorem g118:An.glob 118=[]:=rfl
theorem r118:Try.f118.results.toList=[(.cell 2 174),(.tmp 3)]:=by kernel_rfl
theorem t118r0 (h:Q .normal ⟨tk L [0] [(2,(bo m 32))],(bw m 32 [.str .empty,.nil,.int .i64 0])⟩):Rg F 118 [0,2] (JJ 0) L m Q:=Tq h
theorem t118r1 (h:Obt (aB An F 118 (some 7) 141 [] m) λa0=>Obt (gK Try.prog 3 (.agg [.str .empty,.nil,.int .i64 0]) a0.1 (ac L 0) true a0.2) λa1=>Obt (cV 0 a1) λa2=>Obt (cV 1 a1) λa3=>Obt (stX 3 (bw a0.2 64 [.str .empty,.nil,.int .i64 0]) (bo a0.2 64) a2) λa4=>Q .normal ⟨tk L [2] [(4,(bo a0.2 64)),(5,a3)],a4⟩):Rg F 118 [2,4,5] (JJ 1) L m Q:=Tq h
theorem t118r2 (h:Obt (ldA 3 m (ac L 4)) λa0=>Obt (stX 3 m (ac L 2) a0) λa1=>Q .normal ⟨tk L [2] [(3,(ac L 5))],a1⟩):Rg F 118 [2,3] (JJ 2) L m Q:=Tq h
abbrev R90:=rg 90 Try.f90
def c90:SC:=
 (.seq (.reg false (some [1]) (R90 0)) (.seq (.seq (.reg false (some [1,8]) (R90 1)) (.block 0 (.seq (.seq (.reg false (some [1,8,9]) (R90 2)) (.cond (.tmp 9) .nop (.seq (.reg false (some [1,8,9]) (R90 3)) (.cond (.tmp 9) .nop (.reg false (some [1,8,9]) (R90 4)))))) (.cond (.tmp 9) (.seq (.reg false (some [2]) (R90 5)) .ret) (.seq (.reg false (some [1,8,13]) (R90 6)) (.cond (.tmp 13) (.seq (.reg false (some [4]) (R90 7)) (.seq (.reg false (some [2]) (R90 8)) .ret)) (.seq (.seq (.reg false (some [1,8,22]) (R90 9)) (.cond (.tmp 22) .nop (.reg false (some [1,8,22]) (R90 10)))) (.cond (.tmp 22) (.seq (.reg false (some [2]) (R90 11)) .ret) (.seq (.reg false (some [1,48]) (R90 12)) (.cond (.tmp 48) (.seq (.reg false (some [1,5,6]) (R90 13)) (.seq (.reg false (some [2]) (R90 14)) .ret)) .nop)))))))))) (.seq (.reg false (some [2]) (R90 15)) .ret)))
theorem s90:Try.f90.body.bind (bh Try.prog An 90 Try.f90.ntmps)=some c90:=by kernel_rfl
theorem g90:An.glob 90=[]:=rfl
theorem r90:Try.f90.results.toList=[(.tmp 2)]:=by kernel_rfl
theorem JL (h:Obt (ap (ac L 0)) λa0=>Q .normal ⟨[(1,(bo m 16))],(bw m 16 a0)⟩):Rg F 90 [1] (R90 0) L m Q:=Tq h
theorem G3 (h:Obt (aA 0 (ac L 1)) λa0=>Obt (ld1 m a0) λa1=>Q .normal ⟨tk L [1] [(8,a1)],m⟩):Rg F 90 [1,8] (R90 1) L m Q:=Tq h
theorem f7 (h:Obt (aw Try.prog .eql 64 (.tmp 8) (.const (.int .i64 1)) (ac L 8) (.int .i64 1)) λa0=>Q .normal ⟨tk L [1,8] [(9,a0)],m⟩):Rg F 90 [1,8,9] (R90 2) L m Q:=Tq h
theorem gw (h:Obt (aw Try.prog .eql 64 (.tmp 8) (.const (.int .i64 2)) (ac L 8) (.int .i64 2)) λa0=>Q .normal ⟨tk L [1,8] [(9,a0)],m⟩):Rg F 90 [1,8,9] (R90 3) L m Q:=Tq h
theorem gR (h:Obt (aw Try.prog .eql 64 (.tmp 8) (.const (.int .i64 3)) (ac L 8) (.int .i64 3)) λa0=>Q .normal ⟨tk L [1,8] [(9,a0)],m⟩):Rg F 90 [1,8,9] (R90 4) L m Q:=Tq h
theorem FH (h:Q .normal ⟨[(2,(.bool true))],m⟩):Rg F 90 [2] (R90 5) L m Q:=Tq h
theorem iw (h:Obt (aw Try.prog .eql 64 (.tmp 8) (.const (.int .i64 4)) (ac L 8) (.int .i64 4)) λa0=>Q .normal ⟨tk L [1,8] [(13,a0)],m⟩):Rg F 90 [1,8,13] (R90 6) L m Q:=Tq h
theorem t90r7 (h:Obt (aA 2 (ac L 1)) λa0=>Obt (ld1 m a0) λa1=>Obt (aB An F 90 (some 18) 116 [a1,(.int .u64 0),(.int .u64 0),(.bool true)] m) λa2=>Obt (cV 0 a2.1) λa3=>Obt (cV 1 a2.1) λa4=>Q .normal ⟨[(4,a4)],a2.2⟩):Rg F 90 [4] (R90 7) L m Q:=Tq h
theorem t90r8 (h:Q .normal ⟨[(2,(ac L 4))],m⟩):Rg F 90 [2] (R90 8) L m Q:=Tq h
theorem je (h:Obt (aw Try.prog .eql 64 (.tmp 8) (.const (.int .i64 5)) (ac L 8) (.int .i64 5)) λa0=>Q .normal ⟨tk L [1,8] [(22,a0)],m⟩):Rg F 90 [1,8,22] (R90 9) L m Q:=Tq h
theorem jd (h:Obt (aw Try.prog .eql 64 (.tmp 8) (.const (.int .i64 6)) (ac L 8) (.int .i64 6)) λa0=>Q .normal ⟨tk L [1,8] [(22,a0)],m⟩):Rg F 90 [1,8,22] (R90 10) L m Q:=Tq h
theorem kj (h:Obt (aA 7 (ac L 1)) λa0=>Obt (ld1 m a0) λa1=>Obt (aB An F 90 (some 27) 117 [a1] m) λa2=>Obt (gV a2.1 true (aA 8 (ac L 1)) a2.2) λa3=>Obt (gV a2.1 true (ld1 a3.2 a3.1) a3.2) λa4=>Obt (gV a2.1 true (aw Try.prog .geq 3 (.tmp 30) (.const (.int .i64 (-32768))) a4.1 (.int .i64 (-32768))) a4.2) λa5=>Obt (aT a2.1 a5.1 (.bool false)) λa6=>Obt (gV a6 true (aA 8 (ac L 1)) a5.2) λa7=>Obt (gV a6 true (ld1 a7.2 a7.1) a7.2) λa8=>Obt (gV a6 true (aw Try.prog .lss 3 (.tmp 35) (.const (.int .i64 32768)) a8.1 (.int .i64 32768)) a8.2) λa9=>Obt (aT a6 a9.1 (.bool false)) λa10=>Obt (gV a10 true (aA 0 (ac L 1)) a9.2) λa11=>Obt (gV a10 true (ld1 a11.2 a11.1) a11.2) λa12=>Obt (gV a10 true (aw Try.prog .eql 64 (.tmp 40) (.const (.int .i64 5)) a12.1 (.int .i64 5)) a12.2) λa13=>Obt (gW a10 true a13.1 a13.2) λa14=>Obt (gV a14.1 false (aA 1 (ac L 1)) a14.2) λa15=>Obt (gV a14.1 false (ld1 a15.2 a15.1) a15.2) λa16=>Obt (gV a14.1 false (aw Try.prog .eql 3 (.tmp 44) (.const (.int .i64 (-1))) a16.1 (.int .i64 (-1))) a16.2) λa17=>Obt (gV a10 true (aT a14.1 (.bool true) a17.1) a17.2) λa18=>Obt (aT a10 a18.1 (.bool false)) λa19=>Q .normal ⟨[(2,a19)],a18.2⟩):Rg F 90 [2] (R90 11) L m Q:=Tq h
theorem rk (h:Obt (aw Try.prog .eql 64 (.tmp 8) (.const (.int .i64 7)) (ac L 8) (.int .i64 7)) λa0=>Q .normal ⟨tk L [1] [(48,a0)],m⟩):Rg F 90 [1,48] (R90 12) L m Q:=Tq h
theorem uF (h:Obt (aA 6 (ac L 1)) λa0=>Obt (ld1 m a0) λa1=>Obt (hZ false [a1,(.int .u64 1048576)]) λa2=>Obt (pF .i64 a2) λa3=>Obt (aB An F 90 (some 55) 118 [a3] m) λa4=>Obt (cV 0 a4.1) λa5=>Obt (cV 1 a4.1) λa6=>Obt (stX 3 (bw a4.2 80 [.str .empty,.nil,.int .i64 0]) (bo a4.2 80) a5) λa7=>Q .normal ⟨tk L [1] [(5,(bo a4.2 80)),(6,a6)],a7⟩):Rg F 90 [1,5,6] (R90 13) L m Q:=Tq h
theorem uG (h:Obt (gV (ac L 6) true (aA 10 (ac L 1)) m) λa0=>Obt (gV (ac L 6) true (ld1 a0.2 a0.1) a0.2) λa1=>Obt (gV (ac L 6) true (lenS a1.1) a1.2) λa2=>Obt (gV (ac L 6) true (aA 1 (ac L 5)) a2.2) λa3=>Obt (gV (ac L 6) true (ld1 a3.2 a3.1) a3.2) λa4=>Obt (gV (ac L 6) true (lenS a4.1) a4.2) λa5=>Obt (gV (ac L 6) true (aw Try.prog .eql 3 (.tmp 62) (.tmp 65) a2.1 a5.1) a5.2) λa6=>Obt (aT (ac L 6) a6.1 (.bool false)) λa7=>Q .normal ⟨[(2,a7)],a6.2⟩):Rg F 90 [2] (R90 14) L m Q:=Tq h
theorem t90r15 (h:Q .normal ⟨[(2,(.bool false))],m⟩):Rg F 90 [2] (R90 15) L m Q:=Tq h
abbrev R89:=rg 89 Try.f89
def c89:SC:=
 (.seq (.reg false (some [0,1,5]) (R89 0)) (.seq (.seq (.reg false (some [0,1,5,28]) (R89 1)) (.cond (.tmp 28) (.seq (.reg false (some [6]) (R89 2)) .ret) .nop)) (.seq (.reg true (some []) (R89 3)) (.seq (.reg false (some [6]) (R89 4)) .ret))))
theorem s89:Try.f89.body.bind (bh Try.prog An 89 Try.f89.ntmps)=some c89:=by kernel_rfl
theorem g89:An.glob 89=[]:=rfl
theorem r89:Try.f89.results.toList=[(.tmp 6)]:=by kernel_rfl
theorem wG (h:Obt (ap (ac L 2)) λa0=>Q .normal ⟨tk L [0,1] [(5,(bo m 80))],(bw m 80 a0)⟩):Rg F 89 [0,1,5] (R89 0) L m Q:=Tq h
theorem wH (h:Obt (aw Try.prog .lss 3 (.tmp 7) (.const (.int .i64 0)) (ac L 1) (.int .i64 0)) λa0=>Obt (gW a0 false (ac L 1) m) λa1=>Obt (gW a0 false (ac L 0) a1.2) λa2=>Obt (gV a0 false (b7 a2.1) a2.2) λa3=>Obt (gV a0 false (aA 2 a3.1) a3.2) λa4=>Obt (gV a0 false (ld1 a4.2 a4.1) a4.2) λa5=>Obt (gV a0 false (lenS a5.1) a5.2) λa6=>Obt (gV a0 false (aw Try.prog .geq 3 (.tmp 10) (.tmp 15) a1.1 a6.1) a6.2) λa7=>Obt (aT a0 (.bool true) a7.1) λa8=>Obt (gW a8 false (ac L 0) a7.2) λa9=>Obt (gV a8 false (b7 a9.1) a9.2) λa10=>Obt (gV a8 false (aA 2 a10.1) a10.2) λa11=>Obt (gV a8 false (ld1 a11.2 a11.1) a11.2) λa12=>Obt (gW a8 false (ac L 1) a12.2) λa13=>Obt (gV a8 false (bd 2 a12.1 a13.1) a13.2) λa14=>Obt (gV a8 false (aA 0 a14.1) a14.2) λa15=>Obt (gV a8 false (ld1 a15.2 a15.1) a15.2) λa16=>Obt (gV a8 false (aw Try.prog .geq 3 (.tmp 26) (.const (.int .i64 0)) a16.1 (.int .i64 0)) a16.2) λa17=>Obt (aT a8 (.bool true) a17.1) λa18=>Q .normal ⟨tk L [0,1,5] [(28,a18)],a17.2⟩):Rg F 89 [0,1,5,28] (R89 1) L m Q:=Tq h
theorem FG (h:Q .normal ⟨[(6,(.bool false))],m⟩):Rg F 89 [6] (R89 2) L m Q:=Tq h
theorem t89r3 (h:Obt (b7 (ac L 0)) λa0=>Obt (aA 2 a0) λa1=>Obt (ld1 m a1) λa2=>Obt (ldA 2 m (ac L 5)) λa3=>Obt (bd 2 a2 (ac L 1)) λa4=>Obt (stX 2 m a4 a3) λa5=>Q .normal ⟨[],a5⟩):Rt F 89 [] (R89 3) L m Q:=Tq h
theorem t89r4 (h:Q .normal ⟨[(6,(.bool true))],m⟩):Rg F 89 [6] (R89 4) L m Q:=Tq h
abbrev R92:=rg 92 Try.f92
def c92l0:SC:=
 (.seq (.seq (.reg false (some [0,4,9,10,11,12,13,64]) (R92 11)) (.cond (.tmp 64) .nop (.exit 2))) (.block 3 (.reg false (some [0,4,9,10,11,12,13]) (R92 12))))
def c92l1:SC:=
 (.seq (.reg false (some [0,4,11,12,13,14]) (R92 2)) (.seq (.cond (.tmp 14) .nop (.exit 0)) (.seq (.block 1 (.seq (.reg false (some [0,4,8,11,12,13]) (R92 3)) (.seq (.seq (.reg false (some [0,4,8,11,12,13,38]) (R92 4)) (.cond (.tmp 38) (.seq (.reg false (some [6]) (R92 5)) .ret) .nop)) (.seq (.reg false (some [0,4,9,11,12,13]) (R92 6)) (.seq (.reg false (some [0,4,9,10,11,12,13]) (R92 7)) (.seq (.seq (.reg false (some [0,4,9,10,11,12,13,51]) (R92 8)) (.cond (.tmp 51) (.seq (.seq (.reg false (some [0,4,11,12,13,56]) (R92 9)) (.cond (.tmp 56) (.seq (.reg false (some [6]) (R92 10)) .ret) .nop)) (.exit 1)) .nop)) (.seq (.block 2 (.loop c92l0)) (.seq (.reg false (some [0,4,11,12,13,73]) (R92 13)) (.cond (.tmp 73) (.seq (.reg false (some [6]) (R92 14)) .ret) .nop))))))))) (.reg false (some [0,4,11,12,13]) (R92 15)))))
def c92:SC:=
 (.seq (.reg false (some [0,2,4]) (R92 0)) (.seq (.seq (.reg false (some [0,4,11,12,13]) (R92 1)) (.block 0 (.loop c92l1))) (.seq (.reg false (some [6]) (R92 16)) .ret)))
theorem s92:Try.f92.body.bind (bh Try.prog An 92 Try.f92.ntmps)=some c92:=by kernel_rfl
theorem g92:An.glob 92=[]:=rfl
theorem r92:Try.f92.results.toList=[(.tmp 6)]:=by kernel_rfl
theorem t92r0 (h:Obt (ap (ac L 1)) λa0=>Q .normal ⟨tk L [0,2] [(4,(bo m 64))],(bw m 64 a0)⟩):Rg F 92 [0,2,4] (R92 0) L m Q:=Tq h
theorem t92r1 (h:Obt (lenS (ac L 2)) λa0=>Q .normal ⟨tk L [0,4] [(11,(ac L 2)),(12,a0),(13,(.int .i64 0))],m⟩):Rg F 92 [0,4,11,12,13] (R92 1) L m Q:=Tq h
theorem oO (h:Obt (aw Try.prog .lss 3 (.tmp 13) (.tmp 12) (ac L 13) (ac L 12)) λa0=>Q .normal ⟨tk L [0,4,11,12,13] [(14,a0)],m⟩):Rg F 92 [0,4,11,12,13,14] (R92 2) L m Q:=Tq h
theorem qf (h:Obt (bd 1 (ac L 11) (ac L 13)) λa0=>Obt (ld1 m a0) λa1=>Q .normal ⟨tk L [0,4] ((8,a1)::tk L [11,12,13] []),m⟩):Rg F 92 [0,4,8,11,12,13] (R92 3) L m Q:=Tq h
theorem qg (h:Obt (aw Try.prog .lss 3 (.tmp 17) (.const (.int .i64 0)) (ac L 8) (.int .i64 0)) λa0=>Obt (gW a0 false (ac L 8) m) λa1=>Obt (gW a0 false (ac L 0) a1.2) λa2=>Obt (gV a0 false (b7 a2.1) a2.2) λa3=>Obt (gV a0 false (aA 2 a3.1) a3.2) λa4=>Obt (gV a0 false (ld1 a4.2 a4.1) a4.2) λa5=>Obt (gV a0 false (lenS a5.1) a5.2) λa6=>Obt (gV a0 false (aw Try.prog .geq 3 (.tmp 20) (.tmp 25) a1.1 a6.1) a6.2) λa7=>Obt (aT a0 (.bool true) a7.1) λa8=>Obt (gW a8 false (ac L 0) a7.2) λa9=>Obt (gV a8 false (b7 a9.1) a9.2) λa10=>Obt (gV a8 false (aA 2 a10.1) a10.2) λa11=>Obt (gV a8 false (ld1 a11.2 a11.1) a11.2) λa12=>Obt (gW a8 false (ac L 8) a12.2) λa13=>Obt (gV a8 false (bd 2 a12.1 a13.1) a13.2) λa14=>Obt (gV a8 false (aA 0 a14.1) a14.2) λa15=>Obt (gV a8 false (ld1 a15.2 a15.1) a15.2) λa16=>Obt (gV a8 false (aw Try.prog .lss 3 (.tmp 36) (.const (.int .i64 0)) a16.1 (.int .i64 0)) a16.2) λa17=>Obt (aT a8 (.bool true) a17.1) λa18=>Q .normal ⟨tk L [0,4,8,11,12,13] [(38,a18)],a17.2⟩):Rg F 92 [0,4,8,11,12,13,38] (R92 4) L m Q:=Tq h
theorem FQ (h:Q .normal ⟨[(6,(.bool false))],m⟩):Rg F 92 [6] (R92 5) L m Q:=Tq h
theorem FR (h:Obt (b7 (ac L 0)) λa0=>Obt (aA 2 a0) λa1=>Obt (ld1 m a1) λa2=>Obt (bd 2 a2 (ac L 8)) λa3=>Obt (ldA 2 m a3) λa4=>Obt (stX 2 (bw m 144 [.int .i64 0,.int .i64 0]) (bo m 144) a4) λa5=>Q .normal ⟨tk L [0,4] ((9,(bo m 144))::tk L [11,12,13] []),a5⟩):Rg F 92 [0,4,9,11,12,13] (R92 6) L m Q:=Tq h
theorem FS (h:Obt (aA 0 (ac L 4)) λa0=>Obt (ld1 m a0) λa1=>Q .normal ⟨tk L [0,4,9] ((10,a1)::tk L [11,12,13] []),m⟩):Rg F 92 [0,4,9,10,11,12,13] (R92 7) L m Q:=Tq h
theorem FT (h:Obt (aA 0 (ac L 9)) λa0=>Obt (ld1 m a0) λa1=>Obt (aw Try.prog .eql 3 (.tmp 49) (.tmp 50) a1 (ac L 10)) λa2=>Q .normal ⟨tk L [0,4,9,10,11,12,13] [(51,a2)],m⟩):Rg F 92 [0,4,9,10,11,12,13,51] (R92 8) L m Q:=Tq h
theorem t92r9 (h:Obt (aA 1 (ac L 9)) λa0=>Obt (ld1 m a0) λa1=>Obt (aA 1 (ac L 4)) λa2=>Obt (ld1 m a2) λa3=>Obt (aw Try.prog .geq 3 (.tmp 53) (.tmp 55) a1 a3) λa4=>Q .normal ⟨tk L [0,4,11,12,13] [(56,a4)],m⟩):Rg F 92 [0,4,11,12,13,56] (R92 9) L m Q:=Tq h
theorem t92r10 (h:Q .normal ⟨[(6,(.bool false))],m⟩):Rg F 92 [6] (R92 10) L m Q:=Tq h
theorem uL (h:Obt (aw Try.prog .geq 3 (.tmp 57) (.const (.int .i64 0)) (ac L 10) (.int .i64 0)) λa0=>Obt (gW a0 true (ac L 10) m) λa1=>Obt (gV a0 true (aA 0 (ac L 9)) a1.2) λa2=>Obt (gV a0 true (ld1 a2.2 a2.1) a2.2) λa3=>Obt (gV a0 true (aw Try.prog .neq 3 (.tmp 60) (.tmp 62) a1.1 a3.1) a3.2) λa4=>Obt (aT a0 a4.1 (.bool false)) λa5=>Q .normal ⟨tk L [0,4,9,10,11,12,13] [(64,a5)],a4.2⟩):Rg F 92 [0,4,9,10,11,12,13,64] (R92 11) L m Q:=Tq h
theorem t92r12 (h:Obt (b7 (ac L 0)) λa0=>Obt (aA 3 a0) λa1=>Obt (ld1 m a1) λa2=>Obt (bd 1 a2 (ac L 10)) λa3=>Obt (ld1 m a3) λa4=>Q .normal ⟨tk L [0,4,9] ((10,a4)::tk L [11,12,13] []),m⟩):Rg F 92 [0,4,9,10,11,12,13] (R92 12) L m Q:=Tq h
theorem FO (h:Obt (aw Try.prog .lss 3 (.tmp 72) (.const (.int .i64 0)) (ac L 10) (.int .i64 0)) λa0=>Q .normal ⟨tk L [0,4,11,12,13] [(73,a0)],m⟩):Rg F 92 [0,4,11,12,13,73] (R92 13) L m Q:=Tq h
theorem t92r14 (h:Q .normal ⟨[(6,(.bool false))],m⟩):Rg F 92 [6] (R92 14) L m Q:=Tq h
theorem FP (h:Obt (aw Try.prog .add 3 (.tmp 13) (.const (.int .i64 1)) (ac L 13) (.int .i64 1)) λa0=>Q .normal ⟨tk L [0,4,11,12] [(13,a0)],m⟩):Rg F 92 [0,4,11,12,13] (R92 15) L m Q:=Tq h
theorem t92r16 (h:Q .normal ⟨[(6,(.bool true))],m⟩):Rg F 92 [6] (R92 16) L m Q:=Tq h
abbrev R88:=rg 88 Try.f88
def c88l0:SC:=
 (.seq (.reg false (some [0,1,12,13,14]) (R88 4)) (.seq (.cond (.tmp 14) .nop (.exit 0)) (.seq (.block 1 (.seq (.reg false (some [0,1,5,12,13]) (R88 5)) (.seq (.reg true (some [0,1,12,13,24]) (R88 6)) (.cond (.tmp 24) (.seq (.reg false (some [4]) (R88 7)) .ret) .nop)))) (.reg false (some [0,1,12,13]) (R88 8)))))
def c88:SC:=
 (.seq (.reg false (some [0,1]) (R88 0)) (.seq (.seq (.reg false (some [0,1,10]) (R88 1)) (.cond (.tmp 10) (.seq (.reg false (some [4]) (R88 2)) .ret) .nop)) (.seq (.seq (.reg false (some [0,1,12,13]) (R88 3)) (.block 0 (.loop c88l0))) (.seq (.reg false (some [4]) (R88 9)) .ret))))
theorem s88:Try.f88.body.bind (bh Try.prog An 88 Try.f88.ntmps)=some c88:=by kernel_rfl
theorem g88:An.glob 88=[]:=rfl
theorem r88:Try.f88.results.toList=[(.tmp 4)]:=by kernel_rfl
theorem t88r0 (h:Q .normal ⟨tk L [0,1] [],m⟩):Rg F 88 [0,1] (R88 0) L m Q:=Tq h
theorem t88r1 (h:Obt (lenS (ac L 0)) λa0=>Obt (lenS (ac L 1)) λa1=>Obt (aw Try.prog .neq 3 (.tmp 7) (.tmp 9) a0 a1) λa2=>Q .normal ⟨tk L [0,1] [(10,a2)],m⟩):Rg F 88 [0,1,10] (R88 1) L m Q:=Tq h
theorem t88r2 (h:Q .normal ⟨[(4,(.bool false))],m⟩):Rg F 88 [4] (R88 2) L m Q:=Tq h
theorem t88r3 (h:Obt (lenS (ac L 0)) λa0=>Q .normal ⟨tk L [0,1] [(12,a0),(13,(.int .i64 0))],m⟩):Rg F 88 [0,1,12,13] (R88 3) L m Q:=Tq h
theorem FE (h:Obt (aw Try.prog .lss 3 (.tmp 13) (.tmp 12) (ac L 13) (ac L 12)) λa0=>Q .normal ⟨tk L [0,1,12,13] [(14,a0)],m⟩):Rg F 88 [0,1,12,13,14] (R88 4) L m Q:=Tq h
theorem t88r5 (h:Q .normal ⟨tk L [0,1] ((5,(ac L 13))::tk L [12,13] []),m⟩):Rg F 88 [0,1,5,12,13] (R88 5) L m Q:=Tq h
theorem t88r6 (h:Obt (bd 1 (ac L 0) (ac L 5)) λa0=>Obt (ld1 m a0) λa1=>Obt (bd 1 (ac L 1) (ac L 5)) λa2=>Obt (ld1 m a2) λa3=>Obt (aw Try.prog .neq 3 (.tmp 19) (.tmp 23) a1 a3) λa4=>Q .normal ⟨tk L [0,1,12,13] [(24,a4)],m⟩):Rt F 88 [0,1,12,13,24] (R88 6) L m Q:=Tq h
theorem t88r7 (h:Q .normal ⟨[(4,(.bool false))],m⟩):Rg F 88 [4] (R88 7) L m Q:=Tq h
theorem t88r8 (h:Obt (aw Try.prog .add 3 (.tmp 13) (.const (.int .i64 1)) (ac L 13) (.int .i64 1)) λa0=>Q .normal ⟨tk L [0,1,12] [(13,a0)],m⟩):Rg F 88 [0,1,12,13] (R88 8) L m Q:=Tq h
theorem t88r9 (h:Q .normal ⟨[(4,(.bool true))],m⟩):Rg F 88 [4] (R88 9) L m Q:=Tq h
abbrev R60:=rg 60 Try.f60
def c60l0:SC:=
 (.seq (.reg false (some [0,3,4,25,26,27,69,70,71,72]) (R60 10)) (.seq (.cond (.tmp 72) .nop (.exit 2)) (.seq (.block 3 (.seq (.reg false (some [0,3,4,10,25,26,27,69,70,71]) (R60 11)) (.seq (.seq (.reg false (some [0,3,4,10,25,26,27,69,70,71,82]) (R60 12)) (.cond (.tmp 82) (.seq (.reg false (some [2]) (R60 13)) .ret) .nop)) (.reg false (some [0,3,4,25,26,27,69,70,71]) (R60 14))))) (.reg false (some [0,3,4,25,26,27,69,70,71]) (R60 15)))))
def c60l1:SC:=
 (.seq (.reg false (some [0,3,25,26,27,28]) (R60 3)) (.seq (.cond (.tmp 28) .nop (.exit 0)) (.seq (.block 1 (.seq (.reg false (some [0,3,4,5,25,26,27]) (R60 4)) (.seq (.reg false (some [0,3,4,6,25,26,27]) (R60 5)) (.seq (.reg false (some [0,3,4,6,8,25,26,27]) (R60 6)) (.seq (.seq (.reg false (some [0,3,4,6,25,26,27,63]) (R60 7)) (.cond (.tmp 63) (.seq (.reg false (some [2]) (R60 8)) .ret) .nop)) (.seq (.reg false (some [0,3,4,25,26,27,69,70,71]) (R60 9)) (.block 2 (.loop c60l0)))))))) (.reg false (some [0,3,25,26,27]) (R60 16)))))
def c60l2:SC:=
 (.seq (.reg false (some [3,11,109,110,111,112]) (R60 19)) (.seq (.cond (.tmp 112) .nop (.exit 4)) (.seq (.block 5 (.seq (.reg false (some [3,11,12,13,109,110,111]) (R60 20)) (.seq (.reg true (some [3,11,12,109,110,111,140]) (R60 21)) (.cond (.tmp 140) (.seq (.reg false (some [2]) (R60 22)) .ret) .nop)))) (.reg false (some [3,11,109,110,111]) (R60 23)))))
def c60:SC:=
 (.seq (.reg false (some [0]) (R60 0)) (.seq (.reg false (some [0,3]) (R60 1)) (.seq (.seq (.reg false (some [0,3,25,26,27]) (R60 2)) (.block 0 (.loop c60l1))) (.seq (.reg false (some [0,3,11]) (R60 17)) (.seq (.seq (.reg false (some [3,11,109,110,111]) (R60 18)) (.block 4 (.loop c60l2))) (.seq (.reg false (some [2]) (R60 24)) .ret))))))
theorem s60:Try.f60.body.bind (bh Try.prog An 60 Try.f60.ntmps)=some c60:=by kernel_rfl
theorem g60:An.glob 60=[20,66,85,95,143]:=rfl
theorem r60:Try.f60.results.toList=[(.tmp 2)]:=by kernel_rfl
theorem t60r0 (h:Q .normal ⟨tk L [0] [],m⟩):Rg F 60 [0] (R60 0) L m Q:=Tq h
theorem t60r1 (h:Obt (b7 (ac L 0)) λa0=>Obt (aA 0 a0) λa1=>Obt (aA 0 a1) λa2=>Obt (ld1 m a2) λa3=>Obt (lenS a3) λa4=>Obt (mkX true 320 1 24 [.nil] a4 a4 m) λa5=>Q .normal ⟨tk L [0] [(3,a5.1)],a5.2⟩):Rg F 60 [0,3] (R60 1) L m Q:=Tq h
theorem t60r2 (h:Obt (b7 (ac L 0)) λa0=>Obt (aA 0 a0) λa1=>Obt (aA 0 a1) λa2=>Obt (ld1 m a2) λa3=>Obt (lenS a3) λa4=>Q .normal ⟨tk L [0,3] [(25,a3),(26,a4),(27,(.int .i64 0))],m⟩):Rg F 60 [0,3,25,26,27] (R60 2) L m Q:=Tq h
theorem qb (h:Obt (aw Try.prog .lss 3 (.tmp 27) (.tmp 26) (ac L 27) (ac L 26)) λa0=>Q .normal ⟨tk L [0,3,25,26,27] [(28,a0)],m⟩):Rg F 60 [0,3,25,26,27,28] (R60 3) L m Q:=Tq h
theorem sZ (h:Obt (bd 10 (ac L 25) (ac L 27)) λa0=>Obt (ldA 10 m a0) λa1=>Obt (stX 10 (bw m 80 [.nil,.nil,.nil,.int .i64 0,.int .i64 0,.bool false,.int .i64 0,.int .i64 0,.int .i64 0,.int .i64 0]) (bo m 80) a1) λa2=>Q .normal ⟨tk L [0,3] ((4,(ac L 27))::(5,(bo m 80))::tk L [25,26,27] []),a2⟩):Rg F 60 [0,3,4,5,25,26,27] (R60 4) L m Q:=Tq h
theorem ta (h:Obt (aA 3 (ac L 5)) λa0=>Obt (ldA 7 m a0) λa1=>Obt (stX 7 (bw m 96 [.int .i64 0,.int .i64 0,.bool false,.int .i64 0,.int .i64 0,.int .i64 0,.int .i64 0]) (bo m 96) a1) λa2=>Q .normal ⟨tk L [0,3,4] ((6,(bo m 96))::tk L [25,26,27] []),a2⟩):Rg F 60 [0,3,4,6,25,26,27] (R60 5) L m Q:=Tq h
theorem tc (h:Obt (aA 1 (ac L 6)) λa0=>Obt (ld1 m a0) λa1=>Obt (aB An F 60 (some 37) 86 [a1,(.int .u64 0),(.int .u64 0),(.bool true)] m) λa2=>Obt (cV 0 a2.1) λa3=>Obt (cV 1 a2.1) λa4=>Q .normal ⟨tk L [0,3,4,6] ((8,a4)::tk L [25,26,27] []),a2.2⟩):Rg F 60 [0,3,4,6,8,25,26,27] (R60 6) L m Q:=Tq h
theorem JX (h:Obt (aA 0 (ac L 6)) λa0=>Obt (ld1 m a0) λa1=>Obt (aw Try.prog .lss 54 (.tmp 41) (.const (.int .i64 1)) a1 (.int .i64 1)) λa2=>Obt (gV a2 false (aA 0 (ac L 6)) m) λa3=>Obt (gV a2 false (ld1 a3.2 a3.1) a3.2) λa4=>Obt (gV a2 false (aw Try.prog .gtr 54 (.tmp 45) (.const (.int .i64 3)) a4.1 (.int .i64 3)) a4.2) λa5=>Obt (aT a2 (.bool true) a5.1) λa6=>Obt (gV a6 false (aA 0 (ac L 6)) a5.2) λa7=>Obt (gV a6 false (ld1 a7.2 a7.1) a7.2) λa8=>Obt (gV a6 false (aw Try.prog .eql 54 (.tmp 50) (.const (.int .i64 2)) a8.1 (.int .i64 2)) a8.2) λa9=>Obt (gW a6 false a9.1 a9.2) λa10=>Obt (gW a10.1 true (ac L 8) a10.2) λa11=>Obt (gV a10.1 true (cun .not a11.1) a11.2) λa12=>Obt (gW a10.1 true a12.1 a12.2) λa13=>Obt (gV a13.1 false (aA 5 (ac L 6)) a13.2) λa14=>Obt (gV a13.1 false (ld1 a14.2 a14.1) a14.2) λa15=>Obt (gV a13.1 false (aA 6 (ac L 6)) a15.2) λa16=>Obt (gV a13.1 false (ld1 a16.2 a16.1) a16.2) λa17=>Obt (gV a13.1 false (aw Try.prog .eql 3 (.tmp 57) (.tmp 59) a15.1 a17.1) a17.2) λa18=>Obt (gV a10.1 true (aT a13.1 (.bool true) a18.1) a18.2) λa19=>Obt (gV a6 false (aT a10.1 a19.1 (.bool false)) a19.2) λa20=>Obt (aT a6 (.bool true) a20.1) λa21=>Q .normal ⟨tk L [0,3,4,6,25,26,27] [(63,a21)],a20.2⟩):Rg F 60 [0,3,4,6,25,26,27,63] (R60 7) L m Q:=Tq h
theorem wC (h:Obt ((bg [.int .i64 0,.int .i64 0] [(0,1,(ac L 4)),(1,1,(.int .i64 1))]).map CV.agg) λa0=>Obt (iB a0 m) λa1=>Q .normal ⟨[(2,(.iface 152 a1.1))],a1.2⟩):Rg F 60 [2] (R60 8) L m Q:=Tq h
theorem t60r9 (h:Obt (ldA 7 m (ac L 6)) λa0=>Obt (aB An F 60 (some 69) 87 [a0] m) λa1=>Obt (lenS a1.1) λa2=>Q .normal ⟨tk L [0,3,4,25,26,27] [(69,a1.1),(70,a2),(71,(.int .i64 0))],a1.2⟩):Rg F 60 [0,3,4,25,26,27,69,70,71] (R60 9) L m Q:=Tq h
theorem rf (h:Obt (aw Try.prog .lss 3 (.tmp 71) (.tmp 70) (ac L 71) (ac L 70)) λa0=>Q .normal ⟨tk L [0,3,4,25,26,27,69,70,71] [(72,a0)],m⟩):Rg F 60 [0,3,4,25,26,27,69,70,71,72] (R60 10) L m Q:=Tq h
theorem ux (h:Obt (bd 1 (ac L 69) (ac L 71)) λa0=>Obt (ld1 m a0) λa1=>Q .normal ⟨tk L [0,3,4] ((10,a1)::tk L [25,26,27,69,70,71] []),m⟩):Rg F 60 [0,3,4,10,25,26,27,69,70,71] (R60 11) L m Q:=Tq h
theorem uy (h:Obt (aw Try.prog .lss 3 (.tmp 75) (.const (.int .i64 0)) (ac L 10) (.int .i64 0)) λa0=>Obt (gW a0 false (ac L 10) m) λa1=>Obt (gW a0 false (ac L 3) a1.2) λa2=>Obt (gV a0 false (lenS a2.1) a2.2) λa3=>Obt (gV a0 false (aw Try.prog .geq 3 (.tmp 78) (.tmp 80) a1.1 a3.1) a3.2) λa4=>Obt (aT a0 (.bool true) a4.1) λa5=>Q .normal ⟨tk L [0,3,4,10,25,26,27,69,70,71] [(82,a5)],a4.2⟩):Rg F 60 [0,3,4,10,25,26,27,69,70,71,82] (R60 12) L m Q:=Tq h
theorem Fi (h:Obt ((bg [.int .i64 0,.int .i64 0] [(0,1,(ac L 4)),(1,1,(.int .i64 1))]).map CV.agg) λa0=>Obt (iB a0 m) λa1=>Q .normal ⟨[(2,(.iface 152 a1.1))],a1.2⟩):Rg F 60 [2] (R60 13) L m Q:=Tq h
theorem t60r14 (h:Obt (bd 1 (ac L 3) (ac L 10)) λa0=>Obt (ld1 m a0) λa1=>Obt (be false 1504 1 1 [.int .i64 0] [(0,1,(ac L 4))] m) λa2=>Obt (ej true 1520 1 8 a1 a2.1 a2.2) λa3=>Obt (bd 1 (ac L 3) (ac L 10)) λa4=>Obt (stX 1 a3.2 a4 a3.1) λa5=>Q .normal ⟨tk L [0,3,4,25,26,27,69,70,71] [],a5⟩):Rg F 60 [0,3,4,25,26,27,69,70,71] (R60 14) L m Q:=Tq h
theorem t60r15 (h:Obt (aw Try.prog .add 3 (.tmp 71) (.const (.int .i64 1)) (ac L 71) (.int .i64 1)) λa0=>Q .normal ⟨tk L [0,3,4,25,26,27,69,70] [(71,a0)],m⟩):Rg F 60 [0,3,4,25,26,27,69,70,71] (R60 15) L m Q:=Tq h
theorem t60r16 (h:Obt (aw Try.prog .add 3 (.tmp 27) (.const (.int .i64 1)) (ac L 27) (.int .i64 1)) λa0=>Q .normal ⟨tk L [0,3,25,26] [(27,a0)],m⟩):Rg F 60 [0,3,25,26,27] (R60 16) L m Q:=Tq h
theorem t60r17 (h:Obt (b7 (ac L 0)) λa0=>Obt (aA 0 a0) λa1=>Obt (ldA 2 m a1) λa2=>Obt (aB An F 60 (some 103) 66 [a2] m) λa3=>Obt (aB An F 60 (some 104) 84 [a3.1] a3.2) λa4=>Q .normal ⟨tk L [0,3] [(11,a4.1)],a4.2⟩):Rg F 60 [0,3,11] (R60 17) L m Q:=Tq h
theorem t60r18 (h:Obt (b7 (ac L 0)) λa0=>Obt (aA 0 a0) λa1=>Obt (aA 0 a1) λa2=>Obt (ld1 m a2) λa3=>Obt (lenS a3) λa4=>Q .normal ⟨tk L [3,11] [(109,a3),(110,a4),(111,(.int .i64 0))],m⟩):Rg F 60 [3,11,109,110,111] (R60 18) L m Q:=Tq h
theorem lQ (h:Obt (aw Try.prog .lss 3 (.tmp 111) (.tmp 110) (ac L 111) (ac L 110)) λa0=>Q .normal ⟨tk L [3,11,109,110,111] [(112,a0)],m⟩):Rg F 60 [3,11,109,110,111,112] (R60 19) L m Q:=Tq h
theorem oK (h:Obt (bd 10 (ac L 109) (ac L 111)) λa0=>Obt (ldA 10 m a0) λa1=>Obt (stX 10 (bw m 208 [.nil,.nil,.nil,.int .i64 0,.int .i64 0,.bool false,.int .i64 0,.int .i64 0,.int .i64 0,.int .i64 0]) (bo m 208) a1) λa2=>Q .normal ⟨tk L [3,11] ((12,(ac L 111))::(13,(bo m 208))::tk L [109,110,111] []),a2⟩):Rg F 60 [3,11,12,13,109,110,111] (R60 20) L m Q:=Tq h
theorem oL (h:Obt (bd 1 (ac L 11) (ac L 12)) λa0=>Obt (ld1 m a0) λa1=>Obt (cun .not a1) λa2=>Obt (gW a2 false (ac L 3) m) λa3=>Obt (gW a2 false (ac L 12) a3.2) λa4=>Obt (gV a2 false (bd 1 a3.1 a4.1) a4.2) λa5=>Obt (gV a2 false (ld1 a5.2 a5.1) a5.2) λa6=>Obt (gV a2 false (aA 0 (ac L 13)) a6.2) λa7=>Obt (gV a2 false (ld1 a7.2 a7.1) a7.2) λa8=>Obt (gdO a2 false (aB An F 60 (some 128) 88 [a6.1,a8.1] a8.2) (.tuple [],a8.2)) λa9=>Obt (gV a2 false (cun .not a9.1) a9.2) λa10=>Obt (aT a2 (.bool true) a10.1) λa11=>Obt (gW a11 false (ac L 12) a10.2) λa12=>Obt (gV a11 false (aw Try.prog .eql 3 (.tmp 132) (.const (.int .i64 0)) a12.1 (.int .i64 0)) a12.2) λa13=>Obt (gW a11 false a13.1 a13.2) λa14=>Obt (gV a14.1 true (aA 0 (ac L 13)) a14.2) λa15=>Obt (gV a14.1 true (ld1 a15.2 a15.1) a15.2) λa16=>Obt (gV a14.1 true (lenS a16.1) a16.2) λa17=>Obt (gV a14.1 true (aw Try.prog .gtr 3 (.tmp 137) (.const (.int .i64 0)) a17.1 (.int .i64 0)) a17.2) λa18=>Obt (gV a11 false (aT a14.1 a18.1 (.bool false)) a18.2) λa19=>Obt (aT a11 (.bool true) a19.1) λa20=>Q .normal ⟨tk L [3,11,12,109,110,111] [(140,a20)],a19.2⟩):Rt F 60 [3,11,12,109,110,111,140] (R60 21) L m Q:=Tq h
theorem uz (h:Obt ((bg [.int .i64 0,.int .i64 0] [(0,1,(ac L 12)),(1,1,(.int .i64 1))]).map CV.agg) λa0=>Obt (iB a0 m) λa1=>Q .normal ⟨[(2,(.iface 152 a1.1))],a1.2⟩):Rg F 60 [2] (R60 22) L m Q:=Tq h
theorem Fj (h:Obt (aw Try.prog .add 3 (.tmp 111) (.const (.int .i64 1)) (ac L 111) (.int .i64 1)) λa0=>Q .normal ⟨tk L [3,11,109,110] [(111,a0)],m⟩):Rg F 60 [3,11,109,110,111] (R60 23) L m Q:=Tq h
theorem t60r24 (h:Q .normal ⟨[(2,.inil)],m⟩):Rg F 60 [2] (R60 24) L m Q:=Tq h
abbrev R61:=rg 61 Try.f61
def c61l0:SC:=
 (.seq (.reg false (some [0,23,24,25]) (R61 3)) (.seq (.cond (.tmp 25) .nop (.exit 0)) (.seq (.block 1 (.seq (.reg false (some [0,3,23,24]) (R61 4)) (.reg false (some [0,23,24]) (R61 5)))) (.reg false (some [0,23,24]) (R61 6)))))
def c61l1:SC:=
 (.seq (.reg false (some [0,4,5,39,40,41,47,48,49,50]) (R61 11)) (.seq (.cond (.tmp 50) .nop (.exit 4)) (.seq (.block 5 (.seq (.reg false (some [0,4,5,7,39,40,41,47,48,49]) (R61 12)) (.seq (.reg false (some [0,4,5,39,40,41,47,48,49,59]) (R61 13)) (.cond (.tmp 59) (.seq (.reg false (some [2]) (R61 14)) .ret) .nop)))) (.reg false (some [0,4,5,39,40,41,47,48,49]) (R61 15)))))
def c61l2:SC:=
 (.seq (.reg false (some [0,4,39,40,41,66,67,68,69]) (R61 17)) (.seq (.cond (.tmp 69) .nop (.exit 6)) (.seq (.block 7 (.seq (.reg false (some [0,4,8,9,39,40,41,66,67,68]) (R61 18)) (.seq (.reg false (some [0,4,39,40,41,66,67,68,91]) (R61 19)) (.cond (.tmp 91) (.seq (.reg false (some [2]) (R61 20)) .ret) .nop)))) (.reg false (some [0,4,39,40,41,66,67,68]) (R61 21)))))
def c61l3:SC:=
 (.seq (.reg false (some [0,39,40,41,42]) (R61 8)) (.seq (.cond (.tmp 42) .nop (.exit 2)) (.seq (.block 3 (.seq (.reg false (some [0,4,5,39,40,41]) (R61 9)) (.seq (.seq (.reg false (some [0,4,5,39,40,41,47,48,49]) (R61 10)) (.block 4 (.loop c61l1))) (.seq (.reg false (some [0,4,39,40,41,66,67,68]) (R61 16)) (.block 6 (.loop c61l2)))))) (.reg false (some [0,39,40,41]) (R61 22)))))
def c61:SC:=
 (.seq (.reg false (some [0]) (R61 0)) (.seq (.reg false (some [0]) (R61 1)) (.seq (.seq (.reg false (some [0,23,24]) (R61 2)) (.block 0 (.loop c61l0))) (.seq (.seq (.reg false (some [0,39,40,41]) (R61 7)) (.block 2 (.loop c61l3))) (.seq (.reg false (some [2]) (R61 23)) .ret)))))
theorem s61:Try.f61.body.bind (bh Try.prog An 61 Try.f61.ntmps)=some c61:=by kernel_rfl
theorem g61:An.glob 61=[16,62,94]:=rfl
theorem r61:Try.f61.results.toList=[(.tmp 2)]:=by kernel_rfl
theorem t61r0 (h:Q .normal ⟨tk L [0] [],m⟩):Rg F 61 [0] (R61 0) L m Q:=Tq h
theorem t61r1 (h:Obt (b7 (ac L 0)) λa0=>Obt (aA 0 a0) λa1=>Obt (aA 1 a1) λa2=>Obt (ld1 m a2) λa3=>Obt (mkX true 256 2 16 [.int .i64 0,.int .i64 0] a3 a3 m) λa4=>Obt (b7 (ac L 0)) λa5=>Obt (aA 2 a5) λa6=>Obt (stX 1 a4.2 a6 a4.1) λa7=>Q .normal ⟨tk L [0] [],a7⟩):Rg F 61 [0] (R61 1) L m Q:=Tq h
theorem t61r2 (h:Obt (b7 (ac L 0)) λa0=>Obt (aA 2 a0) λa1=>Obt (ld1 m a1) λa2=>Obt (lenS a2) λa3=>Q .normal ⟨tk L [0] [(23,a3),(24,(.int .i64 0))],m⟩):Rg F 61 [0,23,24] (R61 2) L m Q:=Tq h
theorem t61r3 (h:Obt (aw Try.prog .lss 3 (.tmp 24) (.tmp 23) (ac L 24) (ac L 23)) λa0=>Q .normal ⟨tk L [0,23,24] [(25,a0)],m⟩):Rg F 61 [0,23,24,25] (R61 3) L m Q:=Tq h
theorem t61r4 (h:Q .normal ⟨tk L [0] ((3,(ac L 24))::tk L [23,24] []),m⟩):Rg F 61 [0,3,23,24] (R61 4) L m Q:=Tq h
theorem t61r5 (h:Obt (b7 (ac L 0)) λa0=>Obt (aA 2 a0) λa1=>Obt (ld1 m a1) λa2=>Obt (bd 2 a2 (ac L 3)) λa3=>Obt (aA 0 a3) λa4=>Obt (stX 1 m a4 (.int .i64 (-1))) λa5=>Q .normal ⟨tk L [0,23,24] [],a5⟩):Rg F 61 [0,23,24] (R61 5) L m Q:=Tq h
theorem t61r6 (h:Obt (aw Try.prog .add 3 (.tmp 24) (.const (.int .i64 1)) (ac L 24) (.int .i64 1)) λa0=>Q .normal ⟨tk L [0,23] [(24,a0)],m⟩):Rg F 61 [0,23,24] (R61 6) L m Q:=Tq h
theorem t61r7 (h:Obt (b7 (ac L 0)) λa0=>Obt (aA 0 a0) λa1=>Obt (aA 0 a1) λa2=>Obt (ld1 m a2) λa3=>Obt (lenS a3) λa4=>Q .normal ⟨tk L [0] [(39,a3),(40,a4),(41,(.int .i64 0))],m⟩):Rg F 61 [0,39,40,41] (R61 7) L m Q:=Tq h
theorem t61r8 (h:Obt (aw Try.prog .lss 3 (.tmp 41) (.tmp 40) (ac L 41) (ac L 40)) λa0=>Q .normal ⟨tk L [0,39,40,41] [(42,a0)],m⟩):Rg F 61 [0,39,40,41,42] (R61 8) L m Q:=Tq h
theorem t61r9 (h:Obt (bd 10 (ac L 39) (ac L 41)) λa0=>Obt (ldA 10 m a0) λa1=>Obt (stX 10 (bw m 80 [.nil,.nil,.nil,.int .i64 0,.int .i64 0,.bool false,.int .i64 0,.int .i64 0,.int .i64 0,.int .i64 0]) (bo m 80) a1) λa2=>Q .normal ⟨tk L [0] ((4,(ac L 41))::(5,(bo m 80))::tk L [39,40,41] []),a2⟩):Rg F 61 [0,4,5,39,40,41] (R61 9) L m Q:=Tq h
theorem t61r10 (h:Obt (aA 1 (ac L 5)) λa0=>Obt (ld1 m a0) λa1=>Obt (lenS a1) λa2=>Q .normal ⟨tk L [0,4,5,39,40,41] [(47,a1),(48,a2),(49,(.int .i64 0))],m⟩):Rg F 61 [0,4,5,39,40,41,47,48,49] (R61 10) L m Q:=Tq h
theorem uA (h:Obt (aw Try.prog .lss 3 (.tmp 49) (.tmp 48) (ac L 49) (ac L 48)) λa0=>Q .normal ⟨tk L [0,4,5,39,40,41,47,48,49] [(50,a0)],m⟩):Rg F 61 [0,4,5,39,40,41,47,48,49,50] (R61 11) L m Q:=Tq h
theorem Fk (h:Obt (bd 2 (ac L 47) (ac L 49)) λa0=>Obt (ldA 2 m a0) λa1=>Obt (stX 2 (bw m 112 [.int .i64 0,.nil]) (bo m 112) a1) λa2=>Q .normal ⟨tk L [0,4,5] ((7,(bo m 112))::tk L [39,40,41,47,48,49] []),a2⟩):Rg F 61 [0,4,5,7,39,40,41,47,48,49] (R61 12) L m Q:=Tq h
theorem Fl (h:Obt (aA 0 (ac L 7)) λa0=>Obt (ld1 m a0) λa1=>Obt ((bg [.int .i64 0,.int .i64 0] [(0,1,(ac L 4)),(1,1,(.int .i64 0))]).map CV.agg) λa2=>Obt (aB An F 61 (some 58) 89 [(ac L 0),a1,a2] m) λa3=>Obt (cun .not a3.1) λa4=>Q .normal ⟨tk L [0,4,5,39,40,41,47,48,49] [(59,a4)],a3.2⟩):Rg F 61 [0,4,5,39,40,41,47,48,49,59] (R61 13) L m Q:=Tq h
theorem t61r14 (h:Obt ((bg [.int .i64 0,.int .i64 0] [(0,1,(ac L 4)),(1,1,(.int .i64 2))]).map CV.agg) λa0=>Obt (iB a0 m) λa1=>Q .normal ⟨[(2,(.iface 152 a1.1))],a1.2⟩):Rg F 61 [2] (R61 14) L m Q:=Tq h
theorem t61r15 (h:Obt (aw Try.prog .add 3 (.tmp 49) (.const (.int .i64 1)) (ac L 49) (.int .i64 1)) λa0=>Q .normal ⟨tk L [0,4,5,39,40,41,47,48] [(49,a0)],m⟩):Rg F 61 [0,4,5,39,40,41,47,48,49] (R61 15) L m Q:=Tq h
theorem t61r16 (h:Obt (aA 2 (ac L 5)) λa0=>Obt (ld1 m a0) λa1=>Obt (lenS a1) λa2=>Q .normal ⟨tk L [0,4,39,40,41] [(66,a1),(67,a2),(68,(.int .i64 0))],m⟩):Rg F 61 [0,4,39,40,41,66,67,68] (R61 16) L m Q:=Tq h
theorem oM (h:Obt (aw Try.prog .lss 3 (.tmp 68) (.tmp 67) (ac L 68) (ac L 67)) λa0=>Q .normal ⟨tk L [0,4,39,40,41,66,67,68] [(69,a0)],m⟩):Rg F 61 [0,4,39,40,41,66,67,68,69] (R61 17) L m Q:=Tq h
theorem rh (h:Obt (bd 12 (ac L 66) (ac L 68)) λa0=>Obt (ldA 12 m a0) λa1=>Obt (stX 12 (bw m 144 [.int .i64 0,.int .i64 0,.int .i64 0,.bool false,.int .i64 0,.int .i64 0,.int .u64 0,.int .i64 0,.int .i64 0,.bool false,.nil,.int .i64 0]) (bo m 144) a1) λa2=>Q .normal ⟨tk L [0,4] ((8,(ac L 68))::(9,(bo m 144))::tk L [39,40,41,66,67,68] []),a2⟩):Rg F 61 [0,4,8,9,39,40,41,66,67,68] (R61 18) L m Q:=Tq h
theorem ri (h:Obt (ldA 12 m (ac L 9)) λa0=>Obt (aB An F 61 (some 74) 90 [a0] m) λa1=>Obt (cun .not a1.1) λa2=>Obt (gV a2 false (aA 0 (ac L 9)) a1.2) λa3=>Obt (gV a2 false (ld1 a3.2 a3.1) a3.2) λa4=>Obt (gV a2 false (aw Try.prog .neq 64 (.tmp 78) (.const (.int .i64 6)) a4.1 (.int .i64 6)) a4.2) λa5=>Obt (gW a2 false a5.1 a5.2) λa6=>Obt (gW a6.1 true (ac L 0) a6.2) λa7=>Obt (gV a6.1 true (aA 1 (ac L 9)) a7.2) λa8=>Obt (gV a6.1 true (ld1 a8.2 a8.1) a8.2) λa9=>Obt (gW a6.1 true (ac L 4) a9.2) λa10=>Obt (gW a6.1 true (ac L 8) a10.2) λa11=>Obt (gV a6.1 true (aw Try.prog .add 3 (.tmp 85) (.const (.int .i64 1)) a11.1 (.int .i64 1)) a11.2) λa12=>Obt (gV a6.1 true ((bg [.int .i64 0,.int .i64 0] [(0,1,a10.1),(1,1,a12.1)]).map CV.agg) a12.2) λa13=>Obt (gdO a6.1 true (aB An F 61 (some 88) 89 [a7.1,a9.1,a13.1] a13.2) (.tuple [],a13.2)) λa14=>Obt (gV a6.1 true (cun .not a14.1) a14.2) λa15=>Obt (gV a2 false (aT a6.1 a15.1 (.bool false)) a15.2) λa16=>Obt (aT a2 (.bool true) a16.1) λa17=>Q .normal ⟨tk L [0,4,39,40,41,66,67,68] [(91,a17)],a16.2⟩):Rg F 61 [0,4,39,40,41,66,67,68,91] (R61 19) L m Q:=Tq h
theorem Fm (h:Obt ((bg [.int .i64 0,.int .i64 0] [(0,1,(ac L 4)),(1,1,(.int .i64 2))]).map CV.agg) λa0=>Obt (iB a0 m) λa1=>Q .normal ⟨[(2,(.iface 152 a1.1))],a1.2⟩):Rg F 61 [2] (R61 20) L m Q:=Tq h
theorem Fo (h:Obt (aw Try.prog .add 3 (.tmp 68) (.const (.int .i64 1)) (ac L 68) (.int .i64 1)) λa0=>Q .normal ⟨tk L [0,4,39,40,41,66,67] [(68,a0)],m⟩):Rg F 61 [0,4,39,40,41,66,67,68] (R61 21) L m Q:=Tq h
theorem t61r22 (h:Obt (aw Try.prog .add 3 (.tmp 41) (.const (.int .i64 1)) (ac L 41) (.int .i64 1)) λa0=>Q .normal ⟨tk L [0,39,40] [(41,a0)],m⟩):Rg F 61 [0,39,40,41] (R61 22) L m Q:=Tq h
theorem t61r23 (h:Q .normal ⟨[(2,.inil)],m⟩):Rg F 61 [2] (R61 23) L m Q:=Tq h
abbrev R62:=rg 62 Try.f62
def c62l0:SC:=
 (.seq (.reg false (some [0,3,4,5,25,26,27,36,37,38,52,53,54,55]) (R62 12)) (.seq (.cond (.tmp 55) .nop (.exit 4)) (.seq (.block 5 (.seq (.reg false (some [0,3,4,5,8,9,25,26,27,36,37,38,52,53,54]) (R62 13)) (.seq (.reg false (some [0,3,4,5,25,26,27,36,37,38,52,53,54,69]) (R62 14)) (.cond (.tmp 69) (.seq (.reg false (some [2]) (R62 15)) .ret) .nop)))) (.reg false (some [0,3,4,5,25,26,27,36,37,38,52,53,54]) (R62 16)))))
def c62l1:SC:=
 (.seq (.reg false (some [0,3,4,5,25,26,27,36,37,38,39]) (R62 7)) (.seq (.cond (.tmp 39) .nop (.exit 2)) (.seq (.block 3 (.seq (.reg false (some [0,3,4,5,7,25,26,27,36,37,38]) (R62 8)) (.seq (.seq (.reg false (some [0,3,4,5,7,25,26,27,36,37,38,48]) (R62 9)) (.cond (.tmp 48) (.seq (.reg false (some [2]) (R62 10)) .ret) .nop)) (.seq (.reg false (some [0,3,4,5,25,26,27,36,37,38,52,53,54]) (R62 11)) (.block 4 (.loop c62l0)))))) (.reg false (some [0,3,4,5,25,26,27,36,37,38]) (R62 17)))))
def c62l2:SC:=
 (.seq (.reg false (some [0,3,4,5,25,26,27,75,76,77,78]) (R62 19)) (.seq (.cond (.tmp 78) .nop (.exit 6)) (.seq (.block 7 (.seq (.reg false (some [0,3,4,5,10,11,25,26,27,75,76,77]) (R62 20)) (.seq (.reg false (some [0,3,4,5,25,26,27,75,76,77,90]) (R62 21)) (.cond (.tmp 90) (.seq (.reg false (some [2]) (R62 22)) .ret) .nop)))) (.reg false (some [0,3,4,5,25,26,27,75,76,77]) (R62 23)))))
def c62l3:SC:=
 (.seq (.reg false (some [0,25,26,27,28]) (R62 3)) (.seq (.cond (.tmp 28) .nop (.exit 0)) (.seq (.block 1 (.seq (.reg false (some [0,3,4,25,26,27]) (R62 4)) (.seq (.reg false (some [0,3,4,5,25,26,27]) (R62 5)) (.seq (.seq (.reg false (some [0,3,4,5,25,26,27,36,37,38]) (R62 6)) (.block 2 (.loop c62l1))) (.seq (.seq (.reg false (some [0,3,4,5,25,26,27,75,76,77]) (R62 18)) (.block 6 (.loop c62l2))) (.seq (.reg false (some [0,5,25,26,27,101]) (R62 24)) (.cond (.tmp 101) (.seq (.reg false (some [2]) (R62 25)) .ret) .nop))))))) (.reg false (some [0,25,26,27]) (R62 26)))))
def c62:SC:=
 (.seq (.reg false (some [0]) (R62 0)) (.seq (.reg false (some [0]) (R62 1)) (.seq (.seq (.reg false (some [0,25,26,27]) (R62 2)) (.block 0 (.loop c62l3))) (.seq (.reg false (some [2]) (R62 27)) .ret))))
theorem s62:Try.f62.body.bind (bh Try.prog An 62 Try.f62.ntmps)=some c62:=by kernel_rfl
theorem g62:An.glob 62=[34]:=rfl
theorem r62:Try.f62.results.toList=[(.tmp 2)]:=by kernel_rfl
theorem t62r0 (h:Q .normal ⟨tk L [0] [],m⟩):Rg F 62 [0] (R62 0) L m Q:=Tq h
theorem t62r1 (h:Obt (b7 (ac L 0)) λa0=>Obt (aA 0 a0) λa1=>Obt (ldA 2 m a1) λa2=>Obt (aB An F 62 (some 17) 66 [a2] m) λa3=>Obt (aB An F 62 (some 18) 91 [a3.1] a3.2) λa4=>Obt (b7 (ac L 0)) λa5=>Obt (aA 3 a5) λa6=>Obt (stX 1 a4.2 a6 a4.1) λa7=>Q .normal ⟨tk L [0] [],a7⟩):Rg F 62 [0] (R62 1) L m Q:=Tq h
theorem t62r2 (h:Obt (b7 (ac L 0)) λa0=>Obt (aA 0 a0) λa1=>Obt (aA 0 a1) λa2=>Obt (ld1 m a2) λa3=>Obt (lenS a3) λa4=>Q .normal ⟨tk L [0] [(25,a3),(26,a4),(27,(.int .i64 0))],m⟩):Rg F 62 [0,25,26,27] (R62 2) L m Q:=Tq h
theorem t62r3 (h:Obt (aw Try.prog .lss 3 (.tmp 27) (.tmp 26) (ac L 27) (ac L 26)) λa0=>Q .normal ⟨tk L [0,25,26,27] [(28,a0)],m⟩):Rg F 62 [0,25,26,27,28] (R62 3) L m Q:=Tq h
theorem t62r4 (h:Obt (bd 10 (ac L 25) (ac L 27)) λa0=>Obt (ldA 10 m a0) λa1=>Obt (stX 10 (bw m 64 [.nil,.nil,.nil,.int .i64 0,.int .i64 0,.bool false,.int .i64 0,.int .i64 0,.int .i64 0,.int .i64 0]) (bo m 64) a1) λa2=>Q .normal ⟨tk L [0] ((3,(ac L 27))::(4,(bo m 64))::tk L [25,26,27] []),a2⟩):Rg F 62 [0,3,4,25,26,27] (R62 4) L m Q:=Tq h
theorem t62r5 (h:Obt ((bg [.int .i64 0,.int .i64 0] [(0,1,(ac L 3)),(1,1,(.int .i64 3))]).map CV.agg) λa0=>Obt (iB a0 m) λa1=>Q .normal ⟨tk L [0,3,4] ((5,a1.1)::tk L [25,26,27] []),a1.2⟩):Rg F 62 [0,3,4,5,25,26,27] (R62 5) L m Q:=Tq h
theorem t62r6 (h:Obt (aA 1 (ac L 4)) λa0=>Obt (ld1 m a0) λa1=>Obt (lenS a1) λa2=>Q .normal ⟨tk L [0,3,4,5,25,26,27] [(36,a1),(37,a2),(38,(.int .i64 0))],m⟩):Rg F 62 [0,3,4,5,25,26,27,36,37,38] (R62 6) L m Q:=Tq h
theorem Fr (h:Obt (aw Try.prog .lss 3 (.tmp 38) (.tmp 37) (ac L 38) (ac L 37)) λa0=>Q .normal ⟨tk L [0,3,4,5,25,26,27,36,37,38] [(39,a0)],m⟩):Rg F 62 [0,3,4,5,25,26,27,36,37,38,39] (R62 7) L m Q:=Tq h
theorem t62r8 (h:Obt (bd 2 (ac L 36) (ac L 38)) λa0=>Obt (ldA 2 m a0) λa1=>Obt (stX 2 (bw m 112 [.int .i64 0,.nil]) (bo m 112) a1) λa2=>Q .normal ⟨tk L [0,3,4,5] ((7,(bo m 112))::tk L [25,26,27,36,37,38] []),a2⟩):Rg F 62 [0,3,4,5,7,25,26,27,36,37,38] (R62 8) L m Q:=Tq h
theorem t62r9 (h:Obt (aA 1 (ac L 7)) λa0=>Obt (ld1 m a0) λa1=>Obt (lenS a1) λa2=>Obt (aA 0 (ac L 4)) λa3=>Obt (ld1 m a3) λa4=>Obt (lenS a4) λa5=>Obt (aw Try.prog .neq 3 (.tmp 44) (.tmp 47) a2 a5) λa6=>Q .normal ⟨tk L [0,3,4,5,7,25,26,27,36,37,38] [(48,a6)],m⟩):Rg F 62 [0,3,4,5,7,25,26,27,36,37,38,48] (R62 9) L m Q:=Tq h
theorem t62r10 (h:Q .normal ⟨[(2,(.iface 152 (ac L 5)))],m⟩):Rg F 62 [2] (R62 10) L m Q:=Tq h
theorem t62r11 (h:Obt (aA 1 (ac L 7)) λa0=>Obt (ld1 m a0) λa1=>Obt (lenS a1) λa2=>Q .normal ⟨tk L [0,3,4,5,25,26,27,36,37,38] [(52,a1),(53,a2),(54,(.int .i64 0))],m⟩):Rg F 62 [0,3,4,5,25,26,27,36,37,38,52,53,54] (R62 11) L m Q:=Tq h
theorem Fp (h:Obt (aw Try.prog .lss 3 (.tmp 54) (.tmp 53) (ac L 54) (ac L 53)) λa0=>Q .normal ⟨tk L [0,3,4,5,25,26,27,36,37,38,52,53,54] [(55,a0)],m⟩):Rg F 62 [0,3,4,5,25,26,27,36,37,38,52,53,54,55] (R62 12) L m Q:=Tq h
theorem t62r13 (h:Obt (bd 1 (ac L 52) (ac L 54)) λa0=>Obt (ld1 m a0) λa1=>Q .normal ⟨tk L [0,3,4,5] ((8,(ac L 54))::(9,a1)::tk L [25,26,27,36,37,38,52,53,54] []),m⟩):Rg F 62 [0,3,4,5,8,9,25,26,27,36,37,38,52,53,54] (R62 13) L m Q:=Tq h
theorem t62r14 (h:Obt (aA 0 (ac L 4)) λa0=>Obt (ld1 m a0) λa1=>Obt (bd 1 a1 (ac L 8)) λa2=>Obt (ld1 m a2) λa3=>Obt ((bg [.int .i64 0,.int .i64 0] [(0,1,a3),(1,1,(.int .i64 1073741824))]).map CV.agg) λa4=>Obt (be false 1072 1 1 [.int .i64 0] [(0,1,(ac L 9))] m) λa5=>Obt (aB An F 62 (some 68) 92 [(ac L 0),a4,a5.1] a5.2) λa6=>Obt (cun .not a6.1) λa7=>Q .normal ⟨tk L [0,3,4,5,25,26,27,36,37,38,52,53,54] [(69,a7)],a6.2⟩):Rg F 62 [0,3,4,5,25,26,27,36,37,38,52,53,54,69] (R62 14) L m Q:=Tq h
theorem t62r15 (h:Q .normal ⟨[(2,(.iface 152 (ac L 5)))],m⟩):Rg F 62 [2] (R62 15) L m Q:=Tq h
theorem t62r16 (h:Obt (aw Try.prog .add 3 (.tmp 54) (.const (.int .i64 1)) (ac L 54) (.int .i64 1)) λa0=>Q .normal ⟨tk L [0,3,4,5,25,26,27,36,37,38,52,53] [(54,a0)],m⟩):Rg F 62 [0,3,4,5,25,26,27,36,37,38,52,53,54] (R62 16) L m Q:=Tq h
theorem t62r17 (h:Obt (aw Try.prog .add 3 (.tmp 38) (.const (.int .i64 1)) (ac L 38) (.int .i64 1)) λa0=>Q .normal ⟨tk L [0,3,4,5,25,26,27,36,37] [(38,a0)],m⟩):Rg F 62 [0,3,4,5,25,26,27,36,37,38] (R62 17) L m Q:=Tq h
theorem t62r18 (h:Obt (aA 2 (ac L 4)) λa0=>Obt (ld1 m a0) λa1=>Obt (lenS a1) λa2=>Q .normal ⟨tk L [0,3,4,5,25,26,27] [(75,a1),(76,a2),(77,(.int .i64 0))],m⟩):Rg F 62 [0,3,4,5,25,26,27,75,76,77] (R62 18) L m Q:=Tq h
theorem Fq (h:Obt (aw Try.prog .lss 3 (.tmp 77) (.tmp 76) (ac L 77) (ac L 76)) λa0=>Q .normal ⟨tk L [0,3,4,5,25,26,27,75,76,77] [(78,a0)],m⟩):Rg F 62 [0,3,4,5,25,26,27,75,76,77,78] (R62 19) L m Q:=Tq h
theorem t62r20 (h:Obt (bd 12 (ac L 75) (ac L 77)) λa0=>Obt (ldA 12 m a0) λa1=>Obt (stX 12 (bw m 176 [.int .i64 0,.int .i64 0,.int .i64 0,.bool false,.int .i64 0,.int .i64 0,.int .u64 0,.int .i64 0,.int .i64 0,.bool false,.nil,.int .i64 0]) (bo m 176) a1) λa2=>Q .normal ⟨tk L [0,3,4,5] ((10,(ac L 77))::(11,(bo m 176))::tk L [25,26,27,75,76,77] []),a2⟩):Rg F 62 [0,3,4,5,10,11,25,26,27,75,76,77] (R62 20) L m Q:=Tq h
theorem t62r21 (h:Obt (aw Try.prog .add 3 (.tmp 84) (.const (.int .i64 1)) (ac L 10) (.int .i64 1)) λa0=>Obt ((bg [.int .i64 0,.int .i64 0] [(0,1,(ac L 3)),(1,1,a0)]).map CV.agg) λa1=>Obt (ldA 12 m (ac L 11)) λa2=>Obt (aB An F 62 (some 88) 79 [a2] m) λa3=>Obt (aB An F 62 (some 89) 92 [(ac L 0),a1,a3.1] a3.2) λa4=>Obt (cun .not a4.1) λa5=>Q .normal ⟨tk L [0,3,4,5,25,26,27,75,76,77] [(90,a5)],a4.2⟩):Rg F 62 [0,3,4,5,25,26,27,75,76,77,90] (R62 21) L m Q:=Tq h
theorem t62r22 (h:Q .normal ⟨[(2,(.iface 152 (ac L 5)))],m⟩):Rg F 62 [2] (R62 22) L m Q:=Tq h
theorem t62r23 (h:Obt (aw Try.prog .add 3 (.tmp 77) (.const (.int .i64 1)) (ac L 77) (.int .i64 1)) λa0=>Q .normal ⟨tk L [0,3,4,5,25,26,27,75,76] [(77,a0)],m⟩):Rg F 62 [0,3,4,5,25,26,27,75,76,77] (R62 23) L m Q:=Tq h
theorem t62r24 (h:Obt ((bg [.int .i64 0,.int .i64 0] [(0,1,(ac L 3)),(1,1,(.int .i64 1073741824))]).map CV.agg) λa0=>Obt (aA 3 (ac L 4)) λa1=>Obt (ldA 7 m a1) λa2=>Obt (aB An F 62 (some 99) 93 [a2] m) λa3=>Obt (aB An F 62 (some 100) 92 [(ac L 0),a0,a3.1] a3.2) λa4=>Obt (cun .not a4.1) λa5=>Q .normal ⟨tk L [0,5,25,26,27] [(101,a5)],a4.2⟩):Rg F 62 [0,5,25,26,27,101] (R62 24) L m Q:=Tq h
theorem t62r25 (h:Q .normal ⟨[(2,(.iface 152 (ac L 5)))],m⟩):Rg F 62 [2] (R62 25) L m Q:=Tq h
theorem t62r26 (h:Obt (aw Try.prog .add 3 (.tmp 27) (.const (.int .i64 1)) (ac L 27) (.int .i64 1)) λa0=>Q .normal ⟨tk L [0,25,26] [(27,a0)],m⟩):Rg F 62 [0,25,26,27] (R62 26) L m Q:=Tq h
theorem t62r27 (h:Q .normal ⟨[(2,.inil)],m⟩):Rg F 62 [2] (R62 27) L m Q:=Tq h
abbrev R36:=rg 36 Try.f36
def c36l0:SC:=
 (.seq (.reg false (some [36,37,38,39]) (R36 5)) (.seq (.cond (.tmp 39) .nop (.exit 0)) (.seq (.block 1 (.seq (.reg false (some [5,36,37,38]) (R36 6)) (.seq (.reg false (some [6,36,37,38]) (R36 7)) (.seq (.reg false (some [36,37,38,56]) (R36 8)) (.cond (.tmp 56) (.seq (.reg false (some [2]) (R36 9)) .ret) .nop))))) (.reg false (some [36,37,38]) (R36 10)))))
def c36:SC:=
 (.seq (.reg false (some [1]) (R36 0)) (.seq (.seq (.reg false (some [1,26]) (R36 1)) (.cond (.tmp 26) (.seq (.reg false (some [2]) (R36 2)) .ret) .nop)) (.seq (.reg false (some [3]) (R36 3)) (.seq (.seq (.reg false (some [36,37,38]) (R36 4)) (.block 0 (.loop c36l0))) (.seq (.reg false (some [2]) (R36 11)) .ret)))))
theorem s36:Try.f36.body.bind (bh Try.prog An 36 Try.f36.ntmps)=some c36:=by kernel_rfl
theorem g36:An.glob 36=[29]:=rfl
theorem r36:Try.f36.results.toList=[(.tmp 2)]:=by kernel_rfl
theorem sS (h:Obt (ap (ac L 0)) λa0=>Q .normal ⟨[(1,(bo m 16))],(bw m 16 a0)⟩):Rg F 36 [1] (R36 0) L m Q:=Tq h
theorem sT (h:Obt (aA 0 (ac L 1)) λa0=>Obt (ld1 m a0) λa1=>Obt (lenS a1) λa2=>Obt (aw Try.prog .lss 3 (.tmp 9) (.const (.int .i64 1)) a2 (.int .i64 1)) λa3=>Obt (gV a3 false (aA 0 (ac L 1)) m) λa4=>Obt (gV a3 false (ld1 a4.2 a4.1) a4.2) λa5=>Obt (gV a3 false (lenS a5.1) a5.2) λa6=>Obt (gV a3 false (aw Try.prog .gtr 3 (.tmp 14) (.const (.int .i64 8192)) a6.1 (.int .i64 8192)) a6.2) λa7=>Obt (aT a3 (.bool true) a7.1) λa8=>Obt (gV a8 false (aA 1 (ac L 1)) a7.2) λa9=>Obt (gV a8 false (ld1 a9.2 a9.1) a9.2) λa10=>Obt (gV a8 false (aw Try.prog .lss 3 (.tmp 19) (.const (.int .i64 0)) a10.1 (.int .i64 0)) a10.2) λa11=>Obt (aT a8 (.bool true) a11.1) λa12=>Obt (gV a12 false (aA 1 (ac L 1)) a11.2) λa13=>Obt (gV a12 false (ld1 a13.2 a13.1) a13.2) λa14=>Obt (gV a12 false (aw Try.prog .gtr 3 (.tmp 24) (.const (.int .i64 65536)) a14.1 (.int .i64 65536)) a14.2) λa15=>Obt (aT a12 (.bool true) a15.1) λa16=>Q .normal ⟨tk L [1] [(26,a16)],a15.2⟩):Rg F 36 [1,26] (R36 1) L m Q:=Tq h
theorem wr (h:Q .normal ⟨[(2,(.int .i64 160))],m⟩):Rg F 36 [2] (R36 2) L m Q:=Tq h
theorem t36r3 (h:Obt (ldA 2 m (ac L 1)) λa0=>Obt ((bg [.nil,.int .i64 0,.nil,.nil] [(0,2,a0)]).map CV.agg) λa1=>Obt (iB a1 m) λa2=>Q .normal ⟨[(3,a2.1)],a2.2⟩):Rg F 36 [3] (R36 3) L m Q:=Tq h
theorem t36r4 (h:Obt (be false 576 1 3 [.nilf,.nilf,.nilf] [(0,1,(.func (.func 60) [(ac L 3)] [])),(1,1,(.func (.func 61) [(ac L 3)] [])),(2,1,(.func (.func 62) [(ac L 3)] []))] m) λa0=>Obt (lenS a0.1) λa1=>Q .normal ⟨[(36,a0.1),(37,a1),(38,(.int .i64 0))],a0.2⟩):Rg F 36 [36,37,38] (R36 4) L m Q:=Tq h
theorem sU (h:Obt (aw Try.prog .lss 3 (.tmp 38) (.tmp 37) (ac L 38) (ac L 37)) λa0=>Q .normal ⟨tk L [36,37,38] [(39,a0)],m⟩):Rg F 36 [36,37,38,39] (R36 5) L m Q:=Tq h
theorem ws (h:Obt (bd 1 (ac L 36) (ac L 38)) λa0=>Obt (ld1 m a0) λa1=>Q .normal ⟨(5,a1)::tk L [36,37,38] [],m⟩):Rg F 36 [5,36,37,38] (R36 6) L m Q:=Tq h
theorem wt (h:Obt (dx An F 36 (some 43) (ac L 5) [] m) λa0=>Q .normal ⟨(6,a0.1)::tk L [36,37,38] [],a0.2⟩):Rg F 36 [6,36,37,38] (R36 7) L m Q:=Tq h
theorem wu (h:Obt (aB An F 36 (some 46) 63 [(ac L 6),(.iface 127 (.int .i64 1))] m) λa0=>Obt (gW a0.1 false (ac L 6) a0.2) λa1=>Obt (gW a0.1 false (.iface 127 (.int .i64 2)) a1.2) λa2=>Obt (gdO a0.1 false (aB An F 36 (some 50) 63 [a1.1,a2.1] a2.2) (.tuple [],a2.2)) λa3=>Obt (aT a0.1 (.bool true) a3.1) λa4=>Obt (gW a4 false (ac L 6) a3.2) λa5=>Obt (gW a4 false (.iface 127 (.int .i64 3)) a5.2) λa6=>Obt (gdO a4 false (aB An F 36 (some 55) 63 [a5.1,a6.1] a6.2) (.tuple [],a6.2)) λa7=>Obt (aT a4 (.bool true) a7.1) λa8=>Q .normal ⟨tk L [36,37,38] [(56,a8)],a7.2⟩):Rg F 36 [36,37,38,56] (R36 8) L m Q:=Tq h
theorem ET (h:Q .normal ⟨[(2,(.int .i64 160))],m⟩):Rg F 36 [2] (R36 9) L m Q:=Tq h
theorem t36r10 (h:Obt (aw Try.prog .add 3 (.tmp 38) (.const (.int .i64 1)) (ac L 38) (.int .i64 1)) λa0=>Q .normal ⟨tk L [36,37] [(38,a0)],m⟩):Rg F 36 [36,37,38] (R36 10) L m Q:=Tq h
theorem t36r11 (h:Q .normal ⟨[(2,(.int .i64 0))],m⟩):Rg F 36 [2] (R36 11) L m Q:=Tq h
abbrev JI:=rg 106 Try.f106
def c106:SC:=
 (.seq (.reg false (some [0]) (JI 0)) (.seq (.seq (.reg false (some [0,4]) (JI 1)) (.cond (.tmp 4) (.seq (.reg false (some [2]) (JI 2)) .ret) .nop)) (.seq (.reg false (some [2]) (JI 3)) .ret)))
theorem s106:Try.f106.body.bind (bh Try.prog An 106 Try.f106.ntmps)=some c106:=by kernel_rfl
theorem g106:An.glob 106=[]:=rfl
theorem r106:Try.f106.results.toList=[(.tmp 2)]:=by kernel_rfl
theorem t106r0 (h:Q .normal ⟨tk L [0] [],m⟩):Rg F 106 [0] (JI 0) L m Q:=Tq h
theorem t106r1 (h:Obt (aw Try.prog .eql 51 (.tmp 3) (.const (.slice none 0 0)) (ac L 0) .nil) λa0=>Q .normal ⟨tk L [0] [(4,a0)],m⟩):Rg F 106 [0,4] (JI 1) L m Q:=Tq h
theorem t106r3 (h:Obt (be false 80 1 0 [] [] m) λa0=>Obt (ej false 112 1 8 a0.1 (ac L 0) a0.2) λa1=>Q .normal ⟨[(2,a1.1)],a1.2⟩):Rg F 106 [2] (JI 3) L m Q:=Tq h
end
end Go.Cm
