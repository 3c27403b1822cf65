/- Part SF of the proof. What is proved by the whole: the statement that the claim names, with no condition. -/
import Derived.Test.YtfbonmbkmbofaaaGreatDoorSE
import Derived.Test.YtfbonmbkmbofaaaGreatDoorChecked
set_option linter.all false
section
namespace Go.Vm
def look {α:Type}(d:α):List (Nat × α)->Nat->α
 | [],_=>d
 |(k,x)::r,n=>match Nat.beq k n with
  |true=>x
  |false=>look d r n
def loopTab:List (Nat × List (Nat × LAn)):=[(7,[(0,{ slots:=[(5,none),(7,none),(8,none),(26,none),(27,none),(28,none)],own:=[(1000,7,32)] })]),
 (8,[(0,{ slots:=[(4,none),(5,none),(7,none),(8,none),(9,none)] })]),
 (9,[(0,{ slots:=[(0,none),(1,none),(5,none)] })]),
 (10,[(0,{ slots:=[(3,none),(6,none),(7,none),(8,none)] })]),
 (11,[(0,{ slots:=[(0,none),(3,none),(4,none)] })]),
 (12,[(0,{ slots:=[(0,none),(5,none),(6,none),(18,none),(19,none),(20,none)],own:=[(1000,6,72)] })]),
 (15,[(0,{ slots:=[(1,none),(2,none),(6,none),(8,none),(9,none),(10,none),(54,none),(55,none),(56,none)] })]),
 (19,[(4,{ slots:=[(1,none),(3,none),(4,none),(5,none),(6,none),(7,none)] }),(2,{ slots:=[(1,none),(3,none),(4,none),(5,none)] }),(0,{ slots:=[(1,none),(3,none)] })]),
 (20,[(0,{ slots:=[(2,none),(4,none),(6,none),(7,none)],own:=[(3,1,26)] })]),
 (25,[(0,{ slots:=[(2,none),(5,none),(6,none),(7,none),(18,none),(19,none),(20,none)] })]),
 (28,[(0,{ slots:=[(0,none),(1,none),(5,none)] })]),
 (30,[(0,{ slots:=[(6,none),(7,none),(8,none)] })]),
 (32,[(0,{ slots:=[(3,none),(7,none),(8,none),(9,none)] })]),
 (33,[(0,{ slots:=[(1,none),(2,none),(15,none),(16,none),(17,none)] })]),
 (36,[(2,{ slots:=[(2,none),(5,none),(6,none),(7,none),(8,none),(30,none),(31,none)] }),(0,{ slots:=[(2,none),(6,none),(7,none),(8,none)] })]),
 (37,[(0,{ slots:=[(1,none),(7,none),(8,none),(9,none)] })]),
 (39,[(0,{ slots:=[(3,none),(6,none),(7,none),(8,none)] })]),
 (40,[(2,{ slots:=[(1,none),(6,none),(7,none),(8,none),(12,none),(36,none),(37,none),(38,none),(79,none),(80,none),(81,none)] }),(0,{ slots:=[(1,none),(6,none),(7,none),(36,none),(37,none),(38,none)] })]),
 (41,[(6,{ slots:=[(1,none),(2,none),(3,none),(6,none),(63,none),(64,none),(65,none)] }),(4,{ slots:=[(1,none),(2,none),(3,none),(6,none),(47,none),(48,none),(49,none)] }),(2,{ slots:=[(1,none),(2,none),(3,none),(6,none),(31,none),(32,none),(33,none)] }),(0,{ slots:=[(1,none),(2,none),(3,none),(14,none),(15,none),(16,none)] })]),
 (42,[(0,{ slots:=[(0,none),(3,none),(4,none),(5,none),(12,none),(13,none),(14,none)],own:=[(1000,3,72),(0,0,72)] })]),
 (43,[(0,{ slots:=[(1,none),(3,none),(12,none),(13,none),(14,none)] })]),
 (45,[(2,{ slots:=[(0,none),(3,none),(4,none)] }),(0,{ slots:=[(0,none),(3,none)] })]),
 (46,[(0,{ slots:=[(0,none),(3,none)] })]),
 (48,[(2,{ slots:=[(1,none),(2,none),(4,none),(5,none),(6,none),(7,none),(8,none)],own:=[(2,1,26),(5,8,80),(5,9,81)],dat:=[(5,6,80),(5,7,80)] }),(0,{ slots:=[(1,none),(2,none),(4,none),(5,none)],own:=[(2,1,26)] })]),
 (49,[(0,{ slots:=[(1,none),(2,none),(4,none),(6,none),(7,none)] })]),
 (50,[(2,{ slots:=[(1,none),(2,none),(6,none),(7,none),(8,none),(9,none),(10,none),(11,none)] }),(0,{ slots:=[(1,none),(2,none),(6,none),(7,none),(8,none)] })]),
 (51,[(4,{ slots:=[(1,none),(2,none),(5,none),(6,none),(10,none),(13,none),(14,none)] }),(2,{ slots:=[(1,none),(2,none),(5,none),(6,none),(10,none)] }),(0,{ slots:=[(1,none),(2,none),(5,none),(6,none),(7,none)] })]),
 (52,[(0,{ slots:=[(0,none),(1,none),(7,none),(8,none)] })]),
 (54,[(0,{ slots:=[(1,none),(2,none),(6,none),(22,none),(23,none)],own:=[(1,0,188)] })]),
 (59,[(2,{ slots:=[(2,none),(5,none),(6,none),(10,none)] }),(0,{ slots:=[(2,none),(5,none),(6,none),(7,none)] })]),
 (66,[(0,{ slots:=[(0,none),(1,none),(12,none),(13,none)] })]),
 (67,[(0,{ slots:=[(2,none),(5,none),(20,none),(21,none),(22,none)] })]),
 (69,[(0,{ slots:=[(3,none),(8,none),(9,none),(10,none)] })]),
 (70,[(0,{ slots:=[(2,none),(3,none),(4,none),(18,none),(19,none),(20,none)],own:=[(2,4,142),(1000,4,142)] })]),
 (71,[(4,{ slots:=[(55,none),(56,none),(57,none)] }),(2,{ slots:=[(2,none),(4,none),(45,none),(46,none),(47,none)] }),(0,{ slots:=[(2,none),(3,none),(4,none),(12,none),(13,none),(14,none)] })]),
 (75,[(0,{ slots:=[(0,none),(1,none),(12,none),(13,none)] })]),
 (76,[(0,{ slots:=[(1,none),(2,none),(4,none),(5,none)] })]),
 (81,[(2,{ slots:=[(6,none),(25,none),(26,none),(27,none)] }),(0,{ slots:=[(0,none),(3,none),(9,none),(10,none),(11,none)] })]),
 (87,[(0,{ slots:=[(1,none),(2,none),(5,none)] })]),
 (88,[(2,{ slots:=[(3,none),(4,none),(5,none)] }),(0,{ slots:=[(3,none),(4,none)] })]),
 (89,[(2,{ slots:=[(1,none),(2,none),(4,none),(5,none)] }),(0,{ slots:=[(1,none),(2,none),(4,none)] })]),
 (90,[(0,{ slots:=[(0,none),(1,none),(5,none),(6,none)] })]),
 (91,[(0,{ slots:=[(3,none),(8,none),(10,none),(11,none)] })]),
 (93,[(2,{ slots:=[(1,none),(4,none),(5,none),(6,none),(7,none)] }),(0,{ slots:=[(1,none),(4,none),(5,none)] })]),
 (99,[(2,{ slots:=[(6,none),(25,none),(26,none),(27,none)] }),(0,{ slots:=[(0,none),(3,none),(9,none),(10,none),(11,none)] })]),
 (100,[(0,{ slots:=[(0,none),(1,none),(7,none),(8,none)] })]),
 (102,[(0,{ slots:=[(1,none),(4,none),(6,none),(7,none)] })]),
 (103,[(0,{ slots:=[(0,none),(1,none),(2,none),(3,none),(9,none),(10,none)] })]),
 (105,[(0,{ slots:=[(0,none),(6,none)] })]),
 (106,[(0,{ slots:=[(0,none),(1,none),(7,none),(8,none)] })]),
 (107,[(0,{ slots:=[(3,none),(6,none),(7,none),(8,none)] })]),
 (109,[(0,{ slots:=[(0,none),(1,none),(5,none),(6,none),(9,none),(10,none)] })]),
 (111,[(0,{ slots:=[(1,none),(5,none),(10,none),(11,none)] })]),
 (116,[(1,{ slots:=[(2,none),(4,none),(5,none),(59,none),(60,none)] })]),
 (128,[(0,{ slots:=[(0,none),(1,none),(8,none)] })]),
 (131,[(2,{ slots:=[(0,none),(3,none),(7,none),(8,none),(9,none),(15,none),(16,none),(17,none)] }),(0,{ slots:=[(0,none),(7,none),(8,none),(9,none)],own:=[(0,0,72)] })]),
 (135,[(0,{ slots:=[(0,none),(1,none),(7,none),(8,none)] })]),
 (136,[(0,{ slots:=[(1,none),(3,none),(4,none)] })]),
 (137,[(4,{ slots:=[(1,none),(2,none),(4,none),(5,none),(7,none),(8,none),(9,none)] }),(2,{ slots:=[(1,none),(2,none),(4,none),(5,none),(7,none)] }),(0,{ slots:=[(1,none),(2,none),(4,none)] })]),
 (140,[(0,{ slots:=[(1,none),(2,none),(6,none),(7,none)],dat:=[(1000,6,107)] })]),
 (145,[(0,{ slots:=[(1,none),(2,none),(3,none),(7,none),(8,none)] })]),
 (146,[(0,{ slots:=[(0,none),(6,none),(7,none),(8,none)] })]),
 (147,[(0,{ slots:=[(0,none),(2,none),(12,none),(13,none),(14,none)] })]),
 (150,[(0,{ slots:=[(0,none),(1,none),(6,none),(7,none)] })]),
 (151,[(0,{ slots:=[(0,none),(1,none),(5,none)] })]),
 (155,[(0,{ slots:=[(0,none),(1,none),(12,none),(13,none)] })]),
 (161,[(2,{ slots:=[(2,none),(4,none),(72,none),(73,none),(74,none)] }),(0,{ slots:=[(2,none),(3,none),(4,none),(39,none),(40,none),(41,none)] })]),
 (162,[(0,{ slots:=[(2,none),(4,none),(5,none),(7,none),(10,none),(11,none)] })]),
 (164,[(2,{ slots:=[(6,none),(25,none),(26,none),(27,none)] }),(0,{ slots:=[(0,none),(3,none),(9,none),(10,none),(11,none)] })]),
 (171,[(0,{ slots:=[(0,none),(1,none),(7,none),(8,none)] })]),
 (172,[(0,{ slots:=[(0,none),(1,none),(7,none),(8,none)] })]),
 (173,[(4,{ slots:=[(1,none),(2,none),(4,none),(9,none)] }),(2,{ slots:=[(1,none),(2,none),(4,none),(5,none),(6,none)] }),(0,{ slots:=[(1,none),(2,none),(4,none)] })]),
 (174,[(2,{ slots:=[(1,none),(4,none),(5,none),(6,none),(7,none)] }),(0,{ slots:=[(1,none),(4,none),(5,none)] })]),
 (175,[(0,{ slots:=[(0,none),(4,none),(5,none),(6,none)] })]),
 (176,[(0,{ slots:=[(1,none),(4,none),(6,none),(7,none)] })]),
 (177,[(2,{ slots:=[(0,none),(1,none),(7,none),(8,none)] }),(0,{ slots:=[(0,none),(1,none),(7,none)] })]),
 (178,[(0,{ slots:=[(0,none),(1,none),(2,none),(7,none),(8,none)] })]),
 (180,[(1,{ slots:=[(0,none),(2,none),(4,none),(6,none),(13,none),(14,none)] })]),
 (183,[(0,{ slots:=[(0,none),(3,none),(4,none)] })]),
 (184,[(4,{ slots:=[(3,none),(6,none),(7,none)] }),(2,{ slots:=[(1,none),(3,none),(5,none)] }),(0,{ slots:=[(1,none),(3,none),(4,none)] })]),
 (185,[(2,{ slots:=[(1,none),(2,none),(3,none),(7,none),(8,none)] }),(0,{ slots:=[(1,none),(2,none),(3,none),(7,none)] })]),
 (186,[(0,{ slots:=[(2,none),(4,none)] })]),
 (189,[(1,{ slots:=[(0,none),(1,none),(5,none),(6,none),(7,none),(8,none),(9,none),(10,none)] })]),
 (191,[(0,{ slots:=[(2,none),(3,none),(4,none),(6,none),(14,none),(15,none),(16,none)] })]),
 (193,[(2,{ slots:=[(91,none),(92,none),(93,none)] }),(0,{ slots:=[(2,none),(4,none),(5,none),(7,none),(8,none),(9,none),(10,none),(31,none),(32,none),(33,none)] })]),
 (194,[(1,{ slots:=[(2,none),(4,none),(8,none),(50,none),(51,none),(52,none)] })]),
 (195,[(2,{ slots:=[(2,none),(3,none),(6,none),(8,none),(23,none),(24,none),(25,none),(35,none),(36,none),(37,none)] }),(0,{ slots:=[(2,none),(3,none),(6,none),(23,none),(24,none),(25,none)] })]),
 (200,[(4,{ slots:=[(1,none),(2,none),(4,none),(12,none)] }),(2,{ slots:=[(1,none),(2,none),(4,none),(5,none),(6,none)] }),(0,{ slots:=[(1,none),(2,none),(4,none)] })]),
 (202,[(0,{ slots:=[(1,none),(3,none),(5,none),(7,none),(9,none)] })]),
 (203,[(0,{ slots:=[(1,none),(2,none),(3,none),(7,none),(8,none)] })]),
 (204,[(0,{ slots:=[(1,none),(2,none),(5,none)] })]),
 (205,[(0,{ slots:=[(0,none),(3,none),(5,none),(10,none),(11,none),(12,none)] })]),
 (206,[(0,{ slots:=[(1,none),(3,none),(4,none)] })]),
 (208,[(0,{ slots:=[(1,none),(3,none),(5,none),(8,none),(9,none)] })]),
 (215,[(2,{ slots:=[(0,none),(1,none),(5,none),(6,none),(7,none),(8,none),(10,none)] }),(0,{ slots:=[(0,none),(1,none),(5,none),(6,none),(7,none),(8,none),(9,none)] })]),
 (216,[(1,{ slots:=[(2,none),(18,none),(19,none),(20,none)] })]),
 (220,[(0,{ slots:=[(1,none),(2,none),(4,none)] })]),
 (221,[(2,{ slots:=[(1,none),(3,none),(5,none),(7,none),(15,none)] }),(0,{ slots:=[(1,none),(3,none),(5,none),(7,none),(10,none),(12,none)] })]),
 (222,[(0,{ slots:=[(0,none),(1,none),(5,none)] })]),
 (223,[(1,{ slots:=[(1,none),(3,none),(4,none),(6,none),(11,none)] })]),
 (224,[(0,{ slots:=[(6,none),(7,none),(9,none)],own:=[(1000,6,72)] })]),
 (225,[(2,{ slots:=[(1,none),(2,none),(3,none),(7,none),(8,none)] }),(0,{ slots:=[(1,none),(2,none),(3,none),(7,none)] })]),
 (226,[(0,{ slots:=[(3,none),(4,none)] })]),
 (227,[(0,{ slots:=[(1,none),(3,none)] })]),
 (229,[(0,{ slots:=[(0,none),(3,none)] })]),
 (230,[(0,{ slots:=[(0,none),(2,none),(4,none),(7,none)] })]),
 (231,[(0,{ slots:=[(2,none),(3,none),(8,none),(9,none),(10,none)] })]),
 (238,[(2,{ slots:=[(4,none),(6,none),(7,none),(8,none)] }),(0,{ slots:=[(0,none),(4,none),(5,none)] })]),
 (240,[(0,{ slots:=[(1,none),(4,none),(5,none),(6,none),(7,none)] })]),
 (241,[(4,{ slots:=[(1,none),(4,none),(5,none),(6,none),(10,none)] }),(2,{ slots:=[(1,none),(2,none),(4,none),(5,none),(6,none),(8,none)] }),(0,{ slots:=[(1,none),(2,none),(4,none),(5,none),(6,none),(7,none)] })]),
 (243,[(0,{ slots:=[(1,none),(3,none),(4,none),(6,none),(11,none)] })]),
 (244,[(0,{ slots:=[(1,none),(3,none),(4,none)] })]),
 (245,[(0,{ slots:=[(1,none),(3,none),(4,none)] })]),
 (246,[(0,{ slots:=[(1,none),(3,none),(4,none)] })]),
 (250,[(4,{ slots:=[(3,none),(4,none),(7,none)] }),(2,{ slots:=[(0,none),(3,none),(4,none),(6,none)] }),(0,{ slots:=[(0,none),(3,none),(4,none),(5,none)] })]),
 (251,[(2,{ slots:=[(3,none),(7,none)] }),(0,{ slots:=[(0,none),(3,none),(5,none),(6,none)] })]),
 (252,[(2,{ slots:=[(0,none),(3,none),(4,none)] }),(0,{ slots:=[(0,none),(3,none)] })]),
 (253,[(0,{ slots:=[(0,none),(3,none),(4,none)] })]),
 (256,[(4,{ slots:=[(1,none),(3,none),(11,none),(12,none)] }),(2,{ slots:=[(1,none),(2,none),(3,none),(7,none),(8,none),(9,none),(10,none)] }),(0,{ slots:=[(1,none),(2,none),(3,none),(7,none),(8,none),(9,none)] })]),
 (257,[(2,{ slots:=[(1,none),(2,none),(3,none),(7,none),(8,none),(9,none)] }),(0,{ slots:=[(1,none),(2,none),(3,none),(7,none),(8,none)] })]),
 (260,[(0,{ slots:=[(1,none),(3,none)] })]),
 (265,[(0,{ slots:=[(1,none),(3,none)] })]),
 (266,[(0,{ slots:=[(1,none),(2,none),(5,none)] })]),
 (267,[(0,{ slots:=[(1,none),(3,none),(5,none),(8,none)] })]),
 (268,[(2,{ slots:=[(3,none),(4,none),(6,none),(7,none)] }),(0,{ slots:=[(3,none),(4,none)] })]),
 (270,[(0,{ slots:=[(0,none),(7,none)] })]),
 (271,[(0,{ slots:=[(0,none),(3,none),(4,none)] })]),
 (274,[(0,{ slots:=[(0,none),(1,none),(5,none),(6,none),(7,none)] })])]
def inlTab:List (Nat × List Nat):=[(7,[24,57]),(12,[24,57]),(15,[36,37,38,71,113,114,115,116,157,158,159,160,161,162,163,190,191,192,193,194,195,196,216,217]),(22,[52,53]),(23,[55,56]),(36,[36,37,38,71,113,114,115,116,157,158,159,160,161,162,163,190,191,192,193,194,195,196,216,217]),(37,[36,37,38,71,113,114,115,116,157,158,159,160,161,162,163,190,191,192,193,194,195,196,216,217]),(38,[36,37,38,71,113,114,115,116,157,158,159,160,161,162,163,190,191,192,193,194,195,196,216,217]),(41,[76]),(42,[79,131]),(48,[90,92,142,144,178,179,180,181]),(52,[53]),(54,[96,97,146,147]),(55,[55,56,96,97,146,147]),(58,[100,101]),(65,[62,106]),(71,[36,37,38,71,113,114,115,116,157,158,159,160,161,162,163,190,191,192,193,194,195,196,216,217]),(77,[126,127,171]),(90,[90,92,142,144,178,179,180,181]),(92,[92,142,144,178,179,180,181]),(99,[148]),(100,[101]),(106,[62]),(113,[36,37,38,71,113,114,115,116,157,158,159,160,161,162,163,190,191,192,193,194,195,196,216,217]),(114,[36,37,38,71,113,114,115,116,157,158,159,160,161,162,163,190,191,192,193,194,195,196,216,217]),(115,[36,37,38,71,113,114,115,116,157,158,159,160,161,162,163,190,191,192,193,194,195,196,216,217]),(116,[36,37,38,71,113,114,115,116,157,158,159,160,161,162,163,190,191,192,193,194,195,196,216,217]),(126,[127,171]),(131,[]),(142,[92,142,144,178,179,180,181]),(144,[92,142,144,178,179,180,181]),(157,[36,37,38,71,113,114,115,116,157,158,159,160,161,162,163,190,191,192,193,194,195,196,216,217]),(158,[36,37,38,71,113,114,115,116,157,158,159,160,161,162,163,190,191,192,193,194,195,196,216,217]),(159,[36,37,38,71,113,114,115,116,157,158,159,160,161,162,163,190,191,192,193,194,195,196,216,217]),(160,[36,37,38,71,113,114,115,116,157,158,159,160,161,162,163,190,191,192,193,194,195,196,216,217]),(161,[36,37,38,71,113,114,115,116,157,158,159,160,161,162,163,190,191,192,193,194,195,196,216,217]),(162,[36,37,38,71,113,114,115,116,157,158,159,160,161,162,163,190,191,192,193,194,195,196,216,217]),(163,[36,37,38,71,113,114,115,116,157,158,159,160,161,162,163,190,191,192,193,194,195,196,216,217]),(171,[127]),(178,[92,142,144,178,179,180,181]),(179,[92,142,144,178,179,180,181]),(180,[92,142,144,178,179,180,181]),(181,[92,142,144,178,179,180,181]),(190,[36,37,38,71,113,114,115,116,157,158,159,160,161,162,163,190,191,192,193,194,195,196,216,217]),(191,[36,37,38,71,113,114,115,116,157,158,159,160,161,162,163,190,191,192,193,194,195,196,216,217]),(192,[36,37,38,71,113,114,115,116,157,158,159,160,161,162,163,190,191,192,193,194,195,196,216,217]),(193,[36,37,38,71,113,114,115,116,157,158,159,160,161,162,163,190,191,192,193,194,195,196,216,217]),(194,[36,37,38,71,113,114,115,116,157,158,159,160,161,162,163,190,191,192,193,194,195,196,216,217]),(195,[36,37,38,71,113,114,115,116,157,158,159,160,161,162,163,190,191,192,193,194,195,196,216,217]),(196,[36,37,38,71,113,114,115,116,157,158,159,160,161,162,163,190,191,192,193,194,195,196,216,217]),(216,[36,37,38,71,113,114,115,116,157,158,159,160,161,162,163,190,191,192,193,194,195,196,216,217]),(217,[36,37,38,71,113,114,115,116,157,158,159,160,161,162,163,190,191,192,193,194,195,196,216,217])]
def mintTab:List (Nat × List Nat):=[(111,[156]),(224,[244])]
def oslTab:List (Nat × List Nat):=[]
def stopTab:List (Nat × List Nat):=[(7,[33]),(12,[24]),(55,[28,44]),(142,[17,27]),(179,[28]),(180,[76,137]),(191,[37])]
def deadTab:List (Nat × List Nat):=[]
def ownTab:List (Nat × List (Nat × List (Nat × Nat))):=[(15,[(43,[(0,41),(5,40)])]),(23,[(8,[(0,53)])]),(41,[(3,[(0,40),(1,40)])]),(42,[(4,[(0,72)])])]
def cutTab:List (Nat × List (Nat × Option LAn)):=[(48,[(49,some { slots:=[(1,none),(2,none),(4,none),(5,none),(7,none)],nb:=6,own:=[(5,6,80),(5,7,80),(5,8,80),(5,9,81)] })]),(144,[(22,some { slots:=[(0,none),(6,none)],nb:=4,own:=[(3,1,72)] })])]
def rtTab:List (Nat × Option (List Nat)):=[]
def labTab:List (Nat × List (Nat × Option LAn)):=[]
def bxTab:List (Nat × List Nat):=[(55,[0]),(92,[0]),(142,[0]),(144,[0]),(178,[0]),(179,[0]),(180,[0]),(181,[0])]
def rlTab:List (Nat × Option (List Nat)):=[(54,some [1,2,6,7,22,23]),(55,some [1,4,6,7])]
def noTurn:List Nat:=[62,90,106,126,127,171]
def noLAn:LAn:= { slots:=[] }
def bxL (f:Nat):Bool:=match look [] bxTab f with
 | []=>false
 |_=>true
def pnL (f:Nat):Option TypeId:=match look [] bxTab f with
 | [n]=>match Nat.beq n 0 with
   |true=>none
   |false=>some n
 |_=>none
def cs:FuncId->CfgT:=fun f=> { me:=f,o:= { inl:=look [] inlTab f,mint:=look [] mintTab f,osl:=look [] oslTab f,dead:=look [] deadTab f,own:=look [] ownTab f,stop:=look [] stopTab f },loops:=look noLAn (look [] loopTab f),cuts:=look none (look [] cutTab f),turn:= !(noTurn.contains f),rt:=look none rtTab f,labs:=look none (look [] labTab f),bx:=bxL f,pn:=pnL f,rl:=look none rlTab f }
end Go.Vm
end
section
namespace Go.Vm
open Go.Proofs
def kn (_:FuncId)(_:List V):Option PRes:=none
def kn_none {f:FuncId}{args:List V}{p:PRes}(h:kn f args=some p):False:=by
 unfold kn at h;cases h
def kn_good:KGood Tryz.prog kn:=
 And.intro (fun h=>by
  have e:(sigP Tryz.prog gP).isSome=false:=by kernel_rfl
  rw[e]at h;cases h) (And.intro (fun f args p _ _ h=>(kn_none h).elim) (fun f key pn us hs p _ _ h=>(kn_none h).elim))
noncomputable def cF (f:FuncId) (args:List V):Option PRes:=callF Tryz.prog cs kn f args
noncomputable def eF:Env:=envF (callF Tryz.prog cs kn)
noncomputable def fT (A:Sy) (E:Env) (f:FuncId) (a:List V):Option PRes:=(funT A Tryz.prog cs f a).run E
noncomputable def fB (A:Sy) (E:Env) (f:FuncId) (n:Nat) (a:List V) (h:List Box):Option PRes:=(funB A Tryz.prog cs f n a h).run E
def eF_call (f:FuncId)(args:List V):eF.call f args=cF f args:=rfl
def eF_lp {α:Type}(b:List D->Option (List D ⊕ α))(ds:List D):eF.lp b ds=loopF b ds:=rfl
def cOf {f:FuncId}{args:List V}{p:PRes}(hg:goodF Tryz.prog f=true)(hk:kn f args=none)(h:fT sy eF f args=some p):cF f args=some p:=callF_of hg hk h
def cOfP {f:FuncId}{args:List V}{Q:PRes->Prop}(hg:goodF Tryz.prog f=true)(hk:kn f args=none)(h: ∃p,fT sy eF f args=some p/\Q p): ∃p,cF f args=some p/\Q p:=h.imp fun _ h=>⟨callF_of hg hk h.1,h.2⟩
def decT {p:Prop} [Decidable p] (h:p):decide p=true:=decide_eq_true h
def decF {p:Prop} [Decidable p] (h: ¬p):decide p=false:=decide_eq_false h
def inr_at {i n:Nat}(h:i < n):decide (0<=(i:Int)/\(i:Int) < (n:Int))=true:=decide_eq_true ⟨by omega,by omega⟩
def ilt_at {i n:Nat}(h:i < n):decide ((i:Int) < (n:Int))=true:=decide_eq_true (by omega)
def ilt_self (n:Nat):decide ((n:Int) < (n:Int))=false:=decide_eq_false (by omega)
def wrap_succ {i n:Nat}(h:i < n)(hn:n<=1000000000000):IntKind.i64.wrap ((i:Int)+1)=(i:Int)+1:=wrap_id (by omega) (by omega)
def mixedOrders:Tryz.prog.follows .mixedOrders=true:=by kernel_rfl
end Go.Vm
end
section
set_option maxRecDepth 10000
namespace Go.Vm
def bs1 {α β:Type}(a:α)(f:α->Option β):(some a).bind f=f a:=rfl
def ct1 {α:Type}(a b:α):cond true a b=a:=rfl
def cf1 {α:Type}(a b:α):cond false a b=b:=rfl
def es1 {α:Type}(a:α):(a=a)=True:=eq_self a
def an {a b:Prop}(x:a)(y:b):a/\b:=⟨x,y⟩
def go1:type_of% (an @bs1 (an @ct1 (an @cf1 (an @es1 (an @sy_wrap (an @sy_add (an @sy_sub (an @sy_mul (an @sy_ieq (an @sy_ilt (an @sy_ile (an @sy_seq (an @sy_beq (an @sy_bor (an @sy_bnot (an @sy_imax (an @sy_imin (an @sy_rlen (an @sy_slen (an @sy_sapp (an @sy_inr (an @sy_nat (an @sy_cell0 (an @sy_cellS (an @sy_skip0 (an @sy_inrn (an @sy_rapp (an @sy_fits (an @sy_cutok (an @sy_cut (an @sy_scut (an @sy_sbyte (an @sy_mkok (an @sy_mkok0 (an @sy_mkz (an @sy_rep (an @sy_head (an @sy_deq (an @eqDs_int (an @eqDs_nil (an @opI_int (an @opB_bool (an @opS_str (an @opL_sl (an @opM_own (an @leaves_val (an @leaves_own (an @cutO_bool (an @bif_bool (an @cutO_inl (an @cutO_inr (an @eF_call (an @eF_lp (an @Nat.zero_add (an @Bool.cond_false_right (an @Bool.cond_true_left (an @Bool.cond_false_left (an @Bool.cond_true_right (an @Bool.not_true (an @Bool.not_false (an @Bool.not_not (an @decide_true (an @decide_false (an @Bool.true_and (an @Bool.and_true (an @Bool.false_and (an @Bool.and_false (an @Bool.or_false (an @Bool.false_or (an @Bool.true_or (an @Bool.or_true (an @true_and (@and_true))))))))))))))))))))))))))))))))))))))))))))))))))))))))))))))))))))))))):=an @bs1 (an @ct1 (an @cf1 (an @es1 (an @sy_wrap (an @sy_add (an @sy_sub (an @sy_mul (an @sy_ieq (an @sy_ilt (an @sy_ile (an @sy_seq (an @sy_beq (an @sy_bor (an @sy_bnot (an @sy_imax (an @sy_imin (an @sy_rlen (an @sy_slen (an @sy_sapp (an @sy_inr (an @sy_nat (an @sy_cell0 (an @sy_cellS (an @sy_skip0 (an @sy_inrn (an @sy_rapp (an @sy_fits (an @sy_cutok (an @sy_cut (an @sy_scut (an @sy_sbyte (an @sy_mkok (an @sy_mkok0 (an @sy_mkz (an @sy_rep (an @sy_head (an @sy_deq (an @eqDs_int (an @eqDs_nil (an @opI_int (an @opB_bool (an @opS_str (an @opL_sl (an @opM_own (an @leaves_val (an @leaves_own (an @cutO_bool (an @bif_bool (an @cutO_inl (an @cutO_inr (an @eF_call (an @eF_lp (an @Nat.zero_add (an @Bool.cond_false_right (an @Bool.cond_true_left (an @Bool.cond_false_left (an @Bool.cond_true_right (an @Bool.not_true (an @Bool.not_false (an @Bool.not_not (an @decide_true (an @decide_false (an @Bool.true_and (an @Bool.and_true (an @Bool.false_and (an @Bool.and_false (an @Bool.or_false (an @Bool.false_or (an @Bool.true_or (an @Bool.or_true (an @true_and (@and_true))))))))))))))))))))))))))))))))))))))))))))))))))))))))))))))))))))))))
end Go.Vm
end
section
namespace Go.Vm
section
variable {α β : Type}
def st_bind {v:Option α}{f:α->Option β}{n:α}{p:β}(h:v=some n)(k:f n=some p):v.bind f=some p:=by rw[h];exact k
def st_cut {X:Option (List D ⊕ α)}{K:List D->Option α}{ds:List D}{p:α}(h:X=some (.inl ds))(k:K ds=some p):cutO X K=some p:=by rw[h];exact k
def st_t {c:Bool}{a b:Option α}{p:α}(h:c=true)(k:a=some p):(bif c then a else b)=some p:=by rw[h];exact k
def st_f {c:Bool}{a b:Option α}{p:α}(h:c=false)(k:b=some p):(bif c then a else b)=some p:=by rw[h];exact k
def st_opI {v:Option D}{k:IntKind}{n:Int}(h:v=some (.int k n)):opI v k=some n:=by rw[h];simp[opI]
def st_opB {v:Option D}{n:Bool}(h:v=some (.bool n)):opB v=some n:=by rw[h];rfl
def st_opL {v:Option D}{sz:Nat}{n:LL}(h:v=some (.sl sz n)):opL v sz=some n:=by rw[h];simp[opL]
noncomputable def lpK (b:List D->Option (List D ⊕ α)):List D ⊕ α->Option α
 | .inl ds=>eF.lp b ds
 | .inr a=>some a
def st_lp {b:List D->Option (List D ⊕ α)}{ds:List D}{r:List D ⊕ α}{p:α}(h:b ds=some r)(k:lpK b r=some p):eF.lp b ds=some p:=by
 show loopF b ds=some p;rw[loopF_eq,h];cases r with
 |inl d=>exact k
 |inr a=>exact k
def st_inl {b:List D->Option (List D ⊕ α)}{ds:List D}{p:α}(k:eF.lp b ds=some p):lpK b (.inl ds)=some p:=k
def st_inr {b:List D->Option (List D ⊕ α)}{a:α}:lpK b (.inr a)=some a:=rfl
def st_some {a:α}:some a=some a:=rfl
end
end Go.Vm
end
