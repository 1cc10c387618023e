import Derived.Test.YtljmapfihjkafaaGreatDoorMa
import Derived.Test.YtljmapfihjkafaaGreatDoorProg
import Derived.KernelRfl
import Derived.Test.YtljmapfihjkafaaGreatDoorMb
import Derived.Laws.Bits64b
import Derived.Laws.Cover3
import Derived.Laws.Strings
import Derived.Laws.Strings2
import Derived.Laws.Strings3
import Derived.Laws.Concat
import Derived.Laws.Slices
import Derived.Laws.IdiomStrings
set_option maxHeartbeats 16000000
namespace Go.Proofs.YtljmapfihjkafaaGreatDoor
open Go
set_option linter.unusedSimpArgs false
set_option linter.unusedVariables false

instance:T1 Tryz.prog 3:=T1.mk' Tryz.underlying3 rfl (by kernel_rfl)
instance:iQ Tryz.prog 3 (#[.int .i64 0]):=iQ.mk' (z:=.int .i64 0) (by kernel_rfl)
instance:TE Tryz.prog 3 1 8 (#[.int .i64 0]):=TE.mk' (z:=.int .i64 0) (by kernel_rfl)
instance:fU Tryz.prog 3 1:=fU.mk' (by kernel_rfl)
instance:T1 Tryz.prog 4:=T1.mk' Tryz.underlying4 rfl (by kernel_rfl)
instance:iQ Tryz.prog 4 (#[.bool false]):=iQ.mk' (z:=.bool false) (by kernel_rfl)
instance:TB Tryz.prog 4:=⟨Tryz.underlying4⟩
instance:TE Tryz.prog 5 1 1 (#[.int .u8 0]):=TE.mk' (z:=.int .u8 0) (by kernel_rfl)
instance:T1 Tryz.prog 9:=T1.mk' Tryz.underlying9 rfl (by kernel_rfl)
instance:dF Tryz.prog 22 48:=⟨Tryz.underlying22⟩
instance:T1 Tryz.prog 24:=T1.mk' Tryz.underlying24 rfl (by kernel_rfl)
instance:iQ Tryz.prog 24 (#[.slice none 0 0]):=iQ.mk' (z:=.slice none 0 0) (by kernel_rfl)
instance:TE Tryz.prog 24 1 24 (#[.slice none 0 0]):=TE.mk' (z:=.slice none 0 0) (by kernel_rfl)
instance:fU Tryz.prog 24 1:=fU.mk' (by kernel_rfl)
instance:dF Tryz.prog 24 35:=⟨Tryz.underlying24⟩
instance:TN Tryz.prog 26 3:=TN.mk' Tryz.underlying26 rfl (by kernel_rfl)
instance:TSt Tryz.prog 26 (#[.int .i64 0,.int .i64 0,.slice none 0 0]) #[(0,1),(1,1),(2,1)]:=TSt.mk' (z:=.agg #[.int .i64 0,.int .i64 0,.slice none 0 0]) Tryz.underlying26 (by kernel_rfl) (by kernel_rfl)
instance:iQ Tryz.prog 26 (#[.int .i64 0,.int .i64 0,.slice none 0 0]):=iQ.mk' (z:=.agg #[.int .i64 0,.int .i64 0,.slice none 0 0]) (by kernel_rfl)
instance:FA Tryz.prog 26 0 0:=FA.mk' (f:=0) Tryz.underlying26 rfl (by kernel_rfl)
instance:FA Tryz.prog 26 1 1:=FA.mk' (f:=1) Tryz.underlying26 rfl (by kernel_rfl)
instance:FA Tryz.prog 26 2 2:=FA.mk' (f:=2) Tryz.underlying26 rfl (by kernel_rfl)
instance:TN Tryz.prog 35 2:=TN.mk' Tryz.underlying35 rfl (by kernel_rfl)
instance:TSt Tryz.prog 35 (#[.bool false,.string ⟨#[]⟩]) #[(0,1),(1,1)]:=TSt.mk' (z:=.agg #[.bool false,.string ⟨#[]⟩]) Tryz.underlying35 (by kernel_rfl) (by kernel_rfl)
instance:iQ Tryz.prog 35 (#[.bool false,.string ⟨#[]⟩]):=iQ.mk' (z:=.agg #[.bool false,.string ⟨#[]⟩]) (by kernel_rfl)
instance:TE Tryz.prog 35 2 24 (#[.bool false,.string ⟨#[]⟩]):=TE.mk' (z:=.agg #[.bool false,.string ⟨#[]⟩]) (by kernel_rfl)
instance:fU Tryz.prog 35 2:=fU.mk' (by kernel_rfl)
instance:FA Tryz.prog 35 0 0:=FA.mk' (f:=0) Tryz.underlying35 rfl (by kernel_rfl)
instance:FA Tryz.prog 35 1 1:=FA.mk' (f:=1) Tryz.underlying35 rfl (by kernel_rfl)
instance:T1 Tryz.prog 48:=T1.mk' Tryz.underlying48 rfl (by kernel_rfl)
instance:iQ Tryz.prog 48 (#[.slice none 0 0]):=iQ.mk' (z:=.slice none 0 0) (by kernel_rfl)
instance:TE Tryz.prog 48 1 24 (#[.slice none 0 0]):=TE.mk' (z:=.slice none 0 0) (by kernel_rfl)
instance:fU Tryz.prog 48 1:=fU.mk' (by kernel_rfl)
instance:dF Tryz.prog 48 3:=⟨Tryz.underlying48⟩
instance:TAr Tryz.prog 66 3 48:=⟨Tryz.underlying66⟩
instance:iQ Tryz.prog 69 (#[.int .i64 0,.int .i64 0]):=iQ.mk' (z:=.agg #[.int .i64 0,.int .i64 0]) (by kernel_rfl)
instance:TAr Tryz.prog 69 2 3:=⟨Tryz.underlying69⟩
instance:TN Tryz.prog 74 15:=TN.mk' Tryz.underlying74 rfl (by kernel_rfl)
instance:TSt Tryz.prog 74 (#[.int .i64 0,.int .i64 0,.slice none 0 0,.int .i64 0,.int .i64 0,.slice none 0 0,.int .i64 0,.int .i64 0,.slice none 0 0,.int .i64 0,.int .i64 0,.slice none 0 0,.int .i64 0,.int .i64 0,.slice none 0 0]) #[(0,3),(3,3),(6,3),(9,3),(12,3)]:=TSt.mk' (z:=.agg #[.int .i64 0,.int .i64 0,.slice none 0 0,.int .i64 0,.int .i64 0,.slice none 0 0,.int .i64 0,.int .i64 0,.slice none 0 0,.int .i64 0,.int .i64 0,.slice none 0 0,.int .i64 0,.int .i64 0,.slice none 0 0]) Tryz.underlying74 (by kernel_rfl) (by kernel_rfl)
instance:iQ Tryz.prog 74 (#[.int .i64 0,.int .i64 0,.slice none 0 0,.int .i64 0,.int .i64 0,.slice none 0 0,.int .i64 0,.int .i64 0,.slice none 0 0,.int .i64 0,.int .i64 0,.slice none 0 0,.int .i64 0,.int .i64 0,.slice none 0 0]):=iQ.mk' (z:=.agg #[.int .i64 0,.int .i64 0,.slice none 0 0,.int .i64 0,.int .i64 0,.slice none 0 0,.int .i64 0,.int .i64 0,.slice none 0 0,.int .i64 0,.int .i64 0,.slice none 0 0,.int .i64 0,.int .i64 0,.slice none 0 0]) (by kernel_rfl)
instance:FA Tryz.prog 74 0 0:=FA.mk' (f:=0) Tryz.underlying74 rfl (by kernel_rfl)
instance:FA Tryz.prog 74 1 3:=FA.mk' (f:=1) Tryz.underlying74 rfl (by kernel_rfl)
instance:FA Tryz.prog 74 2 6:=FA.mk' (f:=2) Tryz.underlying74 rfl (by kernel_rfl)
instance:FA Tryz.prog 74 3 9:=FA.mk' (f:=3) Tryz.underlying74 rfl (by kernel_rfl)
instance:T1 Tryz.prog 80:=T1.mk' Tryz.underlying80 rfl (by kernel_rfl)
instance:TE Tryz.prog 80 1 8 (#[.int .u64 0]):=TE.mk' (z:=.int .u64 0) (by kernel_rfl)
instance:fU Tryz.prog 80 1:=fU.mk' (by kernel_rfl)
instance:TN Tryz.prog 91 16:=TN.mk' Tryz.underlying91 rfl (by kernel_rfl)
instance:TSt Tryz.prog 91 (#[.int .i64 0,.int .i64 0,.slice none 0 0,.int .i64 0,.int .i64 0,.slice none 0 0,.int .i64 0,.int .i64 0,.slice none 0 0,.int .i64 0,.int .i64 0,.slice none 0 0,.int .i64 0,.int .i64 0,.slice none 0 0,.slice none 0 0]) #[(0,15),(15,1)]:=TSt.mk' (z:=.agg #[.int .i64 0,.int .i64 0,.slice none 0 0,.int .i64 0,.int .i64 0,.slice none 0 0,.int .i64 0,.int .i64 0,.slice none 0 0,.int .i64 0,.int .i64 0,.slice none 0 0,.int .i64 0,.int .i64 0,.slice none 0 0,.slice none 0 0]) Tryz.underlying91 (by kernel_rfl) (by kernel_rfl)
instance:iQ Tryz.prog 91 (#[.int .i64 0,.int .i64 0,.slice none 0 0,.int .i64 0,.int .i64 0,.slice none 0 0,.int .i64 0,.int .i64 0,.slice none 0 0,.int .i64 0,.int .i64 0,.slice none 0 0,.int .i64 0,.int .i64 0,.slice none 0 0,.slice none 0 0]):=iQ.mk' (z:=.agg #[.int .i64 0,.int .i64 0,.slice none 0 0,.int .i64 0,.int .i64 0,.slice none 0 0,.int .i64 0,.int .i64 0,.slice none 0 0,.int .i64 0,.int .i64 0,.slice none 0 0,.int .i64 0,.int .i64 0,.slice none 0 0,.slice none 0 0]) (by kernel_rfl)
instance:FA Tryz.prog 91 0 0:=FA.mk' (f:=0) Tryz.underlying91 rfl (by kernel_rfl)
instance:FA Tryz.prog 91 1 15:=FA.mk' (f:=1) Tryz.underlying91 rfl (by kernel_rfl)
instance:T1 Tryz.prog 104:=T1.mk' Tryz.underlying104 rfl (by kernel_rfl)
instance:dF Tryz.prog 104 24:=⟨Tryz.underlying104⟩
instance:T1 Tryz.prog 105:=T1.mk' Tryz.underlying105 rfl (by kernel_rfl)
instance:dF Tryz.prog 105 24:=⟨Tryz.underlying105⟩
instance:TSt Tryz.prog 108 (#[.slice none 0 0,.slice none 0 0,.slice none 0 0,.slice none 0 0,.slice none 0 0]) #[(0,1),(1,1),(2,1),(3,1),(4,1)]:=TSt.mk' (z:=.agg #[.slice none 0 0,.slice none 0 0,.slice none 0 0,.slice none 0 0,.slice none 0 0]) Tryz.underlying108 (by kernel_rfl) (by kernel_rfl)
instance:FA Tryz.prog 108 0 0:=FA.mk' (f:=0) Tryz.underlying108 rfl (by kernel_rfl)
instance:FA Tryz.prog 108 1 1:=FA.mk' (f:=1) Tryz.underlying108 rfl (by kernel_rfl)
instance:FA Tryz.prog 108 2 2:=FA.mk' (f:=2) Tryz.underlying108 rfl (by kernel_rfl)
instance:FA Tryz.prog 108 3 3:=FA.mk' (f:=3) Tryz.underlying108 rfl (by kernel_rfl)
instance:FA Tryz.prog 108 4 4:=FA.mk' (f:=4) Tryz.underlying108 rfl (by kernel_rfl)
instance:TSt Tryz.prog 110 (#[.slice none 0 0,.slice none 0 0,.slice none 0 0,.slice none 0 0,.slice none 0 0,.int .i64 0,.int .i64 0]) #[(0,5),(5,2)]:=TSt.mk' (z:=.agg #[.slice none 0 0,.slice none 0 0,.slice none 0 0,.slice none 0 0,.slice none 0 0,.int .i64 0,.int .i64 0]) Tryz.underlying110 (by kernel_rfl) (by kernel_rfl)
instance:FA Tryz.prog 110 0 0:=FA.mk' (f:=0) Tryz.underlying110 rfl (by kernel_rfl)
instance:FA Tryz.prog 110 1 5:=FA.mk' (f:=1) Tryz.underlying110 rfl (by kernel_rfl)
instance:TN Tryz.prog 117 8:=TN.mk' Tryz.underlying117 rfl (by kernel_rfl)
instance:TSt Tryz.prog 117 (#[.bool false,.string ⟨#[]⟩,.bool false,.string ⟨#[]⟩,.bool false,.string ⟨#[]⟩,.bool false,.string ⟨#[]⟩]) #[(0,2),(2,2),(4,2),(6,2)]:=TSt.mk' (z:=.agg #[.bool false,.string ⟨#[]⟩,.bool false,.string ⟨#[]⟩,.bool false,.string ⟨#[]⟩,.bool false,.string ⟨#[]⟩]) Tryz.underlying117 (by kernel_rfl) (by kernel_rfl)
instance:iQ Tryz.prog 117 (#[.bool false,.string ⟨#[]⟩,.bool false,.string ⟨#[]⟩,.bool false,.string ⟨#[]⟩,.bool false,.string ⟨#[]⟩]):=iQ.mk' (z:=.agg #[.bool false,.string ⟨#[]⟩,.bool false,.string ⟨#[]⟩,.bool false,.string ⟨#[]⟩,.bool false,.string ⟨#[]⟩]) (by kernel_rfl)
instance:FA Tryz.prog 117 0 0:=FA.mk' (f:=0) Tryz.underlying117 rfl (by kernel_rfl)
instance:FA Tryz.prog 117 1 2:=FA.mk' (f:=1) Tryz.underlying117 rfl (by kernel_rfl)
instance:FA Tryz.prog 117 2 4:=FA.mk' (f:=2) Tryz.underlying117 rfl (by kernel_rfl)
instance:FA Tryz.prog 117 3 6:=FA.mk' (f:=3) Tryz.underlying117 rfl (by kernel_rfl)
instance:TSt Tryz.prog 125 (#[.slice none 0 0,.slice none 0 0,.slice none 0 0,.slice none 0 0,.slice none 0 0]) #[(0,1),(1,1),(2,1),(3,1),(4,1)]:=TSt.mk' (z:=.agg #[.slice none 0 0,.slice none 0 0,.slice none 0 0,.slice none 0 0,.slice none 0 0]) Tryz.underlying125 (by kernel_rfl) (by kernel_rfl)
instance:FA Tryz.prog 125 0 0:=FA.mk' (f:=0) Tryz.underlying125 rfl (by kernel_rfl)
instance:FA Tryz.prog 125 1 1:=FA.mk' (f:=1) Tryz.underlying125 rfl (by kernel_rfl)
instance:FA Tryz.prog 125 2 2:=FA.mk' (f:=2) Tryz.underlying125 rfl (by kernel_rfl)
instance:FA Tryz.prog 125 3 3:=FA.mk' (f:=3) Tryz.underlying125 rfl (by kernel_rfl)
instance:FA Tryz.prog 125 4 4:=FA.mk' (f:=4) Tryz.underlying125 rfl (by kernel_rfl)
instance:T1 Tryz.prog 132:=T1.mk' Tryz.underlying132 rfl (by kernel_rfl)
instance:iQ Tryz.prog 132 (#[.slice none 0 0]):=iQ.mk' (z:=.slice none 0 0) (by kernel_rfl)
instance:dF Tryz.prog 132 5:=⟨Tryz.underlying132⟩
instance:dF Tryz.prog 136 80:=⟨Tryz.underlying136⟩
instance:TF Tryz.prog 13:=TF.mk' Tryz.func13 (by kernel_rfl) rfl
instance:TF Tryz.prog 14:=TF.mk' Tryz.func14 (by kernel_rfl) rfl
instance:TF Tryz.prog 15:=TF.mk' Tryz.func15 (by kernel_rfl) rfl
instance:TF Tryz.prog 16:=TF.mk' Tryz.func16 (by kernel_rfl) rfl
instance:TF Tryz.prog 17:=TF.mk' Tryz.func17 (by kernel_rfl) rfl
instance:TF Tryz.prog 18:=TF.mk' Tryz.func18 (by kernel_rfl) rfl
instance:TF Tryz.prog 19:=TF.mk' Tryz.func19 (by kernel_rfl) rfl
instance:TF Tryz.prog 20:=TF.mk' Tryz.func20 (by kernel_rfl) rfl
instance:TF Tryz.prog 21:=TF.mk' Tryz.func21 (by kernel_rfl) rfl
instance:TF Tryz.prog 23:=TF.mk' Tryz.func23 (by kernel_rfl) rfl
instance:TF Tryz.prog 25:=TF.mk' Tryz.func25 (by kernel_rfl) rfl
instance:TF Tryz.prog 26:=TF.mk' Tryz.func26 (by kernel_rfl) rfl
instance:TF Tryz.prog 27:=TF.mk' Tryz.func27 (by kernel_rfl) rfl
instance:TF Tryz.prog 28:=TF.mk' Tryz.func28 (by kernel_rfl) rfl
instance:TF Tryz.prog 29:=TF.mk' Tryz.func29 (by kernel_rfl) rfl
instance:TF Tryz.prog 30:=TF.mk' Tryz.func30 (by kernel_rfl) rfl
instance:TF Tryz.prog 31:=TF.mk' Tryz.func31 (by kernel_rfl) rfl
instance:TF Tryz.prog 33:=TF.mk' Tryz.func33 (by kernel_rfl) rfl
instance:TF Tryz.prog 34:=TF.mk' Tryz.func34 (by kernel_rfl) rfl
instance:TF Tryz.prog 35:=TF.mk' Tryz.func35 (by kernel_rfl) rfl
instance:TF Tryz.prog 36:=TF.mk' Tryz.func36 (by kernel_rfl) rfl
instance:TF Tryz.prog 37:=TF.mk' Tryz.func37 (by kernel_rfl) rfl
instance:TF Tryz.prog 38:=TF.mk' Tryz.func38 (by kernel_rfl) rfl
instance:TF Tryz.prog 39:=TF.mk' Tryz.func39 (by kernel_rfl) rfl
instance:TF Tryz.prog 40:=TF.mk' Tryz.func40 (by kernel_rfl) rfl
instance:TF Tryz.prog 41:=TF.mk' Tryz.func41 (by kernel_rfl) rfl
instance:TF Tryz.prog 42:=TF.mk' Tryz.func42 (by kernel_rfl) rfl
instance:TF Tryz.prog 43:=TF.mk' Tryz.func43 (by kernel_rfl) rfl
instance:TF Tryz.prog 44:=TF.mk' Tryz.func44 (by kernel_rfl) rfl
instance:TF Tryz.prog 45:=TF.mk' Tryz.func45 (by kernel_rfl) rfl
instance:TF Tryz.prog 46:=TF.mk' Tryz.func46 (by kernel_rfl) rfl
instance:TF Tryz.prog 47:=TF.mk' Tryz.func47 (by kernel_rfl) rfl
instance:TF Tryz.prog 48:=TF.mk' Tryz.func48 (by kernel_rfl) rfl
instance:TF Tryz.prog 49:=TF.mk' Tryz.func49 (by kernel_rfl) rfl
instance:TF Tryz.prog 50:=TF.mk' Tryz.func50 (by kernel_rfl) rfl
instance:TF Tryz.prog 51:=TF.mk' Tryz.func51 (by kernel_rfl) rfl
instance:TF Tryz.prog 52:=TF.mk' Tryz.func52 (by kernel_rfl) rfl
instance:TF Tryz.prog 53:=TF.mk' Tryz.func53 (by kernel_rfl) rfl
instance:TF Tryz.prog 54:=TF.mk' Tryz.func54 (by kernel_rfl) rfl
instance:TF Tryz.prog 55:=TF.mk' Tryz.func55 (by kernel_rfl) rfl
instance:TF Tryz.prog 57:=TF.mk' Tryz.func57 (by kernel_rfl) rfl
instance:TF Tryz.prog 58:=TF.mk' Tryz.func58 (by kernel_rfl) rfl
instance:TF Tryz.prog 59:=TF.mk' Tryz.func59 (by kernel_rfl) rfl
instance:TF Tryz.prog 60:=TF.mk' Tryz.func60 (by kernel_rfl) rfl
instance:TF Tryz.prog 61:=TF.mk' Tryz.func61 (by kernel_rfl) rfl
instance:TF Tryz.prog 62:=TF.mk' Tryz.func62 (by kernel_rfl) rfl
instance:TF Tryz.prog 63:=TF.mk' Tryz.func63 (by kernel_rfl) rfl
instance:TF Tryz.prog 64:=TF.mk' Tryz.func64 (by kernel_rfl) rfl
instance:TF Tryz.prog 66:=TF.mk' Tryz.func66 (by kernel_rfl) rfl
instance:TF Tryz.prog 67:=TF.mk' Tryz.func67 (by kernel_rfl) rfl
instance:TF Tryz.prog 68:=TF.mk' Tryz.func68 (by kernel_rfl) rfl
instance:TF Tryz.prog 69:=TF.mk' Tryz.func69 (by kernel_rfl) rfl
instance:TF Tryz.prog 70:=TF.mk' Tryz.func70 (by kernel_rfl) rfl
instance:TF Tryz.prog 71:=TF.mk' Tryz.func71 (by kernel_rfl) rfl
instance:TF Tryz.prog 72:=TF.mk' Tryz.func72 (by kernel_rfl) rfl
instance:TF Tryz.prog 73:=TF.mk' Tryz.func73 (by kernel_rfl) rfl
instance:TF Tryz.prog 74:=TF.mk' Tryz.func74 (by kernel_rfl) rfl
instance:TF Tryz.prog 75:=TF.mk' Tryz.func75 (by kernel_rfl) rfl
instance:TF Tryz.prog 76:=TF.mk' Tryz.func76 (by kernel_rfl) rfl
instance:TF Tryz.prog 77:=TF.mk' Tryz.func77 (by kernel_rfl) rfl
instance:TF Tryz.prog 78:=TF.mk' Tryz.func78 (by kernel_rfl) rfl
instance:TF Tryz.prog 79:=TF.mk' Tryz.func79 (by kernel_rfl) rfl
instance:TF Tryz.prog 80:=TF.mk' Tryz.func80 (by kernel_rfl) rfl
instance:TF Tryz.prog 81:=TF.mk' Tryz.func81 (by kernel_rfl) rfl
instance:TF Tryz.prog 82:=TF.mk' Tryz.func82 (by kernel_rfl) rfl
instance:TF Tryz.prog 83:=TF.mk' Tryz.func83 (by kernel_rfl) rfl
instance:TF Tryz.prog 84:=TF.mk' Tryz.func84 (by kernel_rfl) rfl
instance:TF Tryz.prog 85:=TF.mk' Tryz.func85 (by kernel_rfl) rfl
instance:TF Tryz.prog 86:=TF.mk' Tryz.func86 (by kernel_rfl) rfl
instance:TF Tryz.prog 87:=TF.mk' Tryz.func87 (by kernel_rfl) rfl
instance:TF Tryz.prog 88:=TF.mk' Tryz.func88 (by kernel_rfl) rfl
instance:TF Tryz.prog 89:=TF.mk' Tryz.func89 (by kernel_rfl) rfl
instance:TF Tryz.prog 90:=TF.mk' Tryz.func90 (by kernel_rfl) rfl
instance:TF Tryz.prog 91:=TF.mk' Tryz.func91 (by kernel_rfl) rfl
instance:TF Tryz.prog 92:=TF.mk' Tryz.func92 (by kernel_rfl) rfl
instance:TF Tryz.prog 93:=TF.mk' Tryz.func93 (by kernel_rfl) rfl
instance:TF Tryz.prog 94:=TF.mk' Tryz.func94 (by kernel_rfl) rfl
instance:TF Tryz.prog 95:=TF.mk' Tryz.func95 (by kernel_rfl) rfl
instance:TF Tryz.prog 96:=TF.mk' Tryz.func96 (by kernel_rfl) rfl
instance:TF Tryz.prog 97:=TF.mk' Tryz.func97 (by kernel_rfl) rfl
instance:TF Tryz.prog 98:=TF.mk' Tryz.func98 (by kernel_rfl) rfl
instance:TF Tryz.prog 99:=TF.mk' Tryz.func99 (by kernel_rfl) rfl
instance:TF Tryz.prog 100:=TF.mk' Tryz.func100 (by kernel_rfl) rfl
instance:TF Tryz.prog 101:=TF.mk' Tryz.func101 (by kernel_rfl) rfl
instance:TF Tryz.prog 102:=TF.mk' Tryz.func102 (by kernel_rfl) rfl
instance:TF Tryz.prog 103:=TF.mk' Tryz.func103 (by kernel_rfl) rfl
instance:TF Tryz.prog 104:=TF.mk' Tryz.func104 (by kernel_rfl) rfl
instance:TF Tryz.prog 105:=TF.mk' Tryz.func105 (by kernel_rfl) rfl
instance:TF Tryz.prog 106:=TF.mk' Tryz.func106 (by kernel_rfl) rfl
instance:TF Tryz.prog 107:=TF.mk' Tryz.func107 (by kernel_rfl) rfl
instance:TF Tryz.prog 108:=TF.mk' Tryz.func108 (by kernel_rfl) rfl
instance:TF Tryz.prog 109:=TF.mk' Tryz.func109 (by kernel_rfl) rfl
instance:TF Tryz.prog 110:=TF.mk' Tryz.func110 (by kernel_rfl) rfl
instance:TF Tryz.prog 111:=TF.mk' Tryz.func111 (by kernel_rfl) rfl
instance:TF Tryz.prog 112:=TF.mk' Tryz.func112 (by kernel_rfl) rfl
instance:TF Tryz.prog 113:=TF.mk' Tryz.func113 (by kernel_rfl) rfl
instance:TF Tryz.prog 115:=TF.mk' Tryz.func115 (by kernel_rfl) rfl
instance:TF Tryz.prog 116:=TF.mk' Tryz.func116 (by kernel_rfl) rfl
instance:TF Tryz.prog 120:=TF.mk' Tryz.func120 (by kernel_rfl) rfl
instance:TF Tryz.prog 121:=TF.mk' Tryz.func121 (by kernel_rfl) rfl
instance:TF Tryz.prog 122:=TF.mk' Tryz.func122 (by kernel_rfl) rfl
instance:TF Tryz.prog 123:=TF.mk' Tryz.func123 (by kernel_rfl) rfl
instance:TF Tryz.prog 124:=TF.mk' Tryz.func124 (by kernel_rfl) rfl
instance:TF Tryz.prog 125:=TF.mk' Tryz.func125 (by kernel_rfl) rfl
instance:TF Tryz.prog 126:=TF.mk' Tryz.func126 (by kernel_rfl) rfl
instance:TF Tryz.prog 127:=TF.mk' Tryz.func127 (by kernel_rfl) rfl
instance:TF Tryz.prog 128:=TF.mk' Tryz.func128 (by kernel_rfl) rfl
instance:TF Tryz.prog 129:=TF.mk' Tryz.func129 (by kernel_rfl) rfl
instance:TF Tryz.prog 130:=TF.mk' Tryz.func130 (by kernel_rfl) rfl
instance:TF Tryz.prog 131:=TF.mk' Tryz.func131 (by kernel_rfl) rfl
instance:TF Tryz.prog 132:=TF.mk' Tryz.func132 (by kernel_rfl) rfl
instance:TF Tryz.prog 133:=TF.mk' Tryz.func133 (by kernel_rfl) rfl
instance:TF Tryz.prog 134:=TF.mk' Tryz.func134 (by kernel_rfl) rfl
instance:TF Tryz.prog 135:=TF.mk' Tryz.func135 (by kernel_rfl) rfl
instance:TF Tryz.prog 137:=TF.mk' Tryz.func137 (by kernel_rfl) rfl
instance:TF Tryz.prog 138:=TF.mk' Tryz.func138 (by kernel_rfl) rfl
instance:TF Tryz.prog 139:=TF.mk' Tryz.func139 (by kernel_rfl) rfl
instance:TF Tryz.prog 140:=TF.mk' Tryz.func140 (by kernel_rfl) rfl
instance:TF Tryz.prog 141:=TF.mk' Tryz.func141 (by kernel_rfl) rfl
instance:TF Tryz.prog 142:=TF.mk' Tryz.func142 (by kernel_rfl) rfl
instance:TF Tryz.prog 143:=TF.mk' Tryz.func143 (by kernel_rfl) rfl
instance:TF Tryz.prog 144:=TF.mk' Tryz.func144 (by kernel_rfl) rfl
instance:TF Tryz.prog 145:=TF.mk' Tryz.func145 (by kernel_rfl) rfl
instance:TF Tryz.prog 146:=TF.mk' Tryz.func146 (by kernel_rfl) rfl
instance:TF Tryz.prog 147:=TF.mk' Tryz.func147 (by kernel_rfl) rfl
instance:TF Tryz.prog 148:=TF.mk' Tryz.func148 (by kernel_rfl) rfl
instance:TF Tryz.prog 149:=TF.mk' Tryz.func149 (by kernel_rfl) rfl
instance:TF Tryz.prog 150:=TF.mk' Tryz.func150 (by kernel_rfl) rfl
instance:TF Tryz.prog 151:=TF.mk' Tryz.func151 (by kernel_rfl) rfl
instance:TF Tryz.prog 152:=TF.mk' Tryz.func152 (by kernel_rfl) rfl
instance:TF Tryz.prog 153:=TF.mk' Tryz.func153 (by kernel_rfl) rfl
instance:TF Tryz.prog 154:=TF.mk' Tryz.func154 (by kernel_rfl) rfl
instance:TF Tryz.prog 156:=TF.mk' Tryz.func156 (by kernel_rfl) rfl
instance:TF Tryz.prog 160:=TF.mk' Tryz.func160 (by kernel_rfl) rfl
instance:TF Tryz.prog 161:=TF.mk' Tryz.func161 (by kernel_rfl) rfl

theorem mixed:Tryz.prog.follows .mixedOrders=true:=by kernel_rfl

set_option linter.unusedSimpArgs false
set_option linter.unusedVariables false
set_option linter.unusedSectionVars false

abbrev iv (x:Int):Value:=.int .i64 x
abbrev nv (x:Nat):Value:=.int .i64 (x:Int)

def tab {α:Type} (n:Nat) (g:Nat→α):List α:=(List.range n).map g

@[simp] theorem W6 {α:Type} (n:Nat) (g:Nat→α):(tab n g).length=n:=by simp[tab]
theorem W7 {α:Type} {n:Nat} {g:Nat→α} {i:Nat} (h:i<n):(tab n g)[i]?=some (g i):=by simp[tab,h]
theorem Zq {α:Type} {n:Nat} {g:Nat→α} {i:Nat} {d:α} (h:i<n):(tab n g).getD i d=g i:=by simp[List.getD,W7 h]
theorem Y0 {α:Type} {n:Nat} {g g':Nat→α} (h:∀ i,i<n→g i=g' i):tab n g=tab n g':=by
 apply List.map_congr_left
 intro i hi
 exact h i (List.mem_range.1 hi)
theorem Q42 {α:Type} {n:Nat} {xs:List α} {g:Nat→α} (hl:xs.length=n) (h:∀ i,i<n→xs[i]?=some (g i)):xs=tab n g:=by
 apply List.ext_getElem?
 intro i
 rcases Nat.lt_or_ge i n with hi|hi
 ·rw[h i hi,W7 hi]
 ·rw[List.getElem?_eq_none oq,List.getElem?_eq_none (by simp;omega)]
theorem Qlz {α:Type} {n:Nat} {xs:List α} {d:α} (hl:xs.length=n):tab n (fun i=>xs.getD i d)=xs:=by
 refine(Q42 hl fun i hi=>?_).symm
 rw[List.getElem?_eq_getElem oq];simp[List.getD,List.getElem?_eq_getElem (show i<xs.length by omega)]
theorem Qac {α:Type} {n:Nat} {g:Nat→α} {i:Nat} {x:α}:(tab n g).set i x=tab n (fun j=>if j=i then x else g j):=by
 refine Q42 au fun j hj=>?_
 rw[List.getElem?_set]
 by_cases h:i=j
 ·subst h;simp[hj]
 ·rw[if_neg h,W7 hj,if_neg (fun e=>h e.symm)]
theorem Q3h {α:Type} {xs:List α} {i j:Nat} {x d:α} (hi:i<xs.length):(xs.set i x).getD j d=if j=i then x else xs.getD j d:=by
 simp only[List.getD,List.getElem?_set]
 by_cases h:i=j
 ·subst h;simp[hi]
 ·rw[if_neg h,if_neg (fun e=>h e.symm)]
theorem Xj {α:Type} {xs:List α} {i:Nat} {d:α} (h:i<xs.length):xs[i]?=some (xs.getD i d):=by simp[List.getD,List.getElem?_eq_getElem h]
theorem Q7w {α:Type} {xs ys:List α} {d:α} (hl:xs.length=ys.length) (h:∀ i,i<xs.length→xs.getD i d=ys.getD i d):xs=ys:=by
 apply List.ext_getElem?
 intro i
 rcases Nat.lt_or_ge i xs.length with hi|hi
 ·rw[Xj hi (d:=d),Xj oq (d:=d),h i hi]
 ·rw[List.getElem?_eq_none oq,List.getElem?_eq_none oq]
theorem YA {α:Type} {xs:List α} {i:Nat} {d:α} (h:i<xs.length):xs.getD i d∈xs:=by
 have:=Xj (d:=d) h
 exact List.mem_of_getElem? this

def WI (w:World) (v:Value) (n:Nat) (xs:List Int):Prop:=je w 1 v n (xs.map iv)
def RdI (c:Cx) (N:aj) (v:Value) (n:Nat) (xs:List Int):Prop:=Rd c N 1 v n (xs.map iv)
def dX (N:aj) (v:Value) (n:Nat) (xs:List Int):Prop:=aB 3 1 N v n (xs.map iv)
def WN (w:World) (v:Value) (n:Nat) (xs:List Nat):Prop:=je w 1 v n (xs.map nv)
def RdN (c:Cx) (N:aj) (v:Value) (n:Nat) (xs:List Nat):Prop:=Rd c N 1 v n (xs.map nv)
def bP (N:aj) (v:Value) (n:Nat) (xs:List Nat):Prop:=aB 3 1 N v n (xs.map nv)

theorem WI.len {w:World} {v:Value} {n:Nat} {xs:List Int} (h:WI w v n xs):xs.length=n:=by simpa using h.1
theorem RdI.len {c:Cx} {N:aj} {v:Value} {n:Nat} {xs:List Int} (h:RdI c N v n xs):xs.length=n:=by simpa using h.1
theorem dX.len {N:aj} {v:Value} {n:Nat} {xs:List Int} (h:dX N v n xs):xs.length=n:=by simpa using h.1
theorem WN.len {w:World} {v:Value} {n:Nat} {xs:List Nat} (h:WN w v n xs):xs.length=n:=by simpa using h.1
theorem RdN.len {c:Cx} {N:aj} {v:Value} {n:Nat} {xs:List Nat} (h:RdN c N v n xs):xs.length=n:=by simpa using h.1
theorem bP.len {N:aj} {v:Value} {n:Nat} {xs:List Nat} (h:bP N v n xs):xs.length=n:=by simpa using h.1

theorem WI.mono {w w':World} {v:Value} {n:Nat} {xs:List Int} (h:WI w v n xs) (hk:Kp [] w w'):WI w' v n xs:=je.mono h hk
theorem WN.mono {w w':World} {v:Value} {n:Nat} {xs:List Nat} (h:WN w v n xs) (hk:Kp [] w w'):WN w' v n xs:=je.mono h hk
theorem WI.rd {c:Cx} {v:Value} {n:Nat} {xs:List Int} (h:WI c.w0 v n xs) (hM:c.M=[]) (N:aj):RdI c N v n xs:=je.rd h hM N
theorem WN.rd {c:Cx} {v:Value} {n:Nat} {xs:List Nat} (h:WN c.w0 v n xs) (hM:c.M=[]) (N:aj):RdN c N v n xs:=je.rd h hM N
theorem RdI.at {c:Cx} {N H:aj} {w:World} {v:Value} {n:Nat} {xs:List Int} (h:RdI c N v n xs) (hk:Kp c.M c.w0 w) (hs:aI H w) (hN:HSub N H):WI w v n xs:=Rd.at h hk hs hN
theorem RdN.at {c:Cx} {N H:aj} {w:World} {v:Value} {n:Nat} {xs:List Nat} (h:RdN c N v n xs) (hk:Kp c.M c.w0 w) (hs:aI H w) (hN:HSub N H):WN w v n xs:=Rd.at h hk hs hN
theorem dX.rd {c:Cx} {N:aj} {v:Value} {n:Nat} {xs:List Int} (h:dX N v n xs):RdI c N v n xs:=aB.rd h
theorem bP.rd {c:Cx} {N:aj} {v:Value} {n:Nat} {xs:List Nat} (h:bP N v n xs):RdN c N v n xs:=aB.rd h
theorem dX.new {N:aj} {v:Value} {n:Nat} {xs:List Int} {w w':World} (h:dX N v n xs) (hn:New N w w'):WI w' v n xs:=New.rd (c:=⟨Tryz.prog,0,w,[],by simp⟩) h hn
theorem bP.new {N:aj} {v:Value} {n:Nat} {xs:List Nat} {w w':World} (h:bP N v n xs) (hn:New N w w'):WN w' v n xs:=New.rd (c:=⟨Tryz.prog,0,w,[],by simp⟩) h hn

def ints (xs:List Nat):List Int:=xs.map Int.ofNat
@[simp] theorem Qt0 (xs:List Nat):(ints xs).length=xs.length:=by simp[ints]
theorem bP.form {N:aj} {v:Value} {n:Nat} {xs:List Nat} (h:bP N v n xs):∃ A cap,v=.slice A n cap:=by
 obtain⟨_,⟨rfl,rfl,rfl⟩|⟨b,cap,cur,rfl,_⟩⟩:=h
 ·exact⟨_,_,rfl⟩
 ·exact⟨_,_,rfl⟩
theorem dX.form {N:aj} {v:Value} {n:Nat} {xs:List Int} (h:dX N v n xs):∃ A cap,v=.slice A n cap:=by
 obtain⟨_,⟨rfl,rfl,rfl⟩|⟨b,cap,cur,rfl,_⟩⟩:=h
 ·exact⟨_,_,rfl⟩
 ·exact⟨_,_,rfl⟩
theorem WN.form {w:World} {v:Value} {n:Nat} {xs:List Nat} (h:WN w v n xs):∃ A cap,v=.slice A n cap:=by
 obtain⟨_,A,cap,rfl,_⟩:=h
 exact⟨_,_,rfl⟩
theorem WI.form {w:World} {v:Value} {n:Nat} {xs:List Int} (h:WI w v n xs):∃ A cap,v=.slice A n cap:=by
 obtain⟨_,A,cap,rfl,_⟩:=h
 exact⟨_,_,rfl⟩
theorem Qhd (xs:List Nat):(ints xs).map iv=xs.map nv:=by simp[ints,Function.comp_def]
theorem WN.int {w:World} {v:Value} {n:Nat} {xs:List Nat} (h:WN w v n xs):WI w v n (ints xs):=by unfold WI;rw[Qhd];exact h
theorem bP.int {N:aj} {v:Value} {n:Nat} {xs:List Nat} (h:bP N v n xs):dX N v n (ints xs):=by unfold dX;rw[Qhd];exact h
theorem RdN.int {c:Cx} {N:aj} {v:Value} {n:Nat} {xs:List Nat} (h:RdN c N v n xs):RdI c N v n (ints xs):=by unfold RdI;rw[Qhd];exact h

theorem bP.nil:bP [] (.slice none 0 0) 0 []:=aB.nil _ 1
theorem dX.nil:dX [] (.slice none 0 0) 0 []:=aB.nil _ 1

section
variable {c:Cx} {Q:Exit→Act→World→Prop} {m:Mode} {F:ak} {H:aj} {r:List dA} {g:Option (Option Tmp × Bool)} {ns:Bool} {d:Tmp} {ty t t':TypeId} {x y:Operand} {N:aj} {n:Nat} {v:Value}

theorem Qgk {e:TypeId} {xs:List Int} [dF c.P t e] (hd:Qx c.n (some d)=true:=by exact rfl) (hg:Qh F g=some true:=by exact rfl) (hx:ev F x=some v:=by exact rfl) (hv:RdI c N v n xs:=by(first|assumption|exact WI.rd (by assumption) rfl []|exact dX.rd (by assumption)))
  (h:JO c Q m r ((d,.int .i64 n)::F) H):JO c Q m (⟨some d,.call ⟨.builtin .len,#[x],#[t]⟩,ty,g,.bC,ns⟩::r) F H:=XP hd hg hx hv h
theorem Zs {e:TypeId} {xs:List Nat} [dF c.P t e] (hd:Qx c.n (some d)=true:=by exact rfl) (hg:Qh F g=some true:=by exact rfl) (hx:ev F x=some v:=by exact rfl) (hv:RdN c N v n xs:=by(first|assumption|exact WN.rd (by assumption) rfl []|exact bP.rd (by assumption)))
  (h:JO c Q m r ((d,.int .i64 n)::F) H):JO c Q m (⟨some d,.call ⟨.builtin .len,#[x],#[t]⟩,ty,g,.bC,ns⟩::r) F H:=XP hd hg hx hv h
theorem Q8y {e:TypeId} {xs:List Int} {j:Nat} {k:IntKind} [dF c.P t e] [fU c.P e 1] (hd:Qx c.n (some d)=true:=by exact rfl) (hg:Qh F g=some true:=by exact rfl) (hx:ev F x=some v:=by exact rfl) (hy:ev F y=some (.int k j):=by exact rfl) (hv:RdI c N v n xs:=by(first|assumption|exact WI.rd (by assumption) rfl []|exact dX.rd (by assumption))) (hj:j<n:=by(first|assumption|omega))
  (h:JO c Q m r ((d,.pointer (some (dU v j)))::F) H):JO c Q m (⟨some d,.indexAddr t x y,ty,g,.bC,ns⟩::r) F H:=Yw hd hg hx hy hv hj h
theorem Y9 {e:TypeId} {xs:List Nat} {j:Nat} {k:IntKind} [dF c.P t e] [fU c.P e 1] (hd:Qx c.n (some d)=true:=by exact rfl) (hg:Qh F g=some true:=by exact rfl) (hx:ev F x=some v:=by exact rfl) (hy:ev F y=some (.int k j):=by exact rfl) (hv:RdN c N v n xs:=by(first|assumption|exact WN.rd (by assumption) rfl []|exact bP.rd (by assumption))) (hj:j<n:=by(first|assumption|omega))
  (h:JO c Q m r ((d,.pointer (some (dU v j)))::F) H):JO c Q m (⟨some d,.indexAddr t x y,ty,g,.bC,ns⟩::r) F H:=Yw hd hg hx hy hv hj h
theorem Qgl {xs:List Int} {i:Nat} [T1 c.P t] (hd:Qx c.n (some d)=true:=by exact rfl) (hg:Qh F g=some true:=by exact rfl) (hx:ev F x=some (.pointer (some (dU v i))):=by exact rfl) (hl:m.live=true:=by exact rfl) (hv:RdI c N v n xs:=by(first|assumption|exact WI.rd (by assumption) rfl []|exact dX.rd (by assumption))) (hN:HSub N (m.src H):=by exact Q6) (hi:i<n:=by(first|assumption|omega))
  (h:JO c Q m r ((d,iv (xs.getD i 0))::F) H):JO c Q m (⟨some d,.load t x,ty,g,.ld,ns⟩::r) F H :=
 Q1d hd hg hx hl hv hN (by rw[List.getElem?_map,Xj (d:=0) (by have:=hv.len;omega)];rfl) h
theorem Wd {xs:List Nat} {i:Nat} [T1 c.P t] (hd:Qx c.n (some d)=true:=by exact rfl) (hg:Qh F g=some true:=by exact rfl) (hx:ev F x=some (.pointer (some (dU v i))):=by exact rfl) (hl:m.live=true:=by exact rfl) (hv:RdN c N v n xs:=by(first|assumption|exact WN.rd (by assumption) rfl []|exact bP.rd (by assumption))) (hN:HSub N (m.src H):=by exact Q6) (hi:i<n:=by(first|assumption|omega))
  (h:JO c Q m r ((d,nv (xs.getD i 0))::F) H):JO c Q m (⟨some d,.load t x,ty,g,.ld,ns⟩::r) F H :=
 Q1d hd hg hx hl hv hN (by rw[List.getElem?_map,Xj (d:=0) (by have:=hv.len;omega)];rfl) h

theorem Qk3 {A B:aj} {i u:Nat} {xs:List Nat} [T1 c.P t] (hO:bP N v n xs) (hH:H=A++(N++B)) (hg:Qh F g=some true) (hm:m.aW ns r) (hx:ev F x=some (.pointer (some (dU v i)))) (hy:ev F y=some (nv u))
  (hi:i<n) (h:∀ N',bP N' v n (xs.set i u)→JO c Q m.spent r F (A++(N'++B))):JO c Q m (⟨none,.store t x y,ty,g,.seq,ns⟩::r) F H :=
 Qk2 hO hH hg hm hx hy rfl rfl oq (fun N' h'=>h N' (by unfold bP;rw[List.map_set];exact h'))

theorem Q93 (b n:Nat) (hn:n≤maxLen):bP [(b,.cells (Z1 #[iv 0] (n*1)) 3)] (.slice (some ⟨b,0,none⟩) n n) n (tab n fun _=>0):=by
 have h:=aB.mk' (e:=3) (sz:=1) (n:=n) (b:=b) (cs:=Z1 #[iv 0] (n*1)) (by rw[iG];simp) hn
 rw[iG]at h ⊢
 have e:(Array.replicate (n*1) (iv 0)).toList=(tab n fun _=>0).map nv:=by
  apply List.ext_getElem?
  intro i
  simp only[Array.toList_replicate,List.getElem?_map,List.getElem?_replicate,Nat.mul_one]
  by_cases hi:i<n
  ·rw[if_pos hi,W7 hi];rfl
  ·rw[if_neg hi,List.getElem?_eq_none (by simp;omega)];rfl
 rw[e]at h
 exact h

theorem Qrj {i:Nat} (hd:Qx c.n (some d)=true) (hg:Qh F g=some true) (hx:ev F x=some (.int .i64 i)) (hy:ev F y=some (.int .i64 1)) (hb:i+1<9223372036854775808)
  (h:JO c Q m r ((d,.int .i64 ((i+1:Nat):Int))::F) H):JO c Q m (⟨some d,.binOp .add t x y t',ty,g,.bC,ns⟩::r) F H:=Zf (j:=1) hd hg hx hy hb h
theorem Qj {i:Nat} (h:JO c Q m r ((d,.int .i64 ((i+1:Nat):Int))::F) H) (hd:Qx c.n (some d)=true:=by exact rfl) (hg:Qh F g=some true:=by exact rfl) (hx:ev F x=some (.int .i64 i):=by exact rfl) (hy:ev F y=some (.int .i64 1):=by exact rfl) (hb:i+1<9223372036854775808:=by omega):JO c Q m (⟨some d,.binOp .add t x y t',ty,g,.bC,ns⟩::r) F H:=Qrj (hd:=hd) (hg:=hg) (hx:=hx) (hy:=hy) (hb:=hb) (h:=h)

theorem ZD {A B N2:aj} {v2:Value} {k:Nat} {xs ys:List Nat} [dF c.P t 3] [TE c.P 3 1 8 #[iv 0]] (hO:bP N v n xs) (h2:RdN c N2 v2 k ys) (fA:HSub N2 H) (hH:H=A++(N++B)) (hm:m.aW ns r) (hd:Qx c.n (some d)=true) (hg:Qh F g=some true) (hx:ev F x=some v) (hy:ev F y=some v2)
  (hb:n+k≤17000000000000) (h:∀ v' N',bP N' v' (n+k) (xs++ys)→JO c Q m.spent r ((d,v')::F) (A++(N'++B))) :
  JO c Q m (⟨some d,.call ⟨.builtin .append,#[x,y],#[t,t]⟩,ty,g,.seq,ns⟩::r) F H :=
 XR (e:=3) (sz:=1) (bytes:=8) (zc:=#[iv 0]) (xs:=xs.map nv) (news:=ys.map nv) (n:=n) (mm:=k) rfl hO h2 fA hH hm hd hg hx hy (fun u hu=>by obtain⟨a,_,rfl⟩:=List.mem_map.1 hu;rfl) (by simp only[maxLen];omega) oq (fun v' N' h'=>h v' N' (by unfold bP;rw[Vl];exact h'))

theorem Qrh {vs:Array Value} (hd:Qx c.n (some d)=true) (hg:Qh F g=some true) (hx:ev F x=some (.agg vs)) (hl:m.live=true) (h:∀ b,JO c Q m r ((d,(.pointer (some ⟨b,0,none⟩)))::F) ((b,.cells vs t)::H)) :
  JO c Q m (⟨some d,.box t x,ty,g,.alloc,ns⟩::r) F H:=Qod hd hg hx hl rfl h
theorem QB {vs:Array Value} (h:∀ b,JO c Q m r ((d,(.pointer (some ⟨b,0,none⟩)))::F) ((b,.cells vs t)::H)) (hd:Qx c.n (some d)=true:=by exact rfl) (hg:Qh F g=some true:=by exact rfl) (hx:ev F x=some (.agg vs):=by exact rfl) (hl:m.live=true:=by exact rfl):JO c Q m (⟨some d,.box t x,ty,g,.alloc,ns⟩::r) F H:=Qrh (hd:=hd) (hg:=hg) (hx:=hx) (hl:=hl) (h:=h)

theorem Qz {A:Addr} (hd:Qx c.n (some d)=true:=by exact rfl) (hg:Qh F g=some true:=by exact rfl) (hx:ev F x=some (.pointer (some A)):=by exact rfl) (h:JO c Q m r ((d,.pointer (some A))::F) H):JO c Q m (⟨some d,.nilCheck x,ty,g,.bC,ns⟩::r) F H :=
 Yb hd hg (fun a w fr=>by simp only[execOp,fr.ev hx,Sem.run_pure]) h

theorem WL {len e sz b o j:Nat} {k:IntKind} [TAr c.P t len e] [fU c.P e sz] (hd:Qx c.n (some d)=true) (hg:Qh F g=some true) (hx:ev F x=some (.pointer (some ⟨b,o,none⟩))) (hy:ev F y=some (.int k j)) (hj:j<len)
  (h:JO c Q m r ((d,.pointer (some ⟨b,o+j*sz,none⟩))::F) H):JO c Q m (⟨some d,.indexAddr t x y,ty,g,.bC,ns⟩::r) F H :=
 Yb hd hg (fun a w fr=>by
  have h1:(0:Int)≤j∧(j:Int)<len:=by omega
  simp only[execOp,fr.ev hx,fr.ev hy,Instr.indexAt,Instr.sureAddr,asIntOf,Sem.run_bind,Sem.run_pure,Result.andThen_ok,run_underlying (TAr.und (P:=c.P) (t:=t)),h1,and_self,if_true,fU.size (e:=e) (n:=sz),Int.toNat_natCast,Zr]) h

end

section
variable {P:Program} {ops:Array Oper}

def edge (ops:Array Oper) (i j:Nat):Array Oper:=ops.modify j fun o=>{ o with after:=o.after.push ⟨i,.data⟩ }

theorem Q9l {i j:Nat}:(edge ops i j).size=ops.size:=by simp[edge]
theorem Q1q {i j k:Nat}:(edge ops i j)[k]?=(ops[k]?).map fun o=>if k=j then { o with after:=o.after.push ⟨i,.data⟩ } else o:=by
 unfold edge
 rw[Array.getElem?_modify]
 by_cases h:j=k
 ·subst h;simp
 ·rw[if_neg h]
  have h':¬k=j:=fun e=>h e.symm
  simp[h']

theorem Q9k {i j:Nat} (tmps:Array Value):yielded (edge ops i j) tmps=yielded ops tmps:=by
 funext g
 unfold yielded
 rw[Q1q]
 cases ops[g]? with
 | none=>rfl
 | some o =>
  simp only[Option.map_some,Option.bind_some]
  by_cases h:g=j
  ·simp only[if_pos h]
  ·simp only[if_neg h]

theorem Q2z (ρ:Operand→Value) (o:Oper) (af:Array Edge):execOp ρ { o with after:=af }=execOp ρ o:=by
 obtain⟨dst,op,type,pos,after,guard⟩:=o
 cases op<;>rfl

theorem X9 {Q:Exit→Act→World→Prop} {i j:Nat}:∀ (l:List Nat) (a:Act) (w:World),wpOps P (edge ops i j) Q l a w→wpOps P ops Q l a w
 | [],_,_,h=>h
 | k :: l, a, w, h => by
  have ih:wpOps P (edge ops i j) Q l=wpOps P (edge ops i j) Q l:=rfl
  unfold wpOps at h ⊢
  rw[Q1q]at h
  cases ho:ops[k]? with
  | none=>rw[ho]at h;exact X9 l a w h
  | some o =>
   rw[ho]at h
   simp only[Option.map_some]at h ⊢
   rw[Q9k]at h
   have hw:Region.wanted (if k=j then { o with after:=o.after.push ⟨i,.data⟩ } else o) (yielded ops a.tmps)=Region.wanted o (yielded ops a.tmps):=by
    split<;>rfl
   have hd:(if k=j then { o with after:=o.after.push ⟨i,.data⟩ } else o).dst=o.dst:=by split<;>rfl
   have hwp:∀ K,(if k=j then { o with after:=o.after.push ⟨i,.data⟩ } else o).wp P a w K Q=o.wp P a w K Q:=fun K=>by
    split
    ·unfold Oper.wp
     rw[Q2z]
     have:(Oper.upon P { o with after:=o.after.push ⟨i,.data⟩ } a K Q)=(Oper.upon P o a K Q):=by
      funext r;unfold Oper.upon;rfl
     rw[this]
    ·rfl
   have has:(if k=j then { o with after:=o.after.push ⟨i,.data⟩ } else o).asks P a w=o.asks P a w:=by
    split
    ·unfold Oper.asks
     rw[Q2z]
    ·rfl
   rw[hw,hd,hwp,has]at h
   split
   ·rename_i hq
    rw[if_pos hq]at h
    rcases h with h|h
    ·exact .inl (Oper.wp_mono (fun a w=>X9 l a w) h)
    ·exact .inr h
   ·rename_i hq
    rw[if_neg hq]at h
    exact X9 l _ _ h

def jy (ops:Array Oper):Nat→Array Bool→List Nat→Prop
 | 0,_,l=>l=[]
 | f+1,listed,l=>(Region.ready .any ops listed=[]∧l=[])∨∃ k l',k∈Region.ready .any ops listed∧l=k::l'∧jy ops f (listed.setIfInBounds k true) l'

theorem Qay (f t:Nat) (listed:Array Bool):Region.linearise.go .any ops (f+1) t listed []=match (Region.ready .any ops listed)[t % (Region.ready .any ops listed).length]? with
  | some i=>i::Region.linearise.go .any ops f (t / (Region.ready .any ops listed).length) (listed.setIfInBounds i true) []
  | none=>[]:=by
 simp only[Region.linearise.go]
 change (match (Region.ready .any ops listed)[t % (Region.ready .any ops listed).length]? with
   | some i=>Region.linearise.go .any ops f (t / (Region.ready .any ops listed).length) (listed.setIfInBounds i true) [i]
   | none=>[].reverse)=_
 cases (Region.ready .any ops listed)[t % (Region.ready .any ops listed).length]? with
 | none=>rfl
 | some i=>simp only[];rw[linearise_go_acc];rfl

theorem Qar:∀ (f t:Nat) (listed:Array Bool),jy ops f listed (Region.linearise.go .any ops f t listed [])
 | 0,_,_=>rfl
 | f + 1, t, listed => by
  rw[Qay]
  cases hi:(Region.ready .any ops listed)[t % (Region.ready .any ops listed).length]? with
  | none =>
   refine .inl ⟨?_,rfl⟩
   cases hr:Region.ready .any ops listed with
   | nil=>rfl
   | cons x xs =>
    rw[hr]at hi
    have hlt:t % (x::xs).length<(x::xs).length:=Nat.mod_lt _ au
    rw[List.getElem?_eq_getElem hlt]at hi
    cases hi
  | some i=>exact .inr ⟨i,_,List.mem_of_getElem? hi,rfl,Qar f _ _⟩

theorem Q7r:∀ (f:Nat) (listed:Array Bool) (l:List Nat),jy ops f listed l→∃ t,Region.linearise.go .any ops f t listed []=l
 | 0,_,l,h=>⟨0,by rw[show l=[] from h];rfl⟩
 | f + 1, listed, l, h => by
  rcases h with ⟨hr,rfl⟩|⟨k,l',hk,rfl,h⟩
  ·exact⟨0,by rw[Qay,hr];rfl⟩
  ·obtain⟨t,ht⟩:=Q7r f _ l' h
   obtain⟨n,hn,hkn⟩:=List.mem_iff_getElem.1 hk
   refine⟨n+(Region.ready .any ops listed).length*t,?_⟩
   rw[Qay,Nat.add_mul_mod_self_left,Nat.mod_eq_of_lt hn,List.getElem?_eq_getElem hn,hkn,Nat.add_mul_div_left _ _ oq,Nat.div_eq_of_lt hn,Vu]
   simp only[ht]

theorem Yt {i j k:Nat} {listed:Array Bool}:k∈Region.ready .any (edge ops i j) listed↔k∈Region.ready .any ops listed∧(k=j→listed.getD i false=true):=by
 rw[mem_ready,mem_ready,Q1q]
 cases ops[k]? with
 | none=>simp
 | some o =>
  simp only[Option.map_some,Option.some.injEq,exists_eq_left']
  by_cases h:k=j
  ·subst h
   simp only[if_true,true_implies]
   constructor
   ·rintro⟨h1,h2⟩
    exact⟨⟨h1,fun e he=>h2 e (by simp[he])⟩,h2 ⟨i,.data⟩ au rfl⟩
   ·rintro⟨⟨h1,h2⟩,h3⟩
    refine⟨h1,fun e he hb=>?_⟩
    rcases Array.mem_push.1 he with he|rfl
    ·exact h2 e he hb
    ·exact h3
  ·simp[h]

theorem Q2d {listed:Array Bool} {i k:Nat} (h:listed.getD i false=true):(listed.setIfInBounds k true).getD i false=true:=by
 by_cases hki:k=i
 ·subst hki
  have:k<listed.size:=by
   rcases Nat.lt_or_ge k listed.size with h'|h'
   ·exact h'
   ·simp[Array.getElem?_eq_none h']at h
  simp[this]
 ·simpa [hki] using h

theorem Q4o {i j:Nat}:∀ (f:Nat) (listed:Array Bool) (l:List Nat),listed.getD i false=true→jy ops f listed l→jy (edge ops i j) f listed l
 | 0,_,_,_,h=>h
 | f + 1, listed, l, hi, h => by
  have hr:∀ k,k∈Region.ready .any (edge ops i j) listed↔k∈Region.ready .any ops listed:=fun k=>by rw[Yt];simp[hi]
  rcases h with ⟨h1,rfl⟩|⟨k,l',hk,rfl,h⟩
  ·refine .inl ⟨?_,rfl⟩
   cases hq:Region.ready .any (edge ops i j) listed with
   | nil=>rfl
   | cons x xs =>
    have:=(hr x).1 (by rw[hq];simp)
    rw[h1]at this;cases this
  ·exact .inr ⟨k,l',(hr k).2 hk,rfl,Q4o f _ l' (Q2d hi) h⟩

theorem Q5w {listed:Array Bool} {k:Nat} (hk:k∈Region.ready .any ops listed):(listed.setIfInBounds k true).getD k false=true:=by
 have h:=(mem_ready.1 hk).1
 have:k<listed.size:=by
  rcases Nat.lt_or_ge k listed.size with h'|h'
  ·exact h'
  ·simp[Array.getElem?_eq_none h']at h
 simp[this]

theorem Q94 {i j:Nat} (hij:i≠j):∀ (f:Nat) (listed:Array Bool) (l:List Nat),jy ops f listed l→jy (edge ops i j) f listed l∨jy (edge ops j i) f listed l
 | 0,_,_,h=>.inl h
 | f + 1, listed, l, h => by
  rcases h with ⟨h1,rfl⟩|⟨k,l',hk,rfl,h⟩
  ·refine .inl (.inl ⟨?_,rfl⟩)
   cases hq:Region.ready .any (edge ops i j) listed with
   | nil=>rfl
   | cons x xs =>
    have:=(Yt.1 (show x∈Region.ready .any (edge ops i j) listed by rw[hq];simp)).1
    rw[h1]at this;cases this
  ·by_cases hki:k=i
   ·subst hki
    exact .inl (.inr ⟨k,l',Yt.2 ⟨hk,fun e=>absurd e hij⟩,rfl,Q4o f _ l' (Q5w hk) h⟩)
   ·by_cases hkj:k=j
    ·subst hkj
     exact .inr (.inr ⟨k,l',Yt.2 ⟨hk,fun e=>absurd e.symm hij⟩,rfl,Q4o f _ l' (Q5w hk) h⟩)
    ·rcases Q94 hij f _ l' h with h|h
     ·exact .inl (.inr ⟨k,l',Yt.2 ⟨hk,fun e=>absurd e hkj⟩,rfl,h⟩)
     ·exact .inr (.inr ⟨k,l',Yt.2 ⟨hk,fun e=>absurd e hki⟩,rfl,h⟩)
end

section
variable {c:Cx} {Q:Exit→Act→World→Prop} {F:ak} {H:aj}

theorem WF {kd:Nat→Op→Kind} {tail:Nat} {order:List Nat} {ops:Array Oper} {Hs:aj} {a:Act} {w:World}
  (hB:XT c.P kd ops order tail=true) (st:St c F H a w) (iD:aI Hs w) (h:JL c (Q .normal) (.draw Hs true) (Qg kd ops tail order) F H) :
  wpAny c.P .any ops (Only (Q .normal)) ops.size (Array.replicate ops.size false) a { w with drawn:=w.drawn+1 }:=by
 simp only[XT,Bool.and_eq_true]at hB
 obtain⟨hs,ht,hal,hl,hc,hu⟩:=hB
 have hl:order.length=ops.size:=by simpa using hl
 refine XG (kd:=kd) (S:=Src c Hs) _ _ _ _ ?_
 have st':St c F H a { w with drawn:=w.drawn+1 }:=⟨st.fr,st.kp.trans (Kp.drew _ _),st.hs.kp (Kp.drew [] w) au,st.wr⟩
 have hU:∀ i,i<ops.size→gX c.P kd ops i=true→Q0h c.P kd ops (Array.replicate ops.size false) i=true:=fun i hi hx=>by
  have:=List.all_eq_true.1 hu i (List.mem_range.2 hi)
  simpa [hx] using this
 refine sim (Q:=Only (Q .normal)) (K:=Q .normal) hs hU (fun a w h=>h) (fun ch a a' w h=>h.elim) order _ hc ht ops.size true _ H F (fun _=>none) a a _ h ?_ ?_
 ·refine⟨st',fun _=>iD.kp (Kp.drew [] w) au,⟨rfl,rfl,(fun e ob o d h=>by cases h),fun s _=>rfl⟩,⟨fun e ob h=>(by cases h),fun e ob h=>(by cases h),fun e ob o h=>(by cases h),fun e ob o h=>(by cases h),fun e b o h=>(by cases h),fun e b h=>(by cases h),
   fun e e' b h=>by cases h⟩,by simp,by simp,fun j hj=>by simp,fun j hj _=>?_,.inl rfl⟩
  have:=List.all_eq_true.1 hal j (List.mem_range.2 hj)
  simpa using this
 ·exact hl▸List.countP_le_length

theorem Xh {kd:Nat→Op→Kind} {ops:Array Oper} {i j tail:Nat}:∀ l,Qg kd (edge ops i j) tail l=Qg kd ops tail l
 | []=>rfl
 | k :: l => by
  have ho:∀ (kk:Kind) (ns:Bool) (o:Oper),Qt (edge ops i j) kk ns o=Qt ops kk ns o:=fun kk ns o=>by
   unfold Qt
   cases hg:o.guard with
   | none=>rfl
   | some g =>
    obtain⟨g,want⟩:=g
    simp only[]
    rw[Q1q]
    cases ops[g]? with
    | none=>rfl
    | some o' =>
     simp only[Option.map_some]
     split<;>rfl
  simp only[Qg,Q1q]
  cases ops[k]? with
  | none=>exact Xh l
  | some o =>
   simp only[Option.map_some]
   rw[Xh l,ho]
   split<;>rfl

end

def inR:List Nat→Nat→Bool
 | [],_=>false
 | x::l,n=>bif x == n then true else inR l n

def toR (rs:List Nat) (od:List Od):Code→dV
 | .region id ops d=>bif inR rs id then .raw (.region id ops d) else toS od (.region id ops d)
 | .skip=>.skip
 | .seq a b=>.seq (toR rs od a) (toR rs od b)
 | .cond c a b=>.cond c (toR rs od a) (toR rs od b)
 | .block id c=>.block id (toR rs od c)
 | .loop c=>.loop (toR rs od c)
 | .exit id=>.exit id
 | .scope c=>.scope (toR rs od c)
 | .ret=>.ret
 | c=>.raw c

def okR (P:Program) (rs:List Nat) (od:List Od):Code→Bool
 | .region id ops d=>inR rs id || okS P od (.region id ops d)
 | .seq a b=>okR P rs od a && okR P rs od b
 | .cond _ a b=>okR P rs od a && okR P rs od b
 | .block _ c=>okR P rs od c
 | .loop c=>okR P rs od c
 | .scope c=>okR P rs od c
 | _=>true

theorem YO {c:Cx} (rs:List Nat) (od:List Od) (hm:c.P.follows .mixedOrders=true):∀ (s:Code) (Q:Exit→Act→World→Prop) (a:Act) (w:World),
  okR c.P rs od s=true→(toR rs od s).wp c Q a w→s.wp c.P Q a w
 | .skip,Q,a,w,_,h=>wp_skip h
 | .region id ops d,Q,a,w,hk,h=>by
  unfold toR at h
  unfold okR at hk
  cases hr:inR rs id with
  | true=>rw[hr]at h;exact h
  | false=>rw[hr]at h hk;exact aQ od hm _ Q a w (by simpa using hk) h
 | .seq x y,Q,a,w,hk,h=>by
  simp only[okR,Bool.and_eq_true]at hk
  refine wp_seq (YO rs od hm x _ a w hk.1 ?_)
  refine aQ.wp_mono' (fun e a w hq=>?_) h
  cases e<;>first|exact hq|exact YO rs od hm y _ _ _ hk.2 hq
 | .cond x y z,Q,a,w,hk,h=>by
  simp only[okR,Bool.and_eq_true]at hk
  obtain⟨t,hc,h1,h2⟩:=h
  exact wp_cond_split hc (fun ht=>YO rs od hm y _ _ _ hk.1 (h1 ht)) (fun ht=>YO rs od hm z _ _ _ hk.2 (h2 ht))
 | .block id s,Q,a,w,hk,h=>wp_block (YO rs od hm s _ _ _ hk h)
 | .loop s,Q,a,w,hk,h=>by
  obtain⟨I,⟨n,h0⟩,hr⟩:=h
  exact W0 I n h0 fun n a w hi=>YO rs od hm s _ _ _ hk (hr n a w hi)
 | .exit id,Q,a,w,_,h=>wp_exit h
 | .scope s,Q,a,w,hk,h=>wp_scope_straight (YO rs od hm s _ _ _ hk h)
 | .ret,Q,a,w,_,h=>wp_ret h
 | .label _,_,_,_,_,h=>h
 | .goto _,_,_,_,_,h=>h
 | .refuse _,_,_,_,_,h=>h
 | .rangeFunc ..,_,_,_,_,h=>h

theorem Q6o {P:Program} {f:FuncId} {fn:Func} {s:Code} {args:Array Value} {w:World} {R:Ending→World→Prop} {n:Nat} {rs:Array ResultVar} (raws:List Nat) (od:List Od) (M:List Nat) (hM:∀ k∈M,k<w.heap.size)
  (H:aj) (hf:P.funcs[f]?=some fn) (hb:fn.body=some s) (hm:P.follows .mixedOrders=true) (hk:okR P raws od s=true)
  (hn:fn.ntmps=n) (hrs:fn.results=rs) (hF:Nat.ble args.size n=true) (hH:aI H w) (hwr:∀ p∈H,p.1∈M)
  (h:JC ⟨P,n,w,M,hM⟩ (Yp P rs R) (toR raws od s) (aC 0 args.toList) H):Calls P f args w R:=by
 subst hn hrs
 have hF:=Nat.le_of_ble_eq_true hF
 refine calls_of_wp hf hb ?_
 refine Code.wp_mono ?_ (YO (c:=⟨P,fn.ntmps,w,M,hM⟩) raws od hm s _ _ _ hk (h.h _ _ ⟨⟨rfl,?_,fun i v hl=>?_⟩,Kp.refl _ _,hH,fun p hp=>.inr (hwr p hp)⟩))
 ·intro e a w hq
  cases e<;>exact hq
 ·simp;omega
 ·obtain⟨_,h1⟩:=Q10 _ _ _ _ hl
  have h1:args[i]?=some v:=by simpa using h1
  have h2:i<args.size:=by
   rcases Nat.lt_or_ge i args.size with h|h
   ·exact h
   ·rw[Array.getElem?_eq_none h]at h1;cases h1
  rw[Array.getElem?_append_left h2];exact h1


abbrev uv (n:Nat):Value:=.int .u64 (n:Int)

theorem Qbo {n:Nat} (h:n<18446744073709551616):IntKind.u64.wrap (n:Int)=(n:Int):=by rw[IntKind.wrap_u64];omega

section
variable {c:Cx} {Q:Exit→Act→World→Prop} {m:Mode} {F:ak} {H:aj} {r:List dA} {g:Option (Option Tmp × Bool)} {ns:Bool} {d:Tmp} {ty t t':TypeId} {x y:Operand} {i j:Nat}

theorem Q4l (hd:Qx c.n (some d)=true:=by exact rfl) (hg:Qh F g=some true:=by exact rfl) (hx:ev F x=some (uv i):=by exact rfl) (hy:ev F y=some (uv j):=by exact rfl) (hb:i+j<18446744073709551616:=by(first|assumption|omega))
  (h:JO c Q m r ((d,uv (i+j))::F) H):JO c Q m (⟨some d,.binOp .add t x y t',ty,g,.bC,ns⟩::r) F H :=
 ZQ hd hg hx hy (fun w=>by
  rw[binOp_add]
  simp only[Op.intArith,show (i:Int)+(j:Int)=((i+j:Nat):Int) by omega,Qbo hb,Sem.run_pure]) h
theorem Qgg (hd:Qx c.n (some d)=true:=by exact rfl) (hg:Qh F g=some true:=by exact rfl) (hx:ev F x=some (uv i):=by exact rfl) (hy:ev F y=some (uv j):=by exact rfl) (hb:i<18446744073709551616∧j<18446744073709551616:=by(first|assumption|omega))
  (h:JO c Q m r ((d,uv ((i+(18446744073709551616-j)) % 18446744073709551616))::F) H):JO c Q m (⟨some d,.binOp .sub t x y t',ty,g,.bC,ns⟩::r) F H :=
 ZQ hd hg hx hy (fun w=>by
  rw[binOp_sub]
  simp only[Op.intArith,Sem.run_pure,IntKind.wrap_u64]
  rw[show ((i:Int)-(j:Int)) % 18446744073709551616=(((i+(18446744073709551616-j)) % 18446744073709551616:Nat):Int) by omega]) h
theorem Qgi (hd:Qx c.n (some d)=true:=by exact rfl) (hg:Qh F g=some true:=by exact rfl) (hx:ev F x=some (uv i):=by exact rfl) (hy:ev F y=some (uv j):=by exact rfl) (hb:i*j<18446744073709551616:=by(first|assumption|omega))
  (h:JO c Q m r ((d,uv (i*j))::F) H):JO c Q m (⟨some d,.binOp .mul t x y t',ty,g,.bC,ns⟩::r) F H :=
 ZQ hd hg hx hy (fun w=>by
  rw[binOp_mul]
  simp only[Op.intArith,show (i:Int)*(j:Int)=((i*j:Nat):Int) by simp,Qbo hb,Sem.run_pure]) h
theorem Qc5 (hd:Qx c.n (some d)=true:=by exact rfl) (hg:Qh F g=some true:=by exact rfl) (hx:ev F x=some (uv i):=by exact rfl) (hy:ev F y=some (uv j):=by exact rfl) (hb:0<j∧i<18446744073709551616:=by(first|assumption|omega))
  (h:JO c Q m r ((d,uv (i / j))::F) H):JO c Q m (⟨some d,.binOp .quo t x y t',ty,g,.bC,ns⟩::r) F H :=
 ZQ hd hg hx hy (fun w=>by
  have h0:¬((j:Int)=0):=by omega
  have h1:i / j<18446744073709551616:=V5 (Nat.div_le_self _ _) hb.2
  rw[binOp_quo];simp only[Op.intDiv,h0,if_false, ← Int.ofNat_tdiv,Qbo h1,Sem.run_pure]) h
theorem Qc4 (hd:Qx c.n (some d)=true:=by exact rfl) (hg:Qh F g=some true:=by exact rfl) (hx:ev F x=some (uv i):=by exact rfl) (hy:ev F y=some (uv j):=by exact rfl) (hb:0<j:=by(first|assumption|omega))
  (h:JO c Q m r ((d,uv (i % j))::F) H):JO c Q m (⟨some d,.binOp .rem t x y t',ty,g,.bC,ns⟩::r) F H :=
 ZQ hd hg hx hy (fun w=>by
  have h0:¬((j:Int)=0):=by omega
  have h1:(i:Int).tmod j=((i % j:Nat):Int):=(Int.ofNat_tmod i j).symm
  rw[binOp_rem];simp only[Op.intDiv,h0,if_false,Sem.run_pure,h1]) h
theorem Xi (hd:Qx c.n (some d)=true:=by exact rfl) (hg:Qh F g=some true:=by exact rfl) (hx:ev F x=some (uv i):=by exact rfl) (hy:ev F y=some (.int .u64 4294967295):=by exact rfl) (hb:i<18446744073709551616:=by(first|assumption|omega))
  (h:JO c Q m r ((d,uv (i % 4294967296))::F) H):JO c Q m (⟨some d,.binOp .and t x y t',ty,g,.bC,ns⟩::r) F H :=
 ZQ hd hg hx hy (fun w=>by
  rw[binOp_and,intBits_and,show (4294967295:Int)=((2 ^ 32-1:Nat):Int) from rfl,bits_and_u64_nat _ _ hb dq,Nat.and_two_pow_sub_one_eq_mod];rfl) h
theorem Qr5 (hd:Qx c.n (some d)=true) (hg:Qh F g=some true) (hx:ev F x=some (uv i)) (hy:ev F y=some (uv j)) (hb:i<18446744073709551616∧j<18446744073709551616)
  (h:JO c Q m r ((d,uv (i ||| j))::F) H):JO c Q m (⟨some d,.binOp .or t x y t',ty,g,.bC,ns⟩::r) F H :=
 ZQ hd hg hx hy (fun w=>by rw[binOp_or,intBits_or,bits_or_u64_nat _ _ hb.1 hb.2];rfl) h
theorem Q61 {k:IntKind} (hd:Qx c.n (some d)=true:=by exact rfl) (hg:Qh F g=some true:=by exact rfl) (hx:ev F x=some (uv i):=by exact rfl) (hy:ev F y=some (.int k j):=by exact rfl) (hj:j≤64:=by(first|assumption|omega))
  (h:JO c Q m r ((d,uv (i*2 ^ j % 18446744073709551616))::F) H):JO c Q m (⟨some d,.binOp .shl t x y t',ty,g,.bC,ns⟩::r) F H :=
 Yb hd hg (fun a w fr=>by
  have h1:¬((j:Int)<0):=by omega
  have h2:min j 64=j:=by omega
  have h3:IntKind.u64.wrap ((i:Int)*2 ^ j)=((i*2 ^ j % 18446744073709551616:Nat):Int):=by
   rw[IntKind.wrap_u64,show (i:Int)*2 ^ j=((i*2 ^ j:Nat):Int) by simp]
   generalize i*2 ^ j=z
   omega
  simp only[execOp,fr.ev hx,fr.ev hy,eqGuard_shl,binOp_shl,Op.shift,h1,if_false,Int.toNat_natCast]
  simp[IntKind.bits,h2,h3,uv]) h
theorem XN {k:IntKind} (hd:Qx c.n (some d)=true:=by exact rfl) (hg:Qh F g=some true:=by exact rfl) (hx:ev F x=some (uv i):=by exact rfl) (hy:ev F y=some (.int k j):=by exact rfl) (hj:j≤64:=by(first|assumption|omega))
  (h:JO c Q m r ((d,uv (i / 2 ^ j))::F) H):JO c Q m (⟨some d,.binOp .shr t x y t',ty,g,.bC,ns⟩::r) F H :=
 Yb hd hg (fun a w fr=>by
  have h1:¬((j:Int)<0):=by omega
  have h2:min j 64=j:=by omega
  simp only[execOp,fr.ev hx,fr.ev hy,eqGuard_shr,binOp_shr,Op.shift,h1,if_false,Int.toNat_natCast]
  have h3:((i:Int).fdiv (2 ^ j))=((i / 2 ^ j:Nat):Int):=by
   rw[Int.fdiv_eq_ediv_of_nonneg _ (by exact_mod_cast V9 (2 ^ j))];norm_cast
  simp[IntKind.bits,h2,h3,uv]) h
end

class TI (P:Program) (t:TypeId) (k:outParam IntKind):Prop where
 und:P.underlying t=some (.int k)
theorem TI.kind {P:Program} {t:TypeId} {k:IntKind} [h:TI P t k]:P.intKind t=k:=by
 unfold Program.intKind
 rw[h.und]

section
variable {c:Cx} {Q:Exit→Act→World→Prop} {m:Mode} {F:ak} {H:aj} {r:List dA} {g:Option (Option Tmp × Bool)} {ns:Bool} {d:Tmp} {ty t t':TypeId} {x y:Operand}

theorem Q28 {k k':IntKind} {i:Int} (j:Int) [TI c.P t k] [TI c.P t' k'] (hd:Qx c.n (some d)=true) (hg:Qh F g=some true) (hx:ev F x=some (.int k i)) (hj:k'.wrap i=j)
  (h:JO c Q m r ((d,.int k' j)::F) H):JO c Q m (⟨some d,.convert t t' x,ty,g,.bC,ns⟩::r) F H :=
 Yb hd hg (fun a w fr=>by
  have h1:=run_convert_int w t t' k i (by rw[TI.und (P:=c.P) (t:=t)];rfl) (by rw[TI.kind (k:=k')];exact TI.und)
  rw[TI.kind (k:=k'),hj]at h1
  simp only[execOp,fr.ev hx,Sem.run_bind,h1,Result.andThen_ok,Sem.run_pure]) h
end

section
variable {c:Cx} {Q:Exit→Act→World→Prop} {m:Mode} {F:ak} {H:aj} {r:List dA} {g:Option (Option Tmp × Bool)} {ns:Bool} {d:Tmp} {ty t t':TypeId} {x y:Operand}

theorem Qgp {k:IntKind} {i:Nat} [TI c.P t k] [TI c.P t' .i64] (hd:Qx c.n (some d)=true:=by exact rfl) (hg:Qh F g=some true:=by exact rfl) (hx:ev F x=some (.int k i):=by exact rfl) (hb:i<9223372036854775808:=by omega)
  (h:JO c Q m r ((d,.int .i64 i)::F) H):JO c Q m (⟨some d,.convert t t' x,ty,g,.bC,ns⟩::r) F H:=Q28 (k':=.i64) i hd hg hx (in64N hb) h
theorem Qma {b:Bool} [TB c.P t] (hd:Qx c.n (some d)=true:=by exact rfl) (hg:Qh F g=some true:=by exact rfl) (hx:ev F x=some (.bool b):=by exact rfl) (hy:ev F y=some (.bool b):=by exact rfl) (h:JO c Q m r ((d,.bool true)::F) H):JO c Q m (⟨some d,.binOp .eql t x y t',ty,g,.bC,ns⟩::r) F H :=
 Qoa hd hg hx hy (by rw[beq_self_eq_true];exact h)
end

instance:TI Tryz.prog 3 .i64:=⟨Tryz.underlying3⟩
instance:TI Tryz.prog 5 .u8:=⟨Tryz.underlying5⟩
instance:TI Tryz.prog 80 .u64:=⟨Tryz.underlying80⟩


theorem Yq {c:Cx} {R:Value→World→Prop} {F:ak} {H:aj} (hR:∀ a w,St c F H a w→R (.tuple #[]) w):JX c (Yp c.P #[] (aP R)) .normal F H :=
 Qqc [] trivial hR

theorem ZX {N r B:aj} (h:HSub r B):HSub (N++r) (N++B):=by
 obtain⟨l,hl⟩:=h
 exact⟨l,by rw[Vd];exact hl.append_left N⟩

def InW (N:aj) (w:World):Prop:=∀ p∈N,w.heap[p.1]?=some p.2

section
variable {c:Cx} {Q:Exit→Act→World→Prop} {m:Mode} {F:ak} {H:aj} {r:List dA} {g:Option (Option Tmp × Bool)} {ns:Bool} {d:Tmp} {ty t t':TypeId} {x y:Operand}

theorem Qm6 {op:Op} {v:Value} {dd:Option Tmp} (hm:m.dZ ns r) (hd:Qx c.n dd=true) (hg:Qh F g=some true) (hr:∀ a w,dS c.n F a→Src c H w→(execOp a.eval ⟨dd,op,ty, "",#[],none⟩).run c.P w=.ok (.value v) w)
  (h:JO c Q m r (fD F dd v) H):JO c Q m (⟨dd,op,ty,g,.seq,ns⟩::r) F H:=by
 refine⟨⟨hd,.inr ⟨hg,fun a w st hs=>?_⟩⟩⟩
 unfold Oper.wp dA.oper
 rw[hr a w st.fr ⟨st.kp,st.hs⟩]
 exact⟨⟨V8 _,fun _ _ _ _=>rfl⟩,_,H,m,st.put v hd,fun _ h=>.inl h,Xo (Kp.refl _ _) hs hm,h.h⟩

theorem Qkb {A N B Hs:aj} {f:FuncId} {args:Array Operand} {ats:Array TypeId} {vs:List Value} {R:World→Value→World→Prop} {dd:Option Tmp} [TF c.P f] (hH:H=A++(N++B)) (iD:HSub Hs (A++B)) (hd:Qx c.n dd=true) (hg:Qh F g=some true) (ha:Ye F args.toList=some vs)
  (hc:∀ w,Kp c.M c.w0 w→aI H w→Calls c.P f vs.toArray w (aP fun v w'=>Kp (keys N) w w'∧R w v w'))
  (h:∀ w v w',Kp c.M c.w0 w→aI H w→Kp (keys N) w w'→R w v w'→∃ N',keys N'=keys N∧InW N' w'∧JO c Q (.draw Hs true) r (fD F dd v) (A++(N'++B))) :
  JO c Q (.draw Hs true) (⟨dd,.call ⟨.value (.func f),args,ats⟩,ty,g,.seq,ns⟩::r) F H:=by
 subst hH
 refine⟨⟨hd,.inr ⟨hg,fun a w st hs=>?_⟩⟩⟩
 unfold Oper.wp dA.oper
 rw[Q2i st.fr ha]
 refine Calls.mono (hc w st.kp st.hs) fun e w' he=>?_
 cases e with
 | panicked ch=>exact he.elim
 | outgrown=>exact he.elim
 | returned v =>
  obtain⟨hk,hR⟩:=he
  obtain⟨N',hkeys,hb,hj⟩:=h w v w' st.kp st.hs hk hR
  have hp:(A++(N++B)).Perm ((A++B)++N):=(Zi A N B).symm
  have hnd:=(st.perm hp).hs.nd
  have hnd0:=hnd
  rw[Vl,List.nodup_append]at hnd
  obtain⟨st',hstep,hkk⟩:=XH (N':=N') st hp (by have:=hnd.2.1;unfold keys at hkeys;rw[hkeys];exact this) hb (fun k hk'=>.inl (hkeys▸hk')) (fun k h1 h2=>hk.block k h1 h2) hk.size hk.os hk.tape hk.output
  have hAB:aI (A++B) w':=by
   have h0:aI (A++B) w:=(HSub.sub (List.sublist_append_left (A++B) N)).bU (st.perm hp).hs
   exact h0.kp hk fun p hp' hpk=>hnd.2.2 p.1 (List.mem_map.2 ⟨p,hp',rfl⟩) p.1 hpk rfl
  refine⟨hstep,_,_,.draw Hs true,(st'.perm (Zi A N' B)).put v hd,fun k hk'=>hkk k ?_,⟨rfl,fun _=>⟨rfl,iD.bU hAB⟩,fun _=>rfl,.inl rfl⟩,hj.h⟩
  obtain⟨q,hq,rfl⟩:=List.mem_map.1 hk'
  exact List.mem_map.2 ⟨q,(Zi A N' B).mem_iff.2 hq,rfl⟩

theorem Q2u {e:TypeId} {b o len cap j:Nat} {k:IntKind} [dF c.P t e] [fU c.P e 1] (hd:Qx c.n (some d)=true:=by exact rfl) (hg:Qh F g=some true:=by exact rfl) (hx:ev F x=some (.slice (some ⟨b,o,none⟩) len cap):=by exact rfl) (hy:ev F y=some (.int k j):=by exact rfl) (hj:j<len:=by omega)
  (h:JO c Q m r ((d,.pointer (some ⟨b,o+j,none⟩))::F) H):JO c Q m (⟨some d,.indexAddr t x y,ty,g,.bC,ns⟩::r) F H :=
 Qk6 hd hg hx (fun _=>rfl) hy hj h
end


theorem Q46:∀ (l:List Value) (cs:Array Value) (o:Nat),o+l.length≤cs.size→(Zy cs o l).toList=cs.toList.take o++(l++cs.toList.drop (o+l.length))
 | [],cs,o,h=>by rw[Zy];simp
 | v::l,cs,o,h=>by
  simp only[List.length_cons]at h
  rw[Zy,Q46 l _ _ (by rw[Array.size_setIfInBounds];omega),Array.toList_setIfInBounds]
  have hlt:o<(cs.toList.set o v).length:=by simp;omega
  rw[List.take_succ_eq_append_getElem hlt,List.take_set_of_le (V8 _),List.drop_set_of_lt oq]
  simp only[List.getElem_set_self,Vd,List.singleton_append,List.length_cons,Vi,Vv]
  rw[show o+1+l.length=o+(l.length+1) by omega]

theorem Q2y (off:Nat):∀ (l:List Value) (k:Nat) (cs:Array Value),(l.zipIdx k).foldl (fun(cs:Array Value) (x:Value × Nat)=>cs.setIfInBounds (off+x.2) x.1) cs=Zy cs (off+k) l
 | [],k,cs=>rfl
 | v::l,k,cs=>by
  rw[List.zipIdx_cons,List.foldl_cons,Q2y off l,Zy]
  rfl

def flat (vs:List Value):List Value:=(vs.map fun v=>v.cells.toList).flatten

theorem Qhu (sz:Nat):∀ (l:List (Nat × Value)) (vs:List Value) (k:Nat) (cs:Array Value),l.map (·.2)=vs→l.map (·.1)=List.range' k l.length→(∀ v∈vs,v.cells.size=sz)→cs.size=(k+l.length)*sz →
  ∃ cs',Instr.fill (fun j=>some (j*sz,sz)) cs l=some cs'∧cs'.toList=cs.toList.take (k*sz)++flat vs
 | [],vs,k,cs,h1,_,_,h4=>by
  simp only[List.map_nil]at h1
  subst h1
  refine⟨cs,rfl,?_⟩
  rw[Vf (by simp at h4 ⊢;omega)]
  simp[flat]
 | (i, v) :: l, vs, k, cs, h1, h2, h3, h4 => by
  simp only[List.map_cons]at h1
  subst h1
  simp only[List.map_cons,List.length_cons,List.range'_succ,List.cons.injEq]at h2
  obtain⟨rfl,h2⟩:=h2
  have hv:v.cells.size=sz:=h3 v au
  have e1:(i+(l.length+1))*sz=i*sz+sz+l.length*sz:=by rw[Vo,Vo,Nat.one_mul];omega
  simp only[List.length_cons]at h4
  rw[e1]at h4
  have hst:v.cells.zipIdx.foldl (fun(cs:Array Value) (x:Value × Nat)=>cs.setIfInBounds (i*sz+x.2) x.1) cs=Zy cs (i*sz) v.cells.toList:=by
   rw[← Array.foldl_toList,Array.toList_zipIdx,Q2y];rfl
  obtain⟨cs',h5,h6⟩:=Qhu sz l (l.map (·.2)) (i+1) (Zy cs (i*sz) v.cells.toList) rfl h2 (fun u hu=>h3 u (Ve _ hu)) (by rw[Q0j,h4,Vo,Vo,Nat.one_mul])
  refine⟨cs',?_,?_⟩
  ·have hg:¬((v.cells.size≠sz || decide (i*sz+v.cells.size>cs.size))=true):=by
    simp only[hv,ne_eq,not_true_eq_false,decide_false,Bool.false_or,decide_eq_true_eq]
    omega
   show (if (v.cells.size≠sz || decide (i*sz+v.cells.size>cs.size))=true then none else Instr.fill _ (v.cells.zipIdx.foldl (fun(cs:Array Value) (x:Value × Nat)=>cs.setIfInBounds (i*sz+x.2) x.1) cs) l)=_
   rw[if_neg hg,hst,h5]
  ·rw[h6,Q46 _ _ _ (by simp[hv];omega)]
   have hlen:(cs.toList.take (i*sz)++v.cells.toList).length=(i+1)*sz:=by simp[hv,Vo];omega
   rw[← Vd,List.take_left' hlen]
   simp[flat]

def ones:List Value→Prop
 | []=>True
 | v::r=>v.cells=#[v]∧ones r
theorem Q4q:∀ {vs:List Value},ones vs→flat vs=vs∧∀ v∈vs,v.cells.size=1
 | [],_=>⟨rfl,by simp⟩
 | v :: r, ⟨h1, h2⟩ => by
  obtain⟨h3,h4⟩:=Q4q h2
  refine⟨?_,fun u hu=>?_⟩
  ·have:flat (v::r)=v.cells.toList++flat r:=by simp[flat]
   rw[this,h3,h1];rfl
  ·rcases List.mem_cons.1 hu with rfl|hu
   ·rw[h1];rfl
   ·exact h4 u hu

theorem Q30 {F:ak}:∀ {ps:List (Nat × Operand)} {vs:List Value},Ye F (ps.map (·.2))=some vs→∃ l,Xl F ps=some l∧l.map (·.1)=ps.map (·.1)∧l.map (·.2)=vs
 | [],vs,h=>by simp only[List.map_nil,Ye,Option.some.injEq]at h;subst h;exact⟨[],rfl,rfl,rfl⟩
 | (i, x) :: r, vs, h => by
  simp only[List.map_cons,Ye]at h
  split at h
  ·rename_i v vs' h1 h2
   simp only[Option.some.injEq]at h
   subst h
   obtain⟨l,h3,h4,h5⟩:=Q30 h2
   exact⟨(i,v)::l,by simp only[Xl,h1,h3],by simp[h4],by simp[h5]⟩
  ·cases h

section
variable {c:Cx} {Q:Exit→Act→World→Prop} {m:Mode} {F:ak} {H:aj} {r:List dA} {g:Option (Option Tmp × Bool)} {ns:Bool} {d:Tmp} {ty t t':TypeId} {x y:Operand}

theorem YS {i:Nat} (hd:Qx c.n (some d)=true:=by exact rfl) (hg:Qh F g=some true:=by exact rfl) (hx:ev F x=some (.int .i64 i):=by exact rfl) (hy:ev F y=some (.int .i64 1):=by exact rfl) (hb:1≤i∧i<9223372036854775808:=by omega)
  (h:JO c Q m r ((d,.int .i64 ((i-1:Nat):Int))::F) H):JO c Q m (⟨some d,.binOp .sub t x y t',ty,g,.bC,ns⟩::r) F H:=Wq (j:=1) hd hg hx hy hb h
theorem Q8x {i:Nat} (hd:Qx c.n (some d)=true:=by exact rfl) (hg:Qh F g=some true:=by exact rfl) (hx:ev F x=some (.int .i64 i):=by exact rfl) (hy:ev F y=some (.int .i64 2):=by exact rfl) (hb:2≤i∧i<9223372036854775808:=by omega)
  (h:JO c Q m r ((d,.int .i64 ((i-2:Nat):Int))::F) H):JO c Q m (⟨some d,.binOp .sub t x y t',ty,g,.bC,ns⟩::r) F H:=Wq (j:=2) hd hg hx hy hb h
theorem X4 {e:TypeId} {sz bytes n:Nat} {zc:Array Value} {parts:Array (Nat × Operand)} {vs cl:List Value} [dF c.P t e] [TE c.P e sz bytes zc] (hd:Qx c.n (some d)=true) (hg:Qh F g=some true) (hl:m.live=true)
  (hp:Ye F (parts.toList.map (·.2))=some vs) (hi:parts.toList.map (·.1)=List.range n) (hs:∀ v∈vs,v.cells.size=sz) (hf:flat vs=cl) (hn:n*sz≤1000) (hn0:n*sz≠0)
  (h:∀ b,JO c Q m r ((d,(.slice (some ⟨b,0,none⟩) n n))::F) ((b,.cells ⟨cl⟩ e)::H)):JO c Q m (⟨some d,.buildSlice t n parts,ty,g,.alloc,ns⟩::r) F H:=by
 obtain⟨l,h1,h2,h3⟩:=Q30 hp
 have hln:l.length=n:=by
  have:=congrArg List.length h2
  rw[hi]at this
  simpa using this
 obtain⟨cs',h4,h5⟩:=Qhu sz l vs 0 (Z1 zc (n*sz)) h3 (by rw[h2,hi,hln,List.range_eq_range']) hs (by simp[Z1,hln])
 have h6:cs'=⟨cl⟩:=by apply Array.ext';rw[h5, ← hf];simp
 subst h6
 exact Q90 hd hg hl h1 oq hn0 h4 h

theorem QG {e:TypeId} {bytes n:Nat} {zc:Array Value} {parts:Array (Nat × Operand)} {vs:List Value} [dF c.P t e] [TE c.P e 1 bytes zc] (hd:Qx c.n (some d)=true:=by exact rfl) (hg:Qh F g=some true:=by exact rfl) (hl:m.live=true:=by exact rfl)
  (hp:Ye F (parts.toList.map (·.2))=some vs:=by exact rfl) (hi:parts.toList.map (·.1)=List.range n:=by exact rfl) (ho:ones vs:=by(repeat first|exact trivial|refine⟨rfl,?_⟩)) (hn:n*1≤1000:=by decide) (hn0:n*1≠0:=by decide)
  (h:∀ b,JO c Q m r ((d,(.slice (some ⟨b,0,none⟩) n n))::F) ((b,.cells ⟨vs⟩ e)::H)):JO c Q m (⟨some d,.buildSlice t n parts,ty,g,.alloc,ns⟩::r) F H :=
 X4 hd hg hl hp hi (Q4q ho).2 (Q4q ho).1 hn hn0 h

theorem Q7g {A:Option Addr} {len cap:Nat} {e:TypeId} [dF c.P t e] (hd:Qx c.n (some d)=true:=by exact rfl) (hg:Qh F g=some true:=by exact rfl) (hx:ev F x=some (.slice A len cap):=by exact rfl) (hy:ev F y=some (.slice none 0 0):=by exact rfl) (h:JO c Q m r ((d,(.bool A.isNone))::F) H) :
  JO c Q m (⟨some d,.binOp .eql t x y t',ty,g,.bC,ns⟩::r) F H :=
 Yb hd hg (fun a w fr=>by
  simp only[execOp,fr.ev hx,fr.ev hy,binOp]
  have hs:eqGuard .eql t x y (.slice A len cap) (.slice none 0 0)=pure ():=rfl
  simp only[hs,Sem.run_bind,Sem.run_pure,Result.andThen_ok,run_equal_slice_nil w t e A len cap (dF.und (P:=c.P) (t:=t))]) h

end

theorem Yn (b n:Nat) (xs:List Nat) (vs:List Value) (hv:vs=xs.map nv) (hn:xs.length=n) (h:n≤1000):bP [(b,.cells ⟨vs⟩ 3)] (.slice (some ⟨b,0,none⟩) n n) n xs:=by
 subst hv
 have:=aB.mk' (e:=3) (sz:=1) (n:=n) (b:=b) (cs:=⟨xs.map nv⟩) (by simp[hn]) (by simp only[maxLen];omega)
 exact this


abbrev yv (n:Nat):Value:=.int .u8 (n:Int)

def WU (w:World) (v:Value) (n:Nat) (xs:List Nat):Prop:=je w 1 v n (xs.map uv)
def RdU (c:Cx) (N:aj) (v:Value) (n:Nat) (xs:List Nat):Prop:=Rd c N 1 v n (xs.map uv)
def aX (N:aj) (v:Value) (n:Nat) (xs:List Nat):Prop:=aB 80 1 N v n (xs.map uv)
theorem WU.len {w:World} {v:Value} {n:Nat} {xs:List Nat} (h:WU w v n xs):xs.length=n:=by simpa using h.1
theorem RdU.len {c:Cx} {N:aj} {v:Value} {n:Nat} {xs:List Nat} (h:RdU c N v n xs):xs.length=n:=by simpa using h.1
theorem aX.len {N:aj} {v:Value} {n:Nat} {xs:List Nat} (h:aX N v n xs):xs.length=n:=by simpa using h.1
theorem WU.mono {w w':World} {v:Value} {n:Nat} {xs:List Nat} (h:WU w v n xs) (hk:Kp [] w w'):WU w' v n xs:=je.mono h hk
theorem WU.rd {c:Cx} {v:Value} {n:Nat} {xs:List Nat} (h:WU c.w0 v n xs) (hM:c.M=[]) (N:aj):RdU c N v n xs:=je.rd h hM N
theorem RdU.at {c:Cx} {N H:aj} {w:World} {v:Value} {n:Nat} {xs:List Nat} (h:RdU c N v n xs) (hk:Kp c.M c.w0 w) (hs:aI H w) (hN:HSub N H):WU w v n xs:=Rd.at h hk hs hN
theorem aX.rd {c:Cx} {N:aj} {v:Value} {n:Nat} {xs:List Nat} (h:aX N v n xs):RdU c N v n xs:=aB.rd h
theorem aX.new {N:aj} {v:Value} {n:Nat} {xs:List Nat} {w w':World} (h:aX N v n xs) (hn:New N w w'):WU w' v n xs:=New.rd (c:=⟨Tryz.prog,0,w,[],by simp⟩) h hn
theorem aX.form {N:aj} {v:Value} {n:Nat} {xs:List Nat} (h:aX N v n xs):∃ A cap,v=.slice A n cap:=by
 obtain⟨_,⟨rfl,rfl,rfl⟩|⟨b,cap,cur,rfl,_⟩⟩:=h
 ·exact⟨_,_,rfl⟩
 ·exact⟨_,_,rfl⟩
theorem WU.form {w:World} {v:Value} {n:Nat} {xs:List Nat} (h:WU w v n xs):∃ A cap,v=.slice A n cap:=by
 obtain⟨_,A,cap,rfl,_⟩:=h
 exact⟨_,_,rfl⟩
theorem aX.nil:aX [] (.slice none 0 0) 0 []:=aB.nil _ 1
section
variable {c:Cx} {Q:Exit→Act→World→Prop} {m:Mode} {F:ak} {H:aj} {r:List dA} {g:Option (Option Tmp × Bool)} {ns:Bool} {d:Tmp} {ty t t':TypeId} {x y:Operand} {N:aj} {n:Nat} {v:Value}
theorem Z4 {e:TypeId} {xs:List Nat} [dF c.P t e] (hd:Qx c.n (some d)=true:=by exact rfl) (hg:Qh F g=some true:=by exact rfl) (hx:ev F x=some v:=by exact rfl) (hv:RdU c N v n xs:=by(first|assumption|exact WU.rd (by assumption) rfl []|exact aX.rd (by assumption)))
  (h:JO c Q m r ((d,.int .i64 n)::F) H):JO c Q m (⟨some d,.call ⟨.builtin .len,#[x],#[t]⟩,ty,g,.bC,ns⟩::r) F H:=XP hd hg hx hv h
theorem Zb {e:TypeId} {xs:List Nat} {j:Nat} {k:IntKind} [dF c.P t e] [fU c.P e 1] (hd:Qx c.n (some d)=true:=by exact rfl) (hg:Qh F g=some true:=by exact rfl) (hx:ev F x=some v:=by exact rfl) (hy:ev F y=some (.int k j):=by exact rfl) (hv:RdU c N v n xs:=by(first|assumption|exact WU.rd (by assumption) rfl []|exact aX.rd (by assumption))) (hj:j<n:=by(first|assumption|omega))
  (h:JO c Q m r ((d,.pointer (some (dU v j)))::F) H):JO c Q m (⟨some d,.indexAddr t x y,ty,g,.bC,ns⟩::r) F H:=Yw hd hg hx hy hv hj h
theorem YV {xs:List Nat} {i:Nat} [T1 c.P t] (hd:Qx c.n (some d)=true:=by exact rfl) (hg:Qh F g=some true:=by exact rfl) (hx:ev F x=some (.pointer (some (dU v i))):=by exact rfl) (hl:m.live=true:=by exact rfl) (hv:RdU c N v n xs:=by(first|assumption|exact WU.rd (by assumption) rfl []|exact aX.rd (by assumption))) (hN:HSub N (m.src H):=by exact Q6) (hi:i<n:=by(first|assumption|omega))
  (h:JO c Q m r ((d,uv (xs.getD i 0))::F) H):JO c Q m (⟨some d,.load t x,ty,g,.ld,ns⟩::r) F H :=
 Q1d hd hg hx hl hv hN (by rw[List.getElem?_map,Xj (d:=0) (by have:=hv.len;omega)];rfl) h
theorem XL {A B:aj} {i u:Nat} {xs:List Nat} [T1 c.P t] (hO:aX N v n xs) (hH:H=A++(N++B)) (hg:Qh F g=some true) (hm:m.aW ns r) (hx:ev F x=some (.pointer (some (dU v i)))) (hy:ev F y=some (uv u))
  (hi:i<n) (h:∀ N',aX N' v n (xs.set i u)→JO c Q m.spent r F (A++(N'++B))):JO c Q m (⟨none,.store t x y,ty,g,.seq,ns⟩::r) F H :=
 Qk2 hO hH hg hm hx hy rfl rfl oq (fun N' h'=>h N' (by unfold aX;rw[List.map_set];exact h'))
theorem Y8 (b n:Nat) (hn:n≤maxLen):aX [(b,.cells (Z1 #[(.int .u64 0)] (n*1)) 80)] (.slice (some ⟨b,0,none⟩) n n) n (tab n fun _=>0):=by
 have h:=aB.mk' (e:=80) (sz:=1) (n:=n) (b:=b) (cs:=Z1 #[(.int .u64 0)] (n*1)) (by rw[iG];simp) hn
 rw[iG]at h ⊢
 have e:(Array.replicate (n*1) (.int .u64 0)).toList=(tab n fun _=>0).map uv:=by
  apply List.ext_getElem?
  intro i
  simp only[Array.toList_replicate,List.getElem?_map,List.getElem?_replicate,Nat.mul_one]
  by_cases hi:i<n
  ·rw[if_pos hi,W7 hi];rfl
  ·rw[if_neg hi,List.getElem?_eq_none (by simp;omega)];rfl
 rw[e]at h
 exact h
theorem Qgr {A B N2:aj} {v2:Value} {k:Nat} {xs ys:List Nat} [dF c.P t 80] [TE c.P 80 1 8 #[(.int .u64 0)]] (hO:aX N v n xs) (h2:RdU c N2 v2 k ys) (fA:HSub N2 H) (hH:H=A++(N++B)) (hm:m.aW ns r) (hd:Qx c.n (some d)=true) (hg:Qh F g=some true) (hx:ev F x=some v) (hy:ev F y=some v2)
  (hb:n+k≤17000000000000) (h:∀ v' N',aX N' v' (n+k) (xs++ys)→JO c Q m.spent r ((d,v')::F) (A++(N'++B))) :
  JO c Q m (⟨some d,.call ⟨.builtin .append,#[x,y],#[t,t]⟩,ty,g,.seq,ns⟩::r) F H :=
 XR (e:=80) (sz:=1) (bytes:=8) (zc:=#[(.int .u64 0)]) (xs:=xs.map uv) (news:=ys.map uv) (n:=n) (mm:=k) rfl hO h2 fA hH hm hd hg hx hy (fun u hu=>by obtain⟨a,_,rfl⟩:=List.mem_map.1 hu;rfl) (by simp only[maxLen];omega) oq (fun v' N' h'=>h v' N' (by unfold aX;rw[Vl];exact h'))
end

theorem Xy (b n:Nat) (xs:List Nat) (vs:List Value) (hv:vs=xs.map uv) (hn:xs.length=n) (h:n≤1000):aX [(b,.cells ⟨vs⟩ 80)] (.slice (some ⟨b,0,none⟩) n n) n xs:=by
 subst hv
 have:=aB.mk' (e:=80) (sz:=1) (n:=n) (b:=b) (cs:=⟨xs.map uv⟩) (by simp[hn]) (by simp only[maxLen];omega)
 exact this
def ZI (xs:List Nat) (rest:List Value):Array Value:=⟨xs.map uv++rest⟩
theorem Q26 (xs:List Nat) (rest:List Value):(ZI xs rest).size=xs.length+rest.length:=by simp[ZI]
theorem aX.named {N:aj} {v:Value} {n:Nat} {xs:List Nat} (h:aX N v n xs) (hn:0<n):∃ b cap rest,v=.slice (some ⟨b,0,none⟩) n cap∧N=[(b,.cells (ZI xs rest) 80 (0,0))]∧n≤cap∧rest.length=cap-n∧cap≤maxLen:=by
 obtain⟨hl,⟨rfl,rfl,rfl⟩|⟨b,cap,cur,rfl,rfl,h2,h3,h4,h5⟩⟩:=h
 ·omega
 ·refine⟨b,cap,cur.toList.drop n,rfl,?_,h2,by simp[h4],h3⟩
  have:cur=ZI xs (cur.toList.drop n):=by
   apply Array.ext'
   show cur.toList=xs.map uv++cur.toList.drop n
   rw[Nat.mul_one]at h5
   rw[← h5,List.take_append_drop]
  rw[← this]
theorem Q34 {b cap n:Nat} {xs:List Nat} {rest:List Value} (hl:xs.length=n) (hn:n≤cap) (hr:rest.length=cap-n) (hc:cap≤maxLen):aX [(b,.cells (ZI xs rest) 80 (0,0))] (.slice (some ⟨b,0,none⟩) n cap) n xs:=by
 refine⟨by simp[hl],.inr ⟨b,cap,_,rfl,rfl,hn,hc,by rw[Q26];omega,?_⟩⟩
 show (xs.map uv++rest).take (n*1)=xs.map uv
 rw[Nat.mul_one,List.take_append_of_le_length (by simp[hl])]
 exact Vf (by simp[hl])

def WY (w:World) (v:Value) (n:Nat) (xs:List Nat):Prop:=je w 1 v n (xs.map yv)
def RdY (c:Cx) (N:aj) (v:Value) (n:Nat) (xs:List Nat):Prop:=Rd c N 1 v n (xs.map yv)
def fE (N:aj) (v:Value) (n:Nat) (xs:List Nat):Prop:=aB 5 1 N v n (xs.map yv)
theorem WY.len {w:World} {v:Value} {n:Nat} {xs:List Nat} (h:WY w v n xs):xs.length=n:=by simpa using h.1
theorem RdY.len {c:Cx} {N:aj} {v:Value} {n:Nat} {xs:List Nat} (h:RdY c N v n xs):xs.length=n:=by simpa using h.1
theorem fE.len {N:aj} {v:Value} {n:Nat} {xs:List Nat} (h:fE N v n xs):xs.length=n:=by simpa using h.1
theorem WY.mono {w w':World} {v:Value} {n:Nat} {xs:List Nat} (h:WY w v n xs) (hk:Kp [] w w'):WY w' v n xs:=je.mono h hk
theorem WY.rd {c:Cx} {v:Value} {n:Nat} {xs:List Nat} (h:WY c.w0 v n xs) (hM:c.M=[]) (N:aj):RdY c N v n xs:=je.rd h hM N
theorem RdY.at {c:Cx} {N H:aj} {w:World} {v:Value} {n:Nat} {xs:List Nat} (h:RdY c N v n xs) (hk:Kp c.M c.w0 w) (hs:aI H w) (hN:HSub N H):WY w v n xs:=Rd.at h hk hs hN
theorem fE.rd {c:Cx} {N:aj} {v:Value} {n:Nat} {xs:List Nat} (h:fE N v n xs):RdY c N v n xs:=aB.rd h
theorem fE.new {N:aj} {v:Value} {n:Nat} {xs:List Nat} {w w':World} (h:fE N v n xs) (hn:New N w w'):WY w' v n xs:=New.rd (c:=⟨Tryz.prog,0,w,[],by simp⟩) h hn
theorem fE.form {N:aj} {v:Value} {n:Nat} {xs:List Nat} (h:fE N v n xs):∃ A cap,v=.slice A n cap:=by
 obtain⟨_,⟨rfl,rfl,rfl⟩|⟨b,cap,cur,rfl,_⟩⟩:=h
 ·exact⟨_,_,rfl⟩
 ·exact⟨_,_,rfl⟩
theorem fE.nil:fE [] (.slice none 0 0) 0 []:=aB.nil _ 1
section
variable {c:Cx} {Q:Exit→Act→World→Prop} {m:Mode} {F:ak} {H:aj} {r:List dA} {g:Option (Option Tmp × Bool)} {ns:Bool} {d:Tmp} {ty t t':TypeId} {x y:Operand} {N:aj} {n:Nat} {v:Value}
theorem XQ {A B N2:aj} {v2:Value} {k:Nat} {xs ys:List Nat} [dF c.P t 5] [TE c.P 5 1 1 #[(.int .u8 0)]] (hO:fE N v n xs) (h2:RdY c N2 v2 k ys) (fA:HSub N2 H) (hH:H=A++(N++B)) (hm:m.aW ns r) (hd:Qx c.n (some d)=true) (hg:Qh F g=some true) (hx:ev F x=some v) (hy:ev F y=some v2)
  (hb:n+k≤66000000000000) (h:∀ v' N',fE N' v' (n+k) (xs++ys)→JO c Q m.spent r ((d,v')::F) (A++(N'++B))) :
  JO c Q m (⟨some d,.call ⟨.builtin .append,#[x,y],#[t,t]⟩,ty,g,.seq,ns⟩::r) F H :=
 XR (e:=5) (sz:=1) (bytes:=1) (zc:=#[(.int .u8 0)]) (xs:=xs.map yv) (news:=ys.map yv) (n:=n) (mm:=k) rfl hO h2 fA hH hm hd hg hx hy (fun u hu=>by obtain⟨a,_,rfl⟩:=List.mem_map.1 hu;rfl) (by simp only[maxLen];omega) oq (fun v' N' h'=>h v' N' (by unfold fE;rw[Vl];exact h'))
end

theorem WP (b n:Nat) (xs:List Nat) (vs:List Value) (hv:vs=xs.map yv) (hn:xs.length=n) (h:n≤1000):fE [(b,.cells ⟨vs⟩ 5)] (.slice (some ⟨b,0,none⟩) n n) n xs:=by
 subst hv
 have:=aB.mk' (e:=5) (sz:=1) (n:=n) (b:=b) (cs:=⟨xs.map yv⟩) (by simp[hn]) (by simp only[maxLen];omega)
 exact this
def Qo2 (xs:List Nat) (rest:List Value):Array Value:=⟨xs.map yv++rest⟩

abbrev sv (l:List UInt8):Value:=.string ⟨l.toArray⟩
def dQ (l:List UInt8):List Nat:=l.map UInt8.toNat
theorem Q8e (l:List UInt8):(dQ l).length=l.length:=by simp[dQ]
theorem Qj6 {l:List UInt8} {i:Nat}:(dQ l).getD i 0<256:=by
 simp only[dQ,List.getD,List.getElem?_map]
 cases l[i]? with
 | none=>decide
 | some b=>exact UInt8.toNat_lt b
theorem Qq5 {a b:List UInt8} (h:dQ a=dQ b):a=b:=by
 unfold dQ at h
 exact(List.map_inj_right (fun x y e=>UInt8.toNat.inj e)).1 h

class fQ (P:Program) (t:TypeId):Prop where
 und:P.underlying t=some .string

theorem Qaj (l:List UInt8):(ByteArray.mk l.toArray).size=l.length:=by simp[ByteArray.size]
theorem Q14 (l:List UInt8):(ByteArray.mk l.toArray).toList=l:=by
 simp

section
variable {c:Cx} {Q:Exit→Act→World→Prop} {m:Mode} {F:ak} {H:aj} {r:List dA} {g:Option (Option Tmp × Bool)} {ns:Bool} {d:Tmp} {ty t t':TypeId} {x y:Operand} {l l':List UInt8}

theorem Q2t [fQ c.P t] (hd:Qx c.n (some d)=true:=by exact rfl) (hg:Qh F g=some true:=by exact rfl) (hx:ev F x=some (sv l):=by exact rfl)
  (h:JO c Q m r ((d,.int .i64 l.length)::F) H):JO c Q m (⟨some d,.call ⟨.builtin .len,#[x],#[t]⟩,ty,g,.bC,ns⟩::r) F H :=
 Yb hd hg (fun a w fr=>by
  simp[execOp,resolve,invoke,builtin,fr.ev hx,run_len_string w t ty _ (fQ.und (P:=c.P)),goInt,Qaj]) h

theorem Qc9 {k:IntKind} {j:Nat} [fQ c.P t] (hd:Qx c.n (some d)=true:=by exact rfl) (hg:Qh F g=some true:=by exact rfl) (hx:ev F x=some (sv l):=by exact rfl) (hy:ev F y=some (.int k j):=by exact rfl) (hj:j<l.length:=by(first|assumption|omega))
  (h:JO c Q m r ((d,yv ((dQ l).getD j 0))::F) H):JO c Q m (⟨some d,.index t x y,ty,g,.bC,ns⟩::r) F H :=
 Yb hd hg (fun a w fr=>by
  have h1:(0:Int)≤j∧(j:Int)<(ByteArray.mk l.toArray).size:=by rw[Qaj];omega
  have h2:(dQ l).getD j 0=l[j].toNat:=by simp[dQ,List.getD,hj]
  simp only[execOp,fr.ev hx,fr.ev hy,Sem.run_bind,run_index_string w t _ k j (fQ.und (P:=c.P)),h1,and_self,dite_true,Result.andThen_ok,Sem.run_pure,h2]
  rfl) h

theorem Qk9 [fQ c.P t] (hd:Qx c.n (some d)=true:=by exact rfl) (hg:Qh F g=some true:=by exact rfl) (hx:ev F x=some (sv l):=by exact rfl) (hy:ev F y=some (sv l'):=by exact rfl) (h:JO c Q m r ((d,.bool (decide (l=l')))::F) H) :
  JO c Q m (⟨some d,.binOp .eql t x y t',ty,g,.bC,ns⟩::r) F H :=
 Yb hd hg (fun a w fr=>by
  simp[execOp,fr.ev hx,fr.ev hy,eqGuard,binOp_string_eql,Q14]
  by_cases h:l=l'<;>simp[h]) h
theorem Qap [fQ c.P t] (hd:Qx c.n (some d)=true:=by exact rfl) (hg:Qh F g=some true:=by exact rfl) (hx:ev F x=some (sv l):=by exact rfl) (hy:ev F y=some (sv l'):=by exact rfl) (h:JO c Q m r ((d,.bool (decide (l≠l')))::F) H) :
  JO c Q m (⟨some d,.binOp .neq t x y t',ty,g,.bC,ns⟩::r) F H :=
 Yb hd hg (fun a w fr=>by
  simp[execOp,fr.ev hx,fr.ev hy,eqGuard,binOp_string_neq,Q14]
  by_cases h:l=l'<;>simp[h]) h
theorem Qo9 {k:IntKind} {i:Nat} {lo:Operand} [fQ c.P t] (hd:Qx c.n (some d)=true) (hg:Qh F g=some true) (hx:ev F x=some (sv l)) (hy:ev F lo=some (.int k i)) (hi:i≤l.length)
  (h:JO c Q m r ((d,sv (l.drop i))::F) H):JO c Q m (⟨some d,.slice t x (some lo) none none,ty,g,.bC,ns⟩::r) F H :=
 Yb hd hg (fun a w fr=>by
  have h1:(0:Int)≤i:=by omega
  have h2:(i:Int)≤(l.length:Int):=by omega
  simp only[execOp,fr.ev hx,Option.map_some,Option.map_none,fr.ev hy,Sem.run_bind,run_sliceAt_string w t _ _ _ _ (fQ.und (P:=c.P)),run_slice_string_from_if w t _ k i (fQ.und (P:=c.P)),h1,Qaj,h2,and_self,if_true,Result.andThen_ok,Sem.run_pure,Int.toNat_natCast,ByteArray.extract_mk]
  try rw[Vf au]) h
end

section
variable {c:Cx} {Q:Exit→Act→World→Prop} {m:Mode} {F:ak} {H:aj} {r:List dA} {g:Option (Option Tmp × Bool)} {ns:Bool} {d:Tmp} {ty t t':TypeId} {x y:Operand}

theorem Qn2 {xs:List Nat} (h:∀ u∈xs,u<256):dQ (xs.map UInt8.ofNat)=xs:=by
 unfold dQ
 rw[List.map_map]
 conv=>rhs;rw[← List.map_id xs]
 refine List.map_congr_left fun u hu=>?_
 have:=h u hu
 simp[Function.comp]
 omega

theorem Q5n {P:Program} (w:World) (src dst e:TypeId) (cap:Nat) (hs:P.underlying src=some (.slice e)) (he:P.underlying e=some (.int .u8)) (hd:P.underlying dst=some .string) :
  (convert src dst (.slice none 0 cap)).run P w=.ok (sv []) w:=by
 rw[run_convert_bytes_string w src dst e none 0 cap hs he hd]
 simp[Conv.bytesToString]
 rfl

theorem Qgf {N:aj} {v:Value} {n:Nat} {xs:List Nat} {e:TypeId} [dF c.P t e] [TI c.P e .u8] [fQ c.P t'] (hxs:∀ u∈xs,u<256) (hv:RdY c N v n xs) (hN:HSub N H) (hm:m.dZ ns r) (hd:Qx c.n (some d)=true) (hg:Qh F g=some true) (hx:ev F x=some v)
  (h:∀ l,dQ l=xs→JO c Q m r ((d,sv l)::F) H):JO c Q m (⟨some d,.convert t t' x,ty,g,.seq,ns⟩::r) F H:=by
 refine Qm6 (v:=sv (xs.map UInt8.ofNat)) hm hd hg (fun a w fr hs=>?_) (h _ (Qn2 hxs))
 have hlen:=hv.len
 obtain⟨_,A,cap,rfl,_,hrd⟩:=hv
 rcases Nat.eq_zero_or_pos n with h0|h0
 ·subst h0
  have hx0:xs=[]:=List.eq_nil_of_length_eq_zero hlen
  subst hx0
  cases A with
  | none =>
   simp only[execOp,fr.ev hx,Sem.run_bind,Q5n w t t' e cap dF.und TI.und fQ.und,Result.andThen_ok,Sem.run_pure]
   rfl
  | some ad =>
   have h1:=run_convert_bytes_back (P:=c.P) w t t' e ad cap [] dF.und TI.und fQ.und (fun j hj=>by simp at hj)
   simp only[List.length_nil]at h1
   simp only[execOp,fr.ev hx,Sem.run_bind,h1,Result.andThen_ok,Sem.run_pure]
   rfl
 ·obtain⟨⟨b,o,rfl⟩,hcell⟩:=hrd h0
  have h1:=run_convert_bytes_back (P:=c.P) w t t' e ⟨b,o,none⟩ cap (xs.map UInt8.ofNat) dF.und TI.und fQ.und (fun j hj=>by
   have hj':j<xs.length:=by simpa using hj
   have h2:=hcell w ⟨hs.1,hN.bU hs.2⟩ j (yv xs[j]) (by simp[hj'])
   rw[Zr]
   have h3:=hxs xs[j] (List.getElem_mem hj')
   simp only[dU]at h2
   rw[h2]
   simp only[List.getElem_map]
   congr 2
   simp
   omega)
  have h4:(xs.map UInt8.ofNat).length=n:=by simpa using hlen
  rw[h4]at h1
  simp only[execOp,fr.ev hx,Sem.run_bind,h1,Result.andThen_ok,Sem.run_pure]
end


def nrm (l:List Nat):List Nat:=match l with
 | []=>[]
 | x::r=>match nrm r with
  | []=>if x=0 then [] else [x]
  | y::s=>x::y::s

theorem Q4r (l:List Nat):nrm (l++[0])=nrm l:=by
 induction l with
 | nil=>rfl
 | cons x r ih=>simp only[Vi,nrm,ih]
theorem Qct (l:List Nat) {x:Nat} (hx:x≠0):nrm (l++[x])=l++[x]:=by
 induction l with
 | nil=>simp[nrm,hx]
 | cons y r ih =>
  rw[Vi,nrm,ih]
  cases r<;>rfl

def val (b:Nat):List Nat→Nat
 | []=>0
 | x::r=>x+b*val b r
theorem Zx (b:Nat) (l:List Nat):val b (nrm l)=val b l:=by
 induction l with
 | nil=>rfl
 | cons x r ih =>
  rw[nrm,val]
  cases h:nrm r with
  | nil =>
   rw[h]at ih
   have:val b r=0:=ih.symm
   rw[this]
   by_cases hx:x=0
   ·simp[hx,val]
   ·simp[hx,val]
  | cons y s=>rw[h]at ih;simp only[val]at ih ⊢;rw[← ih]
theorem Xa (b:Nat) (l r:List Nat):val b (l++r)=val b l+b ^ l.length*val b r:=by
 induction l with
 | nil=>simp[val]
 | cons x l ih =>
  simp only[Vi,val,ih,List.length_cons,Va,Vp]
  rw[Vc (b ^ l.length) b,Vn]
  omega


section
variable {c:Cx} {Q:Exit→Act→World→Prop} {m:Mode} {F:ak} {H:aj} {r:List dA} {g:Option (Option Tmp × Bool)} {ns:Bool} {d:Tmp} {ty t t':TypeId} {x y:Operand}
theorem Q8z {e:TypeId} {sz b o len cap j:Nat} {hi:Operand} [dF c.P t e] [fU c.P e sz] (hd:Qx c.n (some d)=true) (hg:Qh F g=some true) (hx:ev F x=some (.slice (some ⟨b,o,none⟩) len cap)) (hhi:ev F hi=some (nv j)) (hj:j≤len) (hlc:len≤cap)
  (h:JO c Q m r ((d,(.slice (some ⟨b,o,none⟩) j cap))::F) H):JO c Q m (⟨some d,.slice t x none (some hi) none,ty,g,.bC,ns⟩::r) F H :=
 Yb hd hg (fun a w fr=>by
  have e2:(0:Int)≤j∧(j:Int)≤cap:=by omega
  have e3:(if cap=0 then some (⟨b,o,none⟩:Addr) else some ((⟨b,o,none⟩:Addr).add (0*sz)))=some ⟨b,o,none⟩:=by
   split
   ·rfl
   ·simp[Zr]
  simp only[execOp,fr.ev hx,Option.map_some,fr.ev hhi,Option.map_none,Instr.sliceAt,Sem.run_bind,run_underlying (dF.und (P:=c.P) (t:=t)),Result.andThen_ok,Instr.slice,Instr.sliceBounds,
   Instr.sliceBound,asIntOf,Sem.run_pure,e2,and_self,if_true,Int.toNat_natCast,fU.size (e:=e) (n:=sz),if_false,Nat.sub_zero,e3]) h
end

theorem Q3n {xs:List Nat} {k:Nat} (hk:k≤xs.length) (h:∀ i,k≤i→i<xs.length→xs.getD i 0=0) (h0:0<k→xs.getD (k-1) 0≠0):nrm xs=xs.take k:=by
 have key:∀ d,k+d≤xs.length→nrm (xs.take (k+d))=xs.take k:=fun d=>by
  induction d with
  | zero =>
   intro _
   rcases Nat.eq_zero_or_pos k with h1|h1
   ·subst h1;rfl
   ·have e:xs.take k=xs.take (k-1)++[xs.getD (k-1) 0]:=by
     have h2:xs[k-1]?=some (xs.getD (k-1) 0):=Xj (d:=0) oq
     have h3:=List.take_add_one (l:=xs) (i:=k-1)
     rw[show k-1+1=k by omega,h2]at h3
     exact h3
    rw[Vt,e]
    exact Qct _ (h0 h1)
  | succ d ih =>
   intro hd
   have e:xs.take (k+(d+1))=xs.take (k+d)++[0]:=by
    have h2:xs[k+d]?=some 0:=by rw[Xj (d:=0) oq,h (k+d) oq oq]
    rw[← Nat.add_assoc,List.take_add_one,h2];rfl
   rw[e,Q4r]
   exact ih oq
 have:=key (xs.length-k) oq
 rw[show k+(xs.length-k)=xs.length by omega,List.take_length]at this
 exact this

theorem Xn (w:World) (A:Option Addr) (n cap:Nat) (xs:List Nat) (hv:WU w (.slice A n cap) n xs) (hn:n≤17000000000000) :
  Calls Tryz.prog 141 #[.slice A n cap] w (aP fun v w'=>Kp [] w w'∧∃ k,k≤n∧v=.slice A k cap∧nrm xs=xs.take k):=by
 have hlen:=hv.len
 refine Q9 [] [] au [] Tryz.func141 rfl mixed (by kernel_rfl) Tryz.ntmps141 Tryz.results141 rfl ⟨by simp,by simp⟩ au ?_
 simp only[toS,Qd,Qt,Qk,Ql,ay,Qg,QA,aC]
 repeat' first|apply jS|apply jO|apply jN|apply jT|refine Q0 ?_|apply jB
 refine Qp (ι:=Nat) ⟨fun k=>[(0,.slice A k cap)],fun _=>[],fun k=>k≤n∧∀ i,k≤i→i<n→xs.getD i 0=0,fun k=>k⟩ n ⟨V8 _,fun i a b=>by omega⟩ aF Qy (fun k hk=>?_)
 obtain⟨hkn,hz⟩:=hk
 dsimp only at hkn hz ⊢
 have hrow:WU w (.slice A k cap) k (xs.take k):=by
  obtain⟨h1,A',cap',h2,h3,h4⟩:=hv
  simp only[Value.slice.injEq]at h2
  obtain⟨rfl,_,rfl⟩:=h2
  refine⟨by simp;omega,A,cap,rfl,by omega,fun h0=>⟨(h4 oq).1,fun j u hu=>?_⟩⟩
  obtain⟨⟨b,o,rfl⟩,h5⟩:=h4 oq
  refine h5 j u ?_
  rw[List.map_take,List.getElem?_take]at hu
  split at hu
  ·exact hu
  ·cases hu
 have hcap:k≤cap:=by
  obtain⟨_,_,_,h2,h3,_⟩:=hrow
  simp only[Value.slice.injEq]at h2
  obtain⟨_,_,rfl⟩:=h2
  exact h3
 have hget:0<k→(xs.take k).getD (k-1) 0=xs.getD (k-1) 0:=fun h=>by
  simp only[List.getD,List.getElem?_take,if_pos (show k-1<k by omega)]
 by_cases hk0:0<k
 ·have hg:=hget hk0
  have hA:∃ b o,A=some ⟨b,o,none⟩:=by
   obtain⟨_,_,_,h2,_,h4⟩:=hrow
   simp only[Value.slice.injEq]at h2
   obtain⟨rfl,_,rfl⟩:=h2
   exact(h4 hk0).1
  by_cases hx0:xs.getD (k-1) 0=0
  ·repeat' first|apply jS|apply jO|apply jN|apply jT|refine Q1 ?_|refine YB (h:=?_)|refine YS (h:=?_)|refine QD (h:=?_)|refine Zb (h:=?_)|refine YV (h:=?_)|(refine Zg (h1:=?_) (h2:=?_)<;>intro hc<;>try omega)|(refine Z9 (h1:=?_) (h2:=?_)<;>intro hc<;>try omega)|apply jK|refine Q8 rfl ?_|apply jB
   obtain⟨b,o,rfl⟩:=hA
   refine Q8z rfl rfl rfl rfl oq hcap ?_
   repeat' first|apply jN|refine Q0 ?_|apply jW
   exact Qa (k-1) ⟨by omega,fun i a b=>by
    by_cases e:i=k-1
    ·subst e;exact hx0
    ·exact hz i oq b⟩ aY aF Qy
  ·repeat' first|apply jS|apply jO|apply jN|apply jT|refine Q1 ?_|refine Q0 ?_|refine YB (h:=?_)|refine YS (h:=?_)|refine QD (h:=?_)|refine Zb (h:=?_)|refine YV (h:=?_)|(refine Zg (h1:=?_) (h2:=?_)<;>intro hc<;>try omega)|(refine Z9 (h1:=?_) (h2:=?_)<;>intro hc<;>try omega)|apply jU|apply jE|apply jR|refine Q4 rfl ?_|apply Qe
   exact Qn rfl (fun a w' st=>⟨st.kp,k,hkn,rfl,Q3n oq (fun i a b=>hz i a oq) (fun _=>hx0)⟩)
 ·repeat' first|apply jS|apply jO|apply jN|apply jT|refine Q1 ?_|refine Q0 ?_|refine YB (h:=?_)|refine QC (h:=?_)|(refine Zg (h1:=?_) (h2:=?_)<;>intro hc<;>try omega)|apply jU|apply jE|refine Q4 rfl ?_|apply Qe|refine QU (h:=?_)|apply jR
  exact Qn rfl (fun a w' st=>⟨st.kp,k,hkn,rfl,Q3n oq (fun i a b=>hz i a oq) (fun h=>absurd h hk0)⟩)

theorem Q6p (w:World) (A:Option Addr) (n cap:Nat) (xs:List Nat) (hv:WN w (.slice A n cap) n xs) (hn:n≤17000000000000) :
  Calls Tryz.prog 112 #[.slice A n cap] w (aP fun v w'=>Kp [] w w'∧∃ k,k≤n∧v=.slice A k cap∧nrm xs=xs.take k):=by
 have hlen:=hv.len
 refine Q9 [] [] au [] Tryz.func112 rfl mixed (by kernel_rfl) Tryz.ntmps112 Tryz.results112 rfl ⟨by simp,by simp⟩ au ?_
 simp only[toS,Qd,Qt,Qk,Ql,ay,Qg,QA,aC]
 repeat' first|apply jS|apply jO|apply jN|apply jT|refine Q0 ?_|apply jB
 refine Qp (ι:=Nat) ⟨fun k=>[(0,.slice A k cap)],fun _=>[],fun k=>k≤n∧∀ i,k≤i→i<n→xs.getD i 0=0,fun k=>k⟩ n ⟨V8 _,fun i a b=>by omega⟩ aF Qy (fun k hk=>?_)
 obtain⟨hkn,hz⟩:=hk
 dsimp only at hkn hz ⊢
 have hrow:WN w (.slice A k cap) k (xs.take k):=by
  obtain⟨h1,A',cap',h2,h3,h4⟩:=hv
  simp only[Value.slice.injEq]at h2
  obtain⟨rfl,_,rfl⟩:=h2
  refine⟨by simp;omega,A,cap,rfl,by omega,fun h0=>⟨(h4 oq).1,fun j u hu=>?_⟩⟩
  obtain⟨⟨b,o,rfl⟩,h5⟩:=h4 oq
  refine h5 j u ?_
  rw[List.map_take,List.getElem?_take]at hu
  split at hu
  ·exact hu
  ·cases hu
 have hcap:k≤cap:=by
  obtain⟨_,_,_,h2,h3,_⟩:=hrow
  simp only[Value.slice.injEq]at h2
  obtain⟨_,_,rfl⟩:=h2
  exact h3
 have hget:0<k→(xs.take k).getD (k-1) 0=xs.getD (k-1) 0:=fun h=>by
  simp only[List.getD,List.getElem?_take,if_pos (show k-1<k by omega)]
 by_cases hk0:0<k
 ·have hg:=hget hk0
  have hA:∃ b o,A=some ⟨b,o,none⟩:=by
   obtain⟨_,_,_,h2,_,h4⟩:=hrow
   simp only[Value.slice.injEq]at h2
   obtain⟨rfl,_,rfl⟩:=h2
   exact(h4 hk0).1
  by_cases hx0:xs.getD (k-1) 0=0
  ·repeat' first|apply jS|apply jO|apply jN|apply jT|refine Q1 ?_|refine Y9 (h:=?_)|refine Wd (h:=?_)|refine YB (h:=?_)|refine YS (h:=?_)|refine QD (h:=?_)|(refine Zg (h1:=?_) (h2:=?_)<;>intro hc<;>try omega)|(refine Z9 (h1:=?_) (h2:=?_)<;>intro hc<;>try omega)|apply jK|refine Q8 rfl ?_|apply jB
   obtain⟨b,o,rfl⟩:=hA
   refine Q8z rfl rfl rfl rfl oq hcap ?_
   repeat' first|apply jN|refine Q0 ?_|apply jW
   exact Qa (k-1) ⟨by omega,fun i a b=>by
    by_cases e:i=k-1
    ·subst e;exact hx0
    ·exact hz i oq b⟩ aY aF Qy
  ·repeat' first|apply jS|apply jO|apply jN|apply jT|refine Q1 ?_|refine Q0 ?_|refine Y9 (h:=?_)|refine Wd (h:=?_)|refine YB (h:=?_)|refine YS (h:=?_)|refine QD (h:=?_)|(refine Zg (h1:=?_) (h2:=?_)<;>intro hc<;>try omega)|(refine Z9 (h1:=?_) (h2:=?_)<;>intro hc<;>try omega)|apply jU|apply jE|apply jR|refine Q4 rfl ?_|apply Qe
   exact Qn rfl (fun a w' st=>⟨st.kp,k,hkn,rfl,Q3n oq (fun i a b=>hz i a oq) (fun _=>hx0)⟩)
 ·repeat' first|apply jS|apply jO|apply jN|apply jT|refine Q1 ?_|refine Q0 ?_|refine YB (h:=?_)|refine QC (h:=?_)|(refine Zg (h1:=?_) (h2:=?_)<;>intro hc<;>try omega)|apply jU|apply jE|refine Q4 rfl ?_|apply Qe|refine QU (h:=?_)|apply jR
  exact Qn rfl (fun a w' st=>⟨st.kp,k,hkn,rfl,Q3n oq (fun i a b=>hz i a oq) (fun h=>absurd h hk0)⟩)


structure dG (b:Nat) (l:List Nat):Prop where
 lt:∀ x∈l,x<b
 nrm:nrm l=l

theorem Q7n {x:Nat} {l:List Nat} (h:nrm (x::l)=x::l):nrm l=l:=by
 rw[nrm]at h
 cases hn:nrm l with
 | nil =>
  rw[hn]at h
  by_cases hx:x=0
  ·rw[if_pos hx]at h;cases h
  ·rw[if_neg hx]at h;simpa using h
 | cons y s =>
  rw[hn]at h
  simpa using h
theorem Q4s {l:List Nat}:∀ x∈nrm l,x∈l:=by
 induction l with
 | nil=>intro x h;exact h
 | cons y r ih =>
  intro x h
  rw[nrm]at h
  cases hn:nrm r with
  | nil =>
   rw[hn]at h
   by_cases hy:y=0
   ·rw[if_pos hy]at h;cases h
   ·rw[if_neg hy]at h;simp at h;simp[h]
  | cons z s =>
   rw[hn]at h
   rcases List.mem_cons.1 h with rfl|h
   ·simp
   ·exact Ve _ (ih x (by rw[hn];exact h))
theorem Qh5 (l:List Nat):nrm (nrm l)=nrm l:=by
 induction l with
 | nil=>rfl
 | cons x r ih =>
  rw[nrm]
  cases hn:nrm r with
  | nil =>
   by_cases hx:x=0
   ·simp[hx,nrm]
   ·simp[hx,nrm]
  | cons y s =>
   rw[hn]at ih
   show nrm (x::y::s)=x::y::s
   rw[nrm,ih]
theorem dG.of {b:Nat} {l:List Nat} (h:∀ x∈l,x<b):dG b (Go.Proofs.YtljmapfihjkafaaGreatDoor.nrm l):=⟨fun x hx=>h x (Q4s x hx),Qh5 l⟩
theorem dG.tail {b x:Nat} {l:List Nat} (h:dG b (x::l)):dG b l:=⟨fun y hy=>h.lt y (Ve _ hy),Q7n h.nrm⟩
theorem dG.nil (b:Nat):dG b []:=⟨fun x h=>(by cases h),rfl⟩

theorem Q40 {b:Nat} (hb:0<b):∀ {l:List Nat},Go.Proofs.YtljmapfihjkafaaGreatDoor.nrm l=l→l≠[]→0<val b l
 | [],_,h=>absurd rfl h
 | x :: l, h, _ => by
  rw[val]
  by_cases hl:l=[]
  ·subst hl
   have hx:x≠0:=fun e=>by subst e;simp[Go.Proofs.YtljmapfihjkafaaGreatDoor.nrm]at h
   omega
  ·have:=Nat.mul_pos hb (Q40 hb (Q7n h) hl)
   omega

theorem dG.inj {b:Nat}:∀ {l r:List Nat},dG b l→dG b r→val b l=val b r→l=r
 | [],[],_,_,_=>rfl
 | [],y::r,_,hr,h=>by
  have hb:0<b:=V5 (V9 _) (hr.lt y au)
  have:=Q40 hb hr.nrm au
  rw[← h]at this
  exact absurd this (Nat.lt_irrefl 0)
 | x::l,[],hl,_,h=>by
  have hb:0<b:=V5 (V9 _) (hl.lt x au)
  have:=Q40 hb hl.nrm au
  rw[h]at this
  exact absurd this (Nat.lt_irrefl 0)
 | x :: l, y :: r, hl, hr, h => by
  have hx:=hl.lt x au
  have hy:=hr.lt y au
  rw[val,val]at h
  have h1:x=y:=by
   have:=congrArg (· % b) h
   simpa [Nat.add_mul_mod_self_left,Nat.mod_eq_of_lt hx,Nat.mod_eq_of_lt hy] using this
  have h2:val b l=val b r:=by
   have:=congrArg (· / b) h
   have hb:0<b:=by omega
   simpa [Nat.add_mul_div_left _ _ hb,Nat.div_eq_of_lt hx,Nat.div_eq_of_lt hy] using this
  rw[h1,dG.inj hl.tail hr.tail h2]

theorem Wp {b:Nat}:∀ {l:List Nat},(∀ x∈l,x<b)→val b l<b ^ l.length
 | [],_=>by simp[val]
 | x::l,h=>by
  have h1:=h x au
  have h2:=Wp (l:=l) fun y hy=>h y (Ve _ hy)
  rw[val,List.length_cons,Va,Vc (b ^ l.length) b]
  have h3:b*(val b l+1)≤b*b ^ l.length:=V3 _ h2
  rw[Vp]at h3
  omega
theorem Qbn {b:Nat} (hb:0<b) {l:List Nat} (h:Go.Proofs.YtljmapfihjkafaaGreatDoor.nrm l=l) (hl:l≠[]):b ^ (l.length-1)≤val b l:=by
 induction l with
 | nil=>exact absurd rfl hl
 | cons x l ih =>
  by_cases h0:l=[]
  ·subst h0
   have:=Q40 hb h au
   show b ^ 0≤_
   rw[Nat.pow_zero];exact this
  ·have h1:=ih (Q7n h) h0
   have hp:0<l.length:=List.length_pos_iff.2 h0
   rw[val,List.length_cons,Nat.add_sub_cancel]
   have h2:b ^ l.length=b*b ^ (l.length-1):=by
    conv=>lhs;rw[show l.length=l.length-1+1 by omega,Va,Vc]
   rw[h2]
   have:=V3 b h1
   omega


abbrev W32:Nat:=4294967296

theorem QL {b:Nat} (l:List Nat) (i:Nat):val b (l.take (i+1))=val b (l.take i)+b ^ i*l.getD i 0:=by
 rw[List.take_add_one]
 by_cases h:i<l.length
 ·rw[Xj (d:=0) h,Xa]
  simp only[Option.toList_some,val,Nat.mul_zero,Vt,List.length_take,Nat.min_eq_left (Nat.le_of_lt h)]
 ·rw[List.getElem?_eq_none oq]
  simp[List.getD,List.getElem?_eq_none (show l.length≤i by omega)]
theorem Xt {l:List Nat} {i u:Nat}:(l.set i u).take i=l.take i:=by
 rw[List.take_set_of_le (V8 _)]
theorem QO {l:List Nat} {i u:Nat} (h:i<l.length):(l.set i u).getD i 0=u:=by
 simp[List.getD,h]
theorem QF {b:Nat} (hb:0<b) {l:List Nat} (h:∀ x∈l,x<b) (i:Nat):l.getD i 0<b:=by
 by_cases hi:i<l.length
 ·exact h _ (YA hi)
 ·simp only[List.getD,List.getElem?_eq_none (show l.length≤i by omega),Option.getD_none];exact hb

end Go.Proofs.YtljmapfihjkafaaGreatDoor

