import Derived.Test.YtljmapfihjkafaaGreatDoorMa
import Derived.Test.YtljmapfihjkafaaGreatDoorProg
import Derived.KernelRfl
import Derived.Test.YtljmapfihjkafaaGreatDoorMb
import Derived.Laws.Bits64b
import Derived.Laws.Cover3
import Derived.Laws.Strings
import Derived.Laws.Strings2
import Derived.Laws.Strings3
import Derived.Laws.Concat
import Derived.Laws.Slices
import Derived.Laws.IdiomStrings
set_option maxHeartbeats 16000000
namespace Go.Proofs.YtljmapfihjkafaaGreatDoor
open Go
set_option linter.unusedSimpArgs false
set_option linter.unusedVariables false

instance:T1 Tryz.prog 3:=T1.mk' Tryz.underlying3 rfl (by kernel_rfl)
instance:TZ0 Tryz.prog 3 (#[.int .i64 0]):=TZ0.mk' (z:=.int .i64 0) (by kernel_rfl)
instance:TE Tryz.prog 3 1 8 (#[.int .i64 0]):=TE.mk' (z:=.int .i64 0) (by kernel_rfl)
instance:TSz Tryz.prog 3 1:=TSz.mk' (by kernel_rfl)
instance:T1 Tryz.prog 4:=T1.mk' Tryz.underlying4 rfl (by kernel_rfl)
instance:TZ0 Tryz.prog 4 (#[.bool false]):=TZ0.mk' (z:=.bool false) (by kernel_rfl)
instance:TB Tryz.prog 4:=⟨Tryz.underlying4⟩
instance:TE Tryz.prog 5 1 1 (#[.int .u8 0]):=TE.mk' (z:=.int .u8 0) (by kernel_rfl)
instance:T1 Tryz.prog 9:=T1.mk' Tryz.underlying9 rfl (by kernel_rfl)
instance:TSl Tryz.prog 22 48:=⟨Tryz.underlying22⟩
instance:T1 Tryz.prog 24:=T1.mk' Tryz.underlying24 rfl (by kernel_rfl)
instance:TZ0 Tryz.prog 24 (#[.slice none 0 0]):=TZ0.mk' (z:=.slice none 0 0) (by kernel_rfl)
instance:TE Tryz.prog 24 1 24 (#[.slice none 0 0]):=TE.mk' (z:=.slice none 0 0) (by kernel_rfl)
instance:TSz Tryz.prog 24 1:=TSz.mk' (by kernel_rfl)
instance:TSl Tryz.prog 24 35:=⟨Tryz.underlying24⟩
instance:TN Tryz.prog 26 3:=TN.mk' Tryz.underlying26 rfl (by kernel_rfl)
instance:TSt Tryz.prog 26 (#[.int .i64 0,.int .i64 0,.slice none 0 0]) #[(0,1),(1,1),(2,1)]:=TSt.mk' (z:=.agg #[.int .i64 0,.int .i64 0,.slice none 0 0]) Tryz.underlying26 (by kernel_rfl) (by kernel_rfl)
instance:TZ0 Tryz.prog 26 (#[.int .i64 0,.int .i64 0,.slice none 0 0]):=TZ0.mk' (z:=.agg #[.int .i64 0,.int .i64 0,.slice none 0 0]) (by kernel_rfl)
instance:FA Tryz.prog 26 0 0:=FA.mk' (f:=0) Tryz.underlying26 rfl (by kernel_rfl)
instance:FA Tryz.prog 26 1 1:=FA.mk' (f:=1) Tryz.underlying26 rfl (by kernel_rfl)
instance:FA Tryz.prog 26 2 2:=FA.mk' (f:=2) Tryz.underlying26 rfl (by kernel_rfl)
instance:TN Tryz.prog 35 2:=TN.mk' Tryz.underlying35 rfl (by kernel_rfl)
instance:TSt Tryz.prog 35 (#[.bool false,.string ⟨#[]⟩]) #[(0,1),(1,1)]:=TSt.mk' (z:=.agg #[.bool false,.string ⟨#[]⟩]) Tryz.underlying35 (by kernel_rfl) (by kernel_rfl)
instance:TZ0 Tryz.prog 35 (#[.bool false,.string ⟨#[]⟩]):=TZ0.mk' (z:=.agg #[.bool false,.string ⟨#[]⟩]) (by kernel_rfl)
instance:TE Tryz.prog 35 2 24 (#[.bool false,.string ⟨#[]⟩]):=TE.mk' (z:=.agg #[.bool false,.string ⟨#[]⟩]) (by kernel_rfl)
instance:TSz Tryz.prog 35 2:=TSz.mk' (by kernel_rfl)
instance:FA Tryz.prog 35 0 0:=FA.mk' (f:=0) Tryz.underlying35 rfl (by kernel_rfl)
instance:FA Tryz.prog 35 1 1:=FA.mk' (f:=1) Tryz.underlying35 rfl (by kernel_rfl)
instance:T1 Tryz.prog 48:=T1.mk' Tryz.underlying48 rfl (by kernel_rfl)
instance:TZ0 Tryz.prog 48 (#[.slice none 0 0]):=TZ0.mk' (z:=.slice none 0 0) (by kernel_rfl)
instance:TE Tryz.prog 48 1 24 (#[.slice none 0 0]):=TE.mk' (z:=.slice none 0 0) (by kernel_rfl)
instance:TSz Tryz.prog 48 1:=TSz.mk' (by kernel_rfl)
instance:TSl Tryz.prog 48 3:=⟨Tryz.underlying48⟩
instance:TAr Tryz.prog 66 3 48:=⟨Tryz.underlying66⟩
instance:TZ0 Tryz.prog 69 (#[.int .i64 0,.int .i64 0]):=TZ0.mk' (z:=.agg #[.int .i64 0,.int .i64 0]) (by kernel_rfl)
instance:TAr Tryz.prog 69 2 3:=⟨Tryz.underlying69⟩
instance:TN Tryz.prog 74 15:=TN.mk' Tryz.underlying74 rfl (by kernel_rfl)
instance:TSt Tryz.prog 74 (#[.int .i64 0,.int .i64 0,.slice none 0 0,.int .i64 0,.int .i64 0,.slice none 0 0,.int .i64 0,.int .i64 0,.slice none 0 0,.int .i64 0,.int .i64 0,.slice none 0 0,.int .i64 0,.int .i64 0,.slice none 0 0]) #[(0,3),(3,3),(6,3),(9,3),(12,3)]:=TSt.mk' (z:=.agg #[.int .i64 0,.int .i64 0,.slice none 0 0,.int .i64 0,.int .i64 0,.slice none 0 0,.int .i64 0,.int .i64 0,.slice none 0 0,.int .i64 0,.int .i64 0,.slice none 0 0,.int .i64 0,.int .i64 0,.slice none 0 0]) Tryz.underlying74 (by kernel_rfl) (by kernel_rfl)
instance:TZ0 Tryz.prog 74 (#[.int .i64 0,.int .i64 0,.slice none 0 0,.int .i64 0,.int .i64 0,.slice none 0 0,.int .i64 0,.int .i64 0,.slice none 0 0,.int .i64 0,.int .i64 0,.slice none 0 0,.int .i64 0,.int .i64 0,.slice none 0 0]):=TZ0.mk' (z:=.agg #[.int .i64 0,.int .i64 0,.slice none 0 0,.int .i64 0,.int .i64 0,.slice none 0 0,.int .i64 0,.int .i64 0,.slice none 0 0,.int .i64 0,.int .i64 0,.slice none 0 0,.int .i64 0,.int .i64 0,.slice none 0 0]) (by kernel_rfl)
instance:FA Tryz.prog 74 0 0:=FA.mk' (f:=0) Tryz.underlying74 rfl (by kernel_rfl)
instance:FA Tryz.prog 74 1 3:=FA.mk' (f:=1) Tryz.underlying74 rfl (by kernel_rfl)
instance:FA Tryz.prog 74 2 6:=FA.mk' (f:=2) Tryz.underlying74 rfl (by kernel_rfl)
instance:FA Tryz.prog 74 3 9:=FA.mk' (f:=3) Tryz.underlying74 rfl (by kernel_rfl)
instance:T1 Tryz.prog 80:=T1.mk' Tryz.underlying80 rfl (by kernel_rfl)
instance:TE Tryz.prog 80 1 8 (#[.int .u64 0]):=TE.mk' (z:=.int .u64 0) (by kernel_rfl)
instance:TSz Tryz.prog 80 1:=TSz.mk' (by kernel_rfl)
instance:TN Tryz.prog 91 16:=TN.mk' Tryz.underlying91 rfl (by kernel_rfl)
instance:TSt Tryz.prog 91 (#[.int .i64 0,.int .i64 0,.slice none 0 0,.int .i64 0,.int .i64 0,.slice none 0 0,.int .i64 0,.int .i64 0,.slice none 0 0,.int .i64 0,.int .i64 0,.slice none 0 0,.int .i64 0,.int .i64 0,.slice none 0 0,.slice none 0 0]) #[(0,15),(15,1)]:=TSt.mk' (z:=.agg #[.int .i64 0,.int .i64 0,.slice none 0 0,.int .i64 0,.int .i64 0,.slice none 0 0,.int .i64 0,.int .i64 0,.slice none 0 0,.int .i64 0,.int .i64 0,.slice none 0 0,.int .i64 0,.int .i64 0,.slice none 0 0,.slice none 0 0]) Tryz.underlying91 (by kernel_rfl) (by kernel_rfl)
instance:TZ0 Tryz.prog 91 (#[.int .i64 0,.int .i64 0,.slice none 0 0,.int .i64 0,.int .i64 0,.slice none 0 0,.int .i64 0,.int .i64 0,.slice none 0 0,.int .i64 0,.int .i64 0,.slice none 0 0,.int .i64 0,.int .i64 0,.slice none 0 0,.slice none 0 0]):=TZ0.mk' (z:=.agg #[.int .i64 0,.int .i64 0,.slice none 0 0,.int .i64 0,.int .i64 0,.slice none 0 0,.int .i64 0,.int .i64 0,.slice none 0 0,.int .i64 0,.int .i64 0,.slice none 0 0,.int .i64 0,.int .i64 0,.slice none 0 0,.slice none 0 0]) (by kernel_rfl)
instance:FA Tryz.prog 91 0 0:=FA.mk' (f:=0) Tryz.underlying91 rfl (by kernel_rfl)
instance:FA Tryz.prog 91 1 15:=FA.mk' (f:=1) Tryz.underlying91 rfl (by kernel_rfl)
instance:T1 Tryz.prog 104:=T1.mk' Tryz.underlying104 rfl (by kernel_rfl)
instance:TSl Tryz.prog 104 24:=⟨Tryz.underlying104⟩
instance:T1 Tryz.prog 105:=T1.mk' Tryz.underlying105 rfl (by kernel_rfl)
instance:TSl Tryz.prog 105 24:=⟨Tryz.underlying105⟩
instance:TSt Tryz.prog 108 (#[.slice none 0 0,.slice none 0 0,.slice none 0 0,.slice none 0 0,.slice none 0 0]) #[(0,1),(1,1),(2,1),(3,1),(4,1)]:=TSt.mk' (z:=.agg #[.slice none 0 0,.slice none 0 0,.slice none 0 0,.slice none 0 0,.slice none 0 0]) Tryz.underlying108 (by kernel_rfl) (by kernel_rfl)
instance:FA Tryz.prog 108 0 0:=FA.mk' (f:=0) Tryz.underlying108 rfl (by kernel_rfl)
instance:FA Tryz.prog 108 1 1:=FA.mk' (f:=1) Tryz.underlying108 rfl (by kernel_rfl)
instance:FA Tryz.prog 108 2 2:=FA.mk' (f:=2) Tryz.underlying108 rfl (by kernel_rfl)
instance:FA Tryz.prog 108 3 3:=FA.mk' (f:=3) Tryz.underlying108 rfl (by kernel_rfl)
instance:FA Tryz.prog 108 4 4:=FA.mk' (f:=4) Tryz.underlying108 rfl (by kernel_rfl)
instance:TSt Tryz.prog 110 (#[.slice none 0 0,.slice none 0 0,.slice none 0 0,.slice none 0 0,.slice none 0 0,.int .i64 0,.int .i64 0]) #[(0,5),(5,2)]:=TSt.mk' (z:=.agg #[.slice none 0 0,.slice none 0 0,.slice none 0 0,.slice none 0 0,.slice none 0 0,.int .i64 0,.int .i64 0]) Tryz.underlying110 (by kernel_rfl) (by kernel_rfl)
instance:FA Tryz.prog 110 0 0:=FA.mk' (f:=0) Tryz.underlying110 rfl (by kernel_rfl)
instance:FA Tryz.prog 110 1 5:=FA.mk' (f:=1) Tryz.underlying110 rfl (by kernel_rfl)
instance:TN Tryz.prog 117 8:=TN.mk' Tryz.underlying117 rfl (by kernel_rfl)
instance:TSt Tryz.prog 117 (#[.bool false,.string ⟨#[]⟩,.bool false,.string ⟨#[]⟩,.bool false,.string ⟨#[]⟩,.bool false,.string ⟨#[]⟩]) #[(0,2),(2,2),(4,2),(6,2)]:=TSt.mk' (z:=.agg #[.bool false,.string ⟨#[]⟩,.bool false,.string ⟨#[]⟩,.bool false,.string ⟨#[]⟩,.bool false,.string ⟨#[]⟩]) Tryz.underlying117 (by kernel_rfl) (by kernel_rfl)
instance:TZ0 Tryz.prog 117 (#[.bool false,.string ⟨#[]⟩,.bool false,.string ⟨#[]⟩,.bool false,.string ⟨#[]⟩,.bool false,.string ⟨#[]⟩]):=TZ0.mk' (z:=.agg #[.bool false,.string ⟨#[]⟩,.bool false,.string ⟨#[]⟩,.bool false,.string ⟨#[]⟩,.bool false,.string ⟨#[]⟩]) (by kernel_rfl)
instance:FA Tryz.prog 117 0 0:=FA.mk' (f:=0) Tryz.underlying117 rfl (by kernel_rfl)
instance:FA Tryz.prog 117 1 2:=FA.mk' (f:=1) Tryz.underlying117 rfl (by kernel_rfl)
instance:FA Tryz.prog 117 2 4:=FA.mk' (f:=2) Tryz.underlying117 rfl (by kernel_rfl)
instance:FA Tryz.prog 117 3 6:=FA.mk' (f:=3) Tryz.underlying117 rfl (by kernel_rfl)
instance:TSt Tryz.prog 125 (#[.slice none 0 0,.slice none 0 0,.slice none 0 0,.slice none 0 0,.slice none 0 0]) #[(0,1),(1,1),(2,1),(3,1),(4,1)]:=TSt.mk' (z:=.agg #[.slice none 0 0,.slice none 0 0,.slice none 0 0,.slice none 0 0,.slice none 0 0]) Tryz.underlying125 (by kernel_rfl) (by kernel_rfl)
instance:FA Tryz.prog 125 0 0:=FA.mk' (f:=0) Tryz.underlying125 rfl (by kernel_rfl)
instance:FA Tryz.prog 125 1 1:=FA.mk' (f:=1) Tryz.underlying125 rfl (by kernel_rfl)
instance:FA Tryz.prog 125 2 2:=FA.mk' (f:=2) Tryz.underlying125 rfl (by kernel_rfl)
instance:FA Tryz.prog 125 3 3:=FA.mk' (f:=3) Tryz.underlying125 rfl (by kernel_rfl)
instance:FA Tryz.prog 125 4 4:=FA.mk' (f:=4) Tryz.underlying125 rfl (by kernel_rfl)
instance:T1 Tryz.prog 132:=T1.mk' Tryz.underlying132 rfl (by kernel_rfl)
instance:TZ0 Tryz.prog 132 (#[.slice none 0 0]):=TZ0.mk' (z:=.slice none 0 0) (by kernel_rfl)
instance:TSl Tryz.prog 132 5:=⟨Tryz.underlying132⟩
instance:TSl Tryz.prog 136 80:=⟨Tryz.underlying136⟩
instance:TF Tryz.prog 13:=TF.mk' Tryz.func13 (by kernel_rfl) rfl
instance:TF Tryz.prog 14:=TF.mk' Tryz.func14 (by kernel_rfl) rfl
instance:TF Tryz.prog 15:=TF.mk' Tryz.func15 (by kernel_rfl) rfl
instance:TF Tryz.prog 16:=TF.mk' Tryz.func16 (by kernel_rfl) rfl
instance:TF Tryz.prog 17:=TF.mk' Tryz.func17 (by kernel_rfl) rfl
instance:TF Tryz.prog 18:=TF.mk' Tryz.func18 (by kernel_rfl) rfl
instance:TF Tryz.prog 19:=TF.mk' Tryz.func19 (by kernel_rfl) rfl
instance:TF Tryz.prog 20:=TF.mk' Tryz.func20 (by kernel_rfl) rfl
instance:TF Tryz.prog 21:=TF.mk' Tryz.func21 (by kernel_rfl) rfl
instance:TF Tryz.prog 23:=TF.mk' Tryz.func23 (by kernel_rfl) rfl
instance:TF Tryz.prog 25:=TF.mk' Tryz.func25 (by kernel_rfl) rfl
instance:TF Tryz.prog 26:=TF.mk' Tryz.func26 (by kernel_rfl) rfl
instance:TF Tryz.prog 27:=TF.mk' Tryz.func27 (by kernel_rfl) rfl
instance:TF Tryz.prog 28:=TF.mk' Tryz.func28 (by kernel_rfl) rfl
instance:TF Tryz.prog 29:=TF.mk' Tryz.func29 (by kernel_rfl) rfl
instance:TF Tryz.prog 30:=TF.mk' Tryz.func30 (by kernel_rfl) rfl
instance:TF Tryz.prog 31:=TF.mk' Tryz.func31 (by kernel_rfl) rfl
instance:TF Tryz.prog 33:=TF.mk' Tryz.func33 (by kernel_rfl) rfl
instance:TF Tryz.prog 34:=TF.mk' Tryz.func34 (by kernel_rfl) rfl
instance:TF Tryz.prog 35:=TF.mk' Tryz.func35 (by kernel_rfl) rfl
instance:TF Tryz.prog 36:=TF.mk' Tryz.func36 (by kernel_rfl) rfl
instance:TF Tryz.prog 37:=TF.mk' Tryz.func37 (by kernel_rfl) rfl
instance:TF Tryz.prog 38:=TF.mk' Tryz.func38 (by kernel_rfl) rfl
instance:TF Tryz.prog 39:=TF.mk' Tryz.func39 (by kernel_rfl) rfl
instance:TF Tryz.prog 40:=TF.mk' Tryz.func40 (by kernel_rfl) rfl
instance:TF Tryz.prog 41:=TF.mk' Tryz.func41 (by kernel_rfl) rfl
instance:TF Tryz.prog 42:=TF.mk' Tryz.func42 (by kernel_rfl) rfl
instance:TF Tryz.prog 43:=TF.mk' Tryz.func43 (by kernel_rfl) rfl
instance:TF Tryz.prog 44:=TF.mk' Tryz.func44 (by kernel_rfl) rfl
instance:TF Tryz.prog 45:=TF.mk' Tryz.func45 (by kernel_rfl) rfl
instance:TF Tryz.prog 46:=TF.mk' Tryz.func46 (by kernel_rfl) rfl
instance:TF Tryz.prog 47:=TF.mk' Tryz.func47 (by kernel_rfl) rfl
instance:TF Tryz.prog 48:=TF.mk' Tryz.func48 (by kernel_rfl) rfl
instance:TF Tryz.prog 49:=TF.mk' Tryz.func49 (by kernel_rfl) rfl
instance:TF Tryz.prog 50:=TF.mk' Tryz.func50 (by kernel_rfl) rfl
instance:TF Tryz.prog 51:=TF.mk' Tryz.func51 (by kernel_rfl) rfl
instance:TF Tryz.prog 52:=TF.mk' Tryz.func52 (by kernel_rfl) rfl
instance:TF Tryz.prog 53:=TF.mk' Tryz.func53 (by kernel_rfl) rfl
instance:TF Tryz.prog 54:=TF.mk' Tryz.func54 (by kernel_rfl) rfl
instance:TF Tryz.prog 55:=TF.mk' Tryz.func55 (by kernel_rfl) rfl
instance:TF Tryz.prog 57:=TF.mk' Tryz.func57 (by kernel_rfl) rfl
instance:TF Tryz.prog 58:=TF.mk' Tryz.func58 (by kernel_rfl) rfl
instance:TF Tryz.prog 59:=TF.mk' Tryz.func59 (by kernel_rfl) rfl
instance:TF Tryz.prog 60:=TF.mk' Tryz.func60 (by kernel_rfl) rfl
instance:TF Tryz.prog 61:=TF.mk' Tryz.func61 (by kernel_rfl) rfl
instance:TF Tryz.prog 62:=TF.mk' Tryz.func62 (by kernel_rfl) rfl
instance:TF Tryz.prog 63:=TF.mk' Tryz.func63 (by kernel_rfl) rfl
instance:TF Tryz.prog 64:=TF.mk' Tryz.func64 (by kernel_rfl) rfl
instance:TF Tryz.prog 66:=TF.mk' Tryz.func66 (by kernel_rfl) rfl
instance:TF Tryz.prog 67:=TF.mk' Tryz.func67 (by kernel_rfl) rfl
instance:TF Tryz.prog 68:=TF.mk' Tryz.func68 (by kernel_rfl) rfl
instance:TF Tryz.prog 69:=TF.mk' Tryz.func69 (by kernel_rfl) rfl
instance:TF Tryz.prog 70:=TF.mk' Tryz.func70 (by kernel_rfl) rfl
instance:TF Tryz.prog 71:=TF.mk' Tryz.func71 (by kernel_rfl) rfl
instance:TF Tryz.prog 72:=TF.mk' Tryz.func72 (by kernel_rfl) rfl
instance:TF Tryz.prog 73:=TF.mk' Tryz.func73 (by kernel_rfl) rfl
instance:TF Tryz.prog 74:=TF.mk' Tryz.func74 (by kernel_rfl) rfl
instance:TF Tryz.prog 75:=TF.mk' Tryz.func75 (by kernel_rfl) rfl
instance:TF Tryz.prog 76:=TF.mk' Tryz.func76 (by kernel_rfl) rfl
instance:TF Tryz.prog 77:=TF.mk' Tryz.func77 (by kernel_rfl) rfl
instance:TF Tryz.prog 78:=TF.mk' Tryz.func78 (by kernel_rfl) rfl
instance:TF Tryz.prog 79:=TF.mk' Tryz.func79 (by kernel_rfl) rfl
instance:TF Tryz.prog 80:=TF.mk' Tryz.func80 (by kernel_rfl) rfl
instance:TF Tryz.prog 81:=TF.mk' Tryz.func81 (by kernel_rfl) rfl
instance:TF Tryz.prog 82:=TF.mk' Tryz.func82 (by kernel_rfl) rfl
instance:TF Tryz.prog 83:=TF.mk' Tryz.func83 (by kernel_rfl) rfl
instance:TF Tryz.prog 84:=TF.mk' Tryz.func84 (by kernel_rfl) rfl
instance:TF Tryz.prog 85:=TF.mk' Tryz.func85 (by kernel_rfl) rfl
instance:TF Tryz.prog 86:=TF.mk' Tryz.func86 (by kernel_rfl) rfl
instance:TF Tryz.prog 87:=TF.mk' Tryz.func87 (by kernel_rfl) rfl
instance:TF Tryz.prog 88:=TF.mk' Tryz.func88 (by kernel_rfl) rfl
instance:TF Tryz.prog 89:=TF.mk' Tryz.func89 (by kernel_rfl) rfl
instance:TF Tryz.prog 90:=TF.mk' Tryz.func90 (by kernel_rfl) rfl
instance:TF Tryz.prog 91:=TF.mk' Tryz.func91 (by kernel_rfl) rfl
instance:TF Tryz.prog 92:=TF.mk' Tryz.func92 (by kernel_rfl) rfl
instance:TF Tryz.prog 93:=TF.mk' Tryz.func93 (by kernel_rfl) rfl
instance:TF Tryz.prog 94:=TF.mk' Tryz.func94 (by kernel_rfl) rfl
instance:TF Tryz.prog 95:=TF.mk' Tryz.func95 (by kernel_rfl) rfl
instance:TF Tryz.prog 96:=TF.mk' Tryz.func96 (by kernel_rfl) rfl
instance:TF Tryz.prog 97:=TF.mk' Tryz.func97 (by kernel_rfl) rfl
instance:TF Tryz.prog 98:=TF.mk' Tryz.func98 (by kernel_rfl) rfl
instance:TF Tryz.prog 99:=TF.mk' Tryz.func99 (by kernel_rfl) rfl
instance:TF Tryz.prog 100:=TF.mk' Tryz.func100 (by kernel_rfl) rfl
instance:TF Tryz.prog 101:=TF.mk' Tryz.func101 (by kernel_rfl) rfl
instance:TF Tryz.prog 102:=TF.mk' Tryz.func102 (by kernel_rfl) rfl
instance:TF Tryz.prog 103:=TF.mk' Tryz.func103 (by kernel_rfl) rfl
instance:TF Tryz.prog 104:=TF.mk' Tryz.func104 (by kernel_rfl) rfl
instance:TF Tryz.prog 105:=TF.mk' Tryz.func105 (by kernel_rfl) rfl
instance:TF Tryz.prog 106:=TF.mk' Tryz.func106 (by kernel_rfl) rfl
instance:TF Tryz.prog 107:=TF.mk' Tryz.func107 (by kernel_rfl) rfl
instance:TF Tryz.prog 108:=TF.mk' Tryz.func108 (by kernel_rfl) rfl
instance:TF Tryz.prog 109:=TF.mk' Tryz.func109 (by kernel_rfl) rfl
instance:TF Tryz.prog 110:=TF.mk' Tryz.func110 (by kernel_rfl) rfl
instance:TF Tryz.prog 111:=TF.mk' Tryz.func111 (by kernel_rfl) rfl
instance:TF Tryz.prog 112:=TF.mk' Tryz.func112 (by kernel_rfl) rfl
instance:TF Tryz.prog 113:=TF.mk' Tryz.func113 (by kernel_rfl) rfl
instance:TF Tryz.prog 115:=TF.mk' Tryz.func115 (by kernel_rfl) rfl
instance:TF Tryz.prog 116:=TF.mk' Tryz.func116 (by kernel_rfl) rfl
instance:TF Tryz.prog 120:=TF.mk' Tryz.func120 (by kernel_rfl) rfl
instance:TF Tryz.prog 121:=TF.mk' Tryz.func121 (by kernel_rfl) rfl
instance:TF Tryz.prog 122:=TF.mk' Tryz.func122 (by kernel_rfl) rfl
instance:TF Tryz.prog 123:=TF.mk' Tryz.func123 (by kernel_rfl) rfl
instance:TF Tryz.prog 124:=TF.mk' Tryz.func124 (by kernel_rfl) rfl
instance:TF Tryz.prog 125:=TF.mk' Tryz.func125 (by kernel_rfl) rfl
instance:TF Tryz.prog 126:=TF.mk' Tryz.func126 (by kernel_rfl) rfl
instance:TF Tryz.prog 127:=TF.mk' Tryz.func127 (by kernel_rfl) rfl
instance:TF Tryz.prog 128:=TF.mk' Tryz.func128 (by kernel_rfl) rfl
instance:TF Tryz.prog 129:=TF.mk' Tryz.func129 (by kernel_rfl) rfl
instance:TF Tryz.prog 130:=TF.mk' Tryz.func130 (by kernel_rfl) rfl
instance:TF Tryz.prog 131:=TF.mk' Tryz.func131 (by kernel_rfl) rfl
instance:TF Tryz.prog 132:=TF.mk' Tryz.func132 (by kernel_rfl) rfl
instance:TF Tryz.prog 133:=TF.mk' Tryz.func133 (by kernel_rfl) rfl
instance:TF Tryz.prog 134:=TF.mk' Tryz.func134 (by kernel_rfl) rfl
instance:TF Tryz.prog 135:=TF.mk' Tryz.func135 (by kernel_rfl) rfl
instance:TF Tryz.prog 137:=TF.mk' Tryz.func137 (by kernel_rfl) rfl
instance:TF Tryz.prog 138:=TF.mk' Tryz.func138 (by kernel_rfl) rfl
instance:TF Tryz.prog 139:=TF.mk' Tryz.func139 (by kernel_rfl) rfl
instance:TF Tryz.prog 140:=TF.mk' Tryz.func140 (by kernel_rfl) rfl
instance:TF Tryz.prog 141:=TF.mk' Tryz.func141 (by kernel_rfl) rfl
instance:TF Tryz.prog 142:=TF.mk' Tryz.func142 (by kernel_rfl) rfl
instance:TF Tryz.prog 143:=TF.mk' Tryz.func143 (by kernel_rfl) rfl
instance:TF Tryz.prog 144:=TF.mk' Tryz.func144 (by kernel_rfl) rfl
instance:TF Tryz.prog 145:=TF.mk' Tryz.func145 (by kernel_rfl) rfl
instance:TF Tryz.prog 146:=TF.mk' Tryz.func146 (by kernel_rfl) rfl
instance:TF Tryz.prog 147:=TF.mk' Tryz.func147 (by kernel_rfl) rfl
instance:TF Tryz.prog 148:=TF.mk' Tryz.func148 (by kernel_rfl) rfl
instance:TF Tryz.prog 149:=TF.mk' Tryz.func149 (by kernel_rfl) rfl
instance:TF Tryz.prog 150:=TF.mk' Tryz.func150 (by kernel_rfl) rfl
instance:TF Tryz.prog 151:=TF.mk' Tryz.func151 (by kernel_rfl) rfl
instance:TF Tryz.prog 152:=TF.mk' Tryz.func152 (by kernel_rfl) rfl
instance:TF Tryz.prog 153:=TF.mk' Tryz.func153 (by kernel_rfl) rfl
instance:TF Tryz.prog 154:=TF.mk' Tryz.func154 (by kernel_rfl) rfl
instance:TF Tryz.prog 156:=TF.mk' Tryz.func156 (by kernel_rfl) rfl
instance:TF Tryz.prog 160:=TF.mk' Tryz.func160 (by kernel_rfl) rfl
instance:TF Tryz.prog 161:=TF.mk' Tryz.func161 (by kernel_rfl) rfl

theorem mixed:Tryz.prog.follows .mixedOrders=true:=by kernel_rfl

end Go.Proofs.YtljmapfihjkafaaGreatDoor

namespace Go.Proofs.YtljmapfihjkafaaGreatDoor
open Go Go.RowKit
set_option linter.unusedSimpArgs false
set_option linter.unusedVariables false
set_option linter.unusedSectionVars false

abbrev iv (x:Int):Value:=.int .i64 x
abbrev nv (x:Nat):Value:=.int .i64 (x:Int)

def tab {α:Type} (n:Nat) (g:Nat→α):List α:=(List.range n).map g

@[simp] theorem Xj {α:Type} (n:Nat) (g:Nat→α):(tab n g).length=n:=by simp[tab]
theorem Xk {α:Type} {n:Nat} {g:Nat→α} {i:Nat} (h:i<n):(tab n g)[i]?=some (g i):=by simp[tab,h]
theorem ZG {α:Type} {n:Nat} {g:Nat→α} {i:Nat} {d:α} (h:i<n):(tab n g).getD i d=g i:=by simp[List.getD,Xk h]
theorem Zo {α:Type} {n:Nat} {g g':Nat→α} (h:∀ i,i<n→g i=g' i):tab n g=tab n g':=by
 apply List.map_congr_left
 intro i hi
 exact h i (List.mem_range.1 hi)
theorem Q20 {α:Type} {n:Nat} {xs:List α} {g:Nat→α} (hl:xs.length=n) (h:∀ i,i<n→xs[i]?=some (g i)):xs=tab n g:=by
 apply List.ext_getElem?
 intro i
 rcases Nat.lt_or_ge i n with hi|hi
 ·rw[h i hi,Xk hi]
 ·rw[List.getElem?_eq_none oq,List.getElem?_eq_none (by simp;omega)]
theorem Qcc {α:Type} {n:Nat} {xs:List α} {d:α} (hl:xs.length=n):tab n (fun i=>xs.getD i d)=xs:=by
 refine(Q20 hl fun i hi=>?_).symm
 rw[List.getElem?_eq_getElem oq];simp[List.getD,List.getElem?_eq_getElem (show i<xs.length by omega)]
theorem Q7u {α:Type} {n:Nat} {g:Nat→α} {i:Nat} {x:α}:(tab n g).set i x=tab n (fun j=>if j=i then x else g j):=by
 refine Q20 spq fun j hj=>?_
 rw[List.getElem?_set]
 by_cases h:i=j
 ·subst h;simp[hj]
 ·rw[if_neg h,Xk hj,if_neg (fun e=>h e.symm)]
theorem Q1c {α:Type} {xs:List α} {i j:Nat} {x d:α} (hi:i<xs.length):(xs.set i x).getD j d=if j=i then x else xs.getD j d:=by
 simp only[List.getD,List.getElem?_set]
 by_cases h:i=j
 ·subst h;simp[hi]
 ·rw[if_neg h,if_neg (fun e=>h e.symm)]
theorem YH {α:Type} {xs:List α} {i:Nat} {d:α} (h:i<xs.length):xs[i]?=some (xs.getD i d):=by simp[List.getD,List.getElem?_eq_getElem h]
theorem Q5j {α:Type} {xs ys:List α} {d:α} (hl:xs.length=ys.length) (h:∀ i,i<xs.length→xs.getD i d=ys.getD i d):xs=ys:=by
 apply List.ext_getElem?
 intro i
 rcases Nat.lt_or_ge i xs.length with hi|hi
 ·rw[YH hi (d:=d),YH oq (d:=d),h i hi]
 ·rw[List.getElem?_eq_none oq,List.getElem?_eq_none oq]
theorem Y3 {α:Type} {xs:List α} {i:Nat} {d:α} (h:i<xs.length):xs.getD i d∈xs:=by
 have:=YH (d:=d) h
 exact List.mem_of_getElem? this

def WI (w:World) (v:Value) (n:Nat) (xs:List Int):Prop:=RdW w 1 v n (xs.map iv)
def RdI (c:Cx) (N:SHeap) (v:Value) (n:Nat) (xs:List Int):Prop:=Rd c N 1 v n (xs.map iv)
def OwnI (N:SHeap) (v:Value) (n:Nat) (xs:List Int):Prop:=OwnRow 3 1 N v n (xs.map iv)
def WN (w:World) (v:Value) (n:Nat) (xs:List Nat):Prop:=RdW w 1 v n (xs.map nv)
def RdN (c:Cx) (N:SHeap) (v:Value) (n:Nat) (xs:List Nat):Prop:=Rd c N 1 v n (xs.map nv)
def OwnN (N:SHeap) (v:Value) (n:Nat) (xs:List Nat):Prop:=OwnRow 3 1 N v n (xs.map nv)

theorem WI.len {w:World} {v:Value} {n:Nat} {xs:List Int} (h:WI w v n xs):xs.length=n:=by simpa using h.1
theorem RdI.len {c:Cx} {N:SHeap} {v:Value} {n:Nat} {xs:List Int} (h:RdI c N v n xs):xs.length=n:=by simpa using h.1
theorem OwnI.len {N:SHeap} {v:Value} {n:Nat} {xs:List Int} (h:OwnI N v n xs):xs.length=n:=by simpa using h.1
theorem WN.len {w:World} {v:Value} {n:Nat} {xs:List Nat} (h:WN w v n xs):xs.length=n:=by simpa using h.1
theorem RdN.len {c:Cx} {N:SHeap} {v:Value} {n:Nat} {xs:List Nat} (h:RdN c N v n xs):xs.length=n:=by simpa using h.1
theorem OwnN.len {N:SHeap} {v:Value} {n:Nat} {xs:List Nat} (h:OwnN N v n xs):xs.length=n:=by simpa using h.1

theorem WI.mono {w w':World} {v:Value} {n:Nat} {xs:List Int} (h:WI w v n xs) (hk:Kp [] w w'):WI w' v n xs:=RdW.mono h hk
theorem WN.mono {w w':World} {v:Value} {n:Nat} {xs:List Nat} (h:WN w v n xs) (hk:Kp [] w w'):WN w' v n xs:=RdW.mono h hk
theorem WI.rd {c:Cx} {v:Value} {n:Nat} {xs:List Int} (h:WI c.w0 v n xs) (hM:c.M=[]) (N:SHeap):RdI c N v n xs:=RdW.rd h hM N
theorem WN.rd {c:Cx} {v:Value} {n:Nat} {xs:List Nat} (h:WN c.w0 v n xs) (hM:c.M=[]) (N:SHeap):RdN c N v n xs:=RdW.rd h hM N
theorem RdI.at {c:Cx} {N H:SHeap} {w:World} {v:Value} {n:Nat} {xs:List Int} (h:RdI c N v n xs) (hk:Kp c.M c.w0 w) (hs:Hsat H w) (hN:HSub N H):WI w v n xs:=Rd.at h hk hs hN
theorem RdN.at {c:Cx} {N H:SHeap} {w:World} {v:Value} {n:Nat} {xs:List Nat} (h:RdN c N v n xs) (hk:Kp c.M c.w0 w) (hs:Hsat H w) (hN:HSub N H):WN w v n xs:=Rd.at h hk hs hN
theorem OwnI.rd {c:Cx} {N:SHeap} {v:Value} {n:Nat} {xs:List Int} (h:OwnI N v n xs):RdI c N v n xs:=OwnRow.rd h
theorem OwnN.rd {c:Cx} {N:SHeap} {v:Value} {n:Nat} {xs:List Nat} (h:OwnN N v n xs):RdN c N v n xs:=OwnRow.rd h
theorem OwnI.new {N:SHeap} {v:Value} {n:Nat} {xs:List Int} {w w':World} (h:OwnI N v n xs) (hn:New N w w'):WI w' v n xs:=New.rd (c:=⟨Tryz.prog,0,w,[],by simp⟩) h hn
theorem OwnN.new {N:SHeap} {v:Value} {n:Nat} {xs:List Nat} {w w':World} (h:OwnN N v n xs) (hn:New N w w'):WN w' v n xs:=New.rd (c:=⟨Tryz.prog,0,w,[],by simp⟩) h hn

def ints (xs:List Nat):List Int:=xs.map Int.ofNat
@[simp] theorem Qp6 (xs:List Nat):(ints xs).length=xs.length:=by simp[ints]
theorem OwnN.form {N:SHeap} {v:Value} {n:Nat} {xs:List Nat} (h:OwnN N v n xs):∃ A cap,v=.slice A n cap:=by
 obtain⟨_,⟨rfl,rfl,rfl⟩|⟨b,cap,cur,rfl,_⟩⟩:=h
 ·exact⟨_,_,rfl⟩
 ·exact⟨_,_,rfl⟩
theorem OwnI.form {N:SHeap} {v:Value} {n:Nat} {xs:List Int} (h:OwnI N v n xs):∃ A cap,v=.slice A n cap:=by
 obtain⟨_,⟨rfl,rfl,rfl⟩|⟨b,cap,cur,rfl,_⟩⟩:=h
 ·exact⟨_,_,rfl⟩
 ·exact⟨_,_,rfl⟩
theorem WN.form {w:World} {v:Value} {n:Nat} {xs:List Nat} (h:WN w v n xs):∃ A cap,v=.slice A n cap:=by
 obtain⟨_,A,cap,rfl,_⟩:=h
 exact⟨_,_,rfl⟩
theorem WI.form {w:World} {v:Value} {n:Nat} {xs:List Int} (h:WI w v n xs):∃ A cap,v=.slice A n cap:=by
 obtain⟨_,A,cap,rfl,_⟩:=h
 exact⟨_,_,rfl⟩
theorem Qe9 (xs:List Nat):(ints xs).map iv=xs.map nv:=by simp[ints,Function.comp_def]
theorem WN.int {w:World} {v:Value} {n:Nat} {xs:List Nat} (h:WN w v n xs):WI w v n (ints xs):=by unfold WI;rw[Qe9];exact h
theorem OwnN.int {N:SHeap} {v:Value} {n:Nat} {xs:List Nat} (h:OwnN N v n xs):OwnI N v n (ints xs):=by unfold OwnI;rw[Qe9];exact h
theorem RdN.int {c:Cx} {N:SHeap} {v:Value} {n:Nat} {xs:List Nat} (h:RdN c N v n xs):RdI c N v n (ints xs):=by unfold RdI;rw[Qe9];exact h

theorem OwnN.nil:OwnN [] (.slice none 0 0) 0 []:=OwnRow.nil _ 1
theorem OwnI.nil:OwnI [] (.slice none 0 0) 0 []:=OwnRow.nil _ 1

section
variable {c:Cx} {Q:Exit→Act→World→Prop} {m:Mode} {F:SFrame} {H:SHeap} {r:List SOp} {g:Option (Option Tmp × Bool)} {ns:Bool} {d:Tmp} {ty t t':TypeId} {x y:Operand} {N:SHeap} {n:Nat} {v:Value}

theorem Qdi {e:TypeId} {xs:List Int} [TSl c.P t e] (hd:dstOk c.n (some d)=true:=by exact rfl) (hg:guardF F g=some true:=by exact rfl) (hx:ev F x=some v:=by exact rfl) (hv:RdI c N v n xs:=by(first|assumption|exact WI.rd (by assumption) rfl []|exact OwnI.rd (by assumption)))
  (h:JO c Q m r ((d,.int .i64 n)::F) H):JO c Q m (⟨some d,.call ⟨.builtin .len,#[x],#[t]⟩,ty,g,.mov,ns⟩::r) F H:=X6 hd hg hx hv h
theorem Z8 {e:TypeId} {xs:List Nat} [TSl c.P t e] (hd:dstOk c.n (some d)=true:=by exact rfl) (hg:guardF F g=some true:=by exact rfl) (hx:ev F x=some v:=by exact rfl) (hv:RdN c N v n xs:=by(first|assumption|exact WN.rd (by assumption) rfl []|exact OwnN.rd (by assumption)))
  (h:JO c Q m r ((d,.int .i64 n)::F) H):JO c Q m (⟨some d,.call ⟨.builtin .len,#[x],#[t]⟩,ty,g,.mov,ns⟩::r) F H:=X6 hd hg hx hv h
theorem Q6h {e:TypeId} {xs:List Int} {j:Nat} {k:IntKind} [TSl c.P t e] [TSz c.P e 1] (hd:dstOk c.n (some d)=true:=by exact rfl) (hg:guardF F g=some true:=by exact rfl) (hx:ev F x=some v:=by exact rfl) (hy:ev F y=some (.int k j):=by exact rfl) (hv:RdI c N v n xs:=by(first|assumption|exact WI.rd (by assumption) rfl []|exact OwnI.rd (by assumption))) (hj:j<n:=by(first|assumption|omega))
  (h:JO c Q m r ((d,.pointer (some (vAt v j)))::F) H):JO c Q m (⟨some d,.indexAddr t x y,ty,g,.mov,ns⟩::r) F H:=Y0 hd hg hx hy hv hj h
theorem ZI {e:TypeId} {xs:List Nat} {j:Nat} {k:IntKind} [TSl c.P t e] [TSz c.P e 1] (hd:dstOk c.n (some d)=true:=by exact rfl) (hg:guardF F g=some true:=by exact rfl) (hx:ev F x=some v:=by exact rfl) (hy:ev F y=some (.int k j):=by exact rfl) (hv:RdN c N v n xs:=by(first|assumption|exact WN.rd (by assumption) rfl []|exact OwnN.rd (by assumption))) (hj:j<n:=by(first|assumption|omega))
  (h:JO c Q m r ((d,.pointer (some (vAt v j)))::F) H):JO c Q m (⟨some d,.indexAddr t x y,ty,g,.mov,ns⟩::r) F H:=Y0 hd hg hx hy hv hj h
theorem Qdj {xs:List Int} {i:Nat} [T1 c.P t] (hd:dstOk c.n (some d)=true:=by exact rfl) (hg:guardF F g=some true:=by exact rfl) (hx:ev F x=some (.pointer (some (vAt v i))):=by exact rfl) (hl:m.live=true:=by exact rfl) (hv:RdI c N v n xs:=by(first|assumption|exact WI.rd (by assumption) rfl []|exact OwnI.rd (by assumption))) (hN:HSub N (m.src H):=by exact Q5) (hi:i<n:=by(first|assumption|omega))
  (h:JO c Q m r ((d,iv (xs.getD i 0))::F) H):JO c Q m (⟨some d,.load t x,ty,g,.ld,ns⟩::r) F H :=
 WD hd hg hx hl hv hN (by rw[List.getElem?_map,YH (d:=0) (by have:=hv.len;omega)];rfl) h
theorem Xn {xs:List Nat} {i:Nat} [T1 c.P t] (hd:dstOk c.n (some d)=true:=by exact rfl) (hg:guardF F g=some true:=by exact rfl) (hx:ev F x=some (.pointer (some (vAt v i))):=by exact rfl) (hl:m.live=true:=by exact rfl) (hv:RdN c N v n xs:=by(first|assumption|exact WN.rd (by assumption) rfl []|exact OwnN.rd (by assumption))) (hN:HSub N (m.src H):=by exact Q5) (hi:i<n:=by(first|assumption|omega))
  (h:JO c Q m r ((d,nv (xs.getD i 0))::F) H):JO c Q m (⟨some d,.load t x,ty,g,.ld,ns⟩::r) F H :=
 WD hd hg hx hl hv hN (by rw[List.getElem?_map,YH (d:=0) (by have:=hv.len;omega)];rfl) h

theorem Qgy {A B:SHeap} {i u:Nat} {xs:List Nat} [T1 c.P t] (hO:OwnN N v n xs) (hH:H=A++(N++B)) (hg:guardF F g=some true) (hm:m.mayStore ns r) (hx:ev F x=some (.pointer (some (vAt v i)))) (hy:ev F y=some (nv u))
  (hi:i<n) (h:∀ N',OwnN N' v n (xs.set i u)→JO c Q m.spent r F (A++(N'++B))):JO c Q m (⟨none,.store t x y,ty,g,.seq,ns⟩::r) F H :=
 Qgx hO hH hg hm hx hy rfl rfl oq (fun N' h'=>h N' (by unfold OwnN;rw[List.map_set];exact h'))

theorem Q6m (b n:Nat) (hn:n≤maxLen):OwnN [(b,.cells (zerosOf #[iv 0] (n*1)) 3)] (.slice (some ⟨b,0,none⟩) n n) n (tab n fun _=>0):=by
 have h:=OwnRow.mk' (e:=3) (sz:=1) (n:=n) (b:=b) (cs:=zerosOf #[iv 0] (n*1)) (by rw[zeros1];simp) hn
 rw[zeros1]at h ⊢
 have e:(Array.replicate (n*1) (iv 0)).toList=(tab n fun _=>0).map nv:=by
  apply List.ext_getElem?
  intro i
  simp only[Array.toList_replicate,List.getElem?_map,List.getElem?_replicate,Nat.mul_one]
  by_cases hi:i<n
  ·rw[if_pos hi,Xk hi];rfl
  ·rw[if_neg hi,List.getElem?_eq_none (by simp;omega)];rfl
 rw[e]at h
 exact h

theorem Qo0 {i:Nat} (hd:dstOk c.n (some d)=true) (hg:guardF F g=some true) (hx:ev F x=some (.int .i64 i)) (hy:ev F y=some (.int .i64 1)) (hb:i+1<9223372036854775808)
  (h:JO c Q m r ((d,.int .i64 ((i+1:Nat):Int))::F) H):JO c Q m (⟨some d,.binOp .add t x y t',ty,g,.mov,ns⟩::r) F H:=Z6 (j:=1) hd hg hx hy hb h
theorem Qg {i:Nat} (h:JO c Q m r ((d,.int .i64 ((i+1:Nat):Int))::F) H) (hd:dstOk c.n (some d)=true:=by exact rfl) (hg:guardF F g=some true:=by exact rfl) (hx:ev F x=some (.int .i64 i):=by exact rfl) (hy:ev F y=some (.int .i64 1):=by exact rfl) (hb:i+1<9223372036854775808:=by omega):JO c Q m (⟨some d,.binOp .add t x y t',ty,g,.mov,ns⟩::r) F H:=Qo0 (hd:=hd) (hg:=hg) (hx:=hx) (hy:=hy) (hb:=hb) (h:=h)

theorem Zc {A B N2:SHeap} {v2:Value} {k:Nat} {xs ys:List Nat} [TSl c.P t 3] [TE c.P 3 1 8 #[iv 0]] (hO:OwnN N v n xs) (h2:RdN c N2 v2 k ys) (hN2:HSub N2 H) (hH:H=A++(N++B)) (hm:m.mayStore ns r) (hd:dstOk c.n (some d)=true) (hg:guardF F g=some true) (hx:ev F x=some v) (hy:ev F y=some v2)
  (hb:n+k≤10000000000000) (h:∀ v' N',OwnN N' v' (n+k) (xs++ys)→JO c Q m.spent r ((d,v')::F) (A++(N'++B))) :
  JO c Q m (⟨some d,.call ⟨.builtin .append,#[x,y],#[t,t]⟩,ty,g,.seq,ns⟩::r) F H :=
 X8 (e:=3) (sz:=1) (bytes:=8) (zc:=#[iv 0]) (xs:=xs.map nv) (news:=ys.map nv) (n:=n) (mm:=k) rfl hO h2 hN2 hH hm hd hg hx hy (fun u hu=>by obtain⟨a,_,rfl⟩:=List.mem_map.1 hu;rfl) (by simp only[maxLen];omega) oq (fun v' N' h'=>h v' N' (by unfold OwnN;rw[List.map_append];exact h'))

theorem Qny {vs:Array Value} (hd:dstOk c.n (some d)=true) (hg:guardF F g=some true) (hx:ev F x=some (.agg vs)) (hl:m.live=true) (h:∀ b,JO c Q m r ((d,(.pointer (some ⟨b,0,none⟩)))::F) ((b,.cells vs t)::H)) :
  JO c Q m (⟨some d,.box t x,ty,g,.alloc,ns⟩::r) F H:=Ql3 hd hg hx hl rfl h
theorem Qt {vs:Array Value} (h:∀ b,JO c Q m r ((d,(.pointer (some ⟨b,0,none⟩)))::F) ((b,.cells vs t)::H)) (hd:dstOk c.n (some d)=true:=by exact rfl) (hg:guardF F g=some true:=by exact rfl) (hx:ev F x=some (.agg vs):=by exact rfl) (hl:m.live=true:=by exact rfl):JO c Q m (⟨some d,.box t x,ty,g,.alloc,ns⟩::r) F H:=Qny (hd:=hd) (hg:=hg) (hx:=hx) (hl:=hl) (h:=h)

theorem Qp {A:Addr} (hd:dstOk c.n (some d)=true:=by exact rfl) (hg:guardF F g=some true:=by exact rfl) (hx:ev F x=some (.pointer (some A)):=by exact rfl) (h:JO c Q m r ((d,.pointer (some A))::F) H):JO c Q m (⟨some d,.nilCheck x,ty,g,.mov,ns⟩::r) F H :=
 Zz hd hg (fun a w fr=>by simp only[execOp,fr.ev hx,Sem.run_pure]) h

theorem XR {len e sz b o j:Nat} {k:IntKind} [TAr c.P t len e] [TSz c.P e sz] (hd:dstOk c.n (some d)=true) (hg:guardF F g=some true) (hx:ev F x=some (.pointer (some ⟨b,o,none⟩))) (hy:ev F y=some (.int k j)) (hj:j<len)
  (h:JO c Q m r ((d,.pointer (some ⟨b,o+j*sz,none⟩))::F) H):JO c Q m (⟨some d,.indexAddr t x y,ty,g,.mov,ns⟩::r) F H :=
 Zz hd hg (fun a w fr=>by
  have h1:(0:Int)≤j∧(j:Int)<len:=by omega
  simp only[execOp,fr.ev hx,fr.ev hy,Instr.indexAt,Instr.sureAddr,asIntOf,Sem.run_bind,Sem.run_pure,Result.andThen_ok,run_underlying (TAr.und (P:=c.P) (t:=t)),h1,and_self,if_true,TSz.size (e:=e) (n:=sz),Int.toNat_natCast,Z4]) h

end

section
variable {P:Program} {ops:Array Oper}

def edge (ops:Array Oper) (i j:Nat):Array Oper:=ops.modify j fun o=>{ o with after:=o.after.push ⟨i,.data⟩ }

theorem Q75 {i j:Nat}:(edge ops i j).size=ops.size:=by simp[edge]
theorem WO {i j k:Nat}:(edge ops i j)[k]?=(ops[k]?).map fun o=>if k=j then { o with after:=o.after.push ⟨i,.data⟩ } else o:=by
 unfold edge
 rw[Array.getElem?_modify]
 by_cases h:j=k
 ·subst h;simp
 ·rw[if_neg h]
  have h':¬k=j:=fun e=>h e.symm
  simp[h']

theorem Q74 {i j:Nat} (tmps:Array Value):yielded (edge ops i j) tmps=yielded ops tmps:=by
 funext g
 unfold yielded
 rw[WO]
 cases ops[g]? with
 | none=>rfl
 | some o =>
  simp only[Option.map_some,Option.bind_some]
  by_cases h:g=j
  ·simp only[if_pos h]
  ·simp only[if_neg h]

theorem Q0w (ρ:Operand→Value) (o:Oper) (af:Array Edge):execOp ρ { o with after:=af }=execOp ρ o:=by
 obtain⟨dst,op,type,pos,after,guard⟩:=o
 cases op<;>rfl

theorem Yv {Q:Exit→Act→World→Prop} {i j:Nat}:∀ (l:List Nat) (a:Act) (w:World),wpOps P (edge ops i j) Q l a w→wpOps P ops Q l a w
 | [],_,_,h=>h
 | k::l,a,w,h=>by
  have ih:wpOps P (edge ops i j) Q l=wpOps P (edge ops i j) Q l:=rfl
  unfold wpOps at h ⊢
  rw[WO]at h
  cases ho:ops[k]? with
  | none=>rw[ho]at h;exact Yv l a w h
  | some o =>
   rw[ho]at h
   simp only[Option.map_some]at h ⊢
   rw[Q74]at h
   have hw:Region.wanted (if k=j then { o with after:=o.after.push ⟨i,.data⟩ } else o) (yielded ops a.tmps)=Region.wanted o (yielded ops a.tmps):=by
    split<;>rfl
   have hd:(if k=j then { o with after:=o.after.push ⟨i,.data⟩ } else o).dst=o.dst:=by split<;>rfl
   have hwp:∀ K,(if k=j then { o with after:=o.after.push ⟨i,.data⟩ } else o).wp P a w K Q=o.wp P a w K Q:=fun K=>by
    split
    ·unfold Oper.wp
     rw[Q0w]
     have:(Oper.upon P { o with after:=o.after.push ⟨i,.data⟩ } a K Q)=(Oper.upon P o a K Q):=by
      funext r;unfold Oper.upon;rfl
     rw[this]
    ·rfl
   have has:(if k=j then { o with after:=o.after.push ⟨i,.data⟩ } else o).asks P a w=o.asks P a w:=by
    split
    ·unfold Oper.asks
     rw[Q0w]
    ·rfl
   rw[hw,hd,hwp,has]at h
   split
   ·rename_i hq
    rw[if_pos hq]at h
    rcases h with h|h
    ·exact .inl (Oper.wp_mono (fun a w=>Yv l a w) h)
    ·exact .inr h
   ·rename_i hq
    rw[if_neg hq]at h
    exact Yv l _ _ h

def Ordr (ops:Array Oper):Nat→Array Bool→List Nat→Prop
 | 0,_,l=>l=[]
 | f+1,listed,l=>(Region.ready .any ops listed=[]∧l=[])∨∃ k l',k∈Region.ready .any ops listed∧l=k::l'∧Ordr ops f (listed.setIfInBounds k true) l'

theorem Q8f (f t:Nat) (listed:Array Bool):Region.linearise.go .any ops (f+1) t listed []=match (Region.ready .any ops listed)[t % (Region.ready .any ops listed).length]? with
  | some i=>i::Region.linearise.go .any ops f (t / (Region.ready .any ops listed).length) (listed.setIfInBounds i true) []
  | none=>[]:=by
 simp only[Region.linearise.go]
 change (match (Region.ready .any ops listed)[t % (Region.ready .any ops listed).length]? with
   | some i=>Region.linearise.go .any ops f (t / (Region.ready .any ops listed).length) (listed.setIfInBounds i true) [i]
   | none=>[].reverse)=_
 cases (Region.ready .any ops listed)[t % (Region.ready .any ops listed).length]? with
 | none=>rfl
 | some i=>simp only[];rw[linearise_go_acc];rfl

theorem Q88:∀ (f t:Nat) (listed:Array Bool),Ordr ops f listed (Region.linearise.go .any ops f t listed [])
 | 0,_,_=>rfl
 | f+1,t,listed=>by
  rw[Q8f]
  cases hi:(Region.ready .any ops listed)[t % (Region.ready .any ops listed).length]? with
  | none =>
   refine .inl ⟨?_,rfl⟩
   cases hr:Region.ready .any ops listed with
   | nil=>rfl
   | cons x xs =>
    rw[hr]at hi
    have hlt:t % (x::xs).length<(x::xs).length:=Nat.mod_lt _ spq
    rw[List.getElem?_eq_getElem hlt]at hi
    cases hi
  | some i=>exact .inr ⟨i,_,List.mem_of_getElem? hi,rfl,Q88 f _ _⟩

theorem Q5d:∀ (f:Nat) (listed:Array Bool) (l:List Nat),Ordr ops f listed l→∃ t,Region.linearise.go .any ops f t listed []=l
 | 0,_,l,h=>⟨0,by rw[show l=[] from h];rfl⟩
 | f+1,listed,l,h=>by
  rcases h with ⟨hr,rfl⟩|⟨k,l',hk,rfl,h⟩
  ·exact⟨0,by rw[Q8f,hr];rfl⟩
  ·obtain⟨t,ht⟩:=Q5d f _ l' h
   obtain⟨n,hn,hkn⟩:=List.mem_iff_getElem.1 hk
   refine⟨n+(Region.ready .any ops listed).length*t,?_⟩
   rw[Q8f,Nat.add_mul_mod_self_left,Nat.mod_eq_of_lt hn,List.getElem?_eq_getElem hn,hkn,Nat.add_mul_div_left _ _ oq,Nat.div_eq_of_lt hn,Nat.zero_add]
   simp only[ht]

theorem ZY {i j k:Nat} {listed:Array Bool}:k∈Region.ready .any (edge ops i j) listed↔k∈Region.ready .any ops listed∧(k=j→listed.getD i false=true):=by
 rw[mem_ready,mem_ready,WO]
 cases ops[k]? with
 | none=>simp
 | some o =>
  simp only[Option.map_some,Option.some.injEq,exists_eq_left']
  by_cases h:k=j
  ·subst h
   simp only[if_true,true_implies]
   constructor
   ·rintro⟨h1,h2⟩
    exact⟨⟨h1,fun e he=>h2 e (by simp[he])⟩,h2 ⟨i,.data⟩ spq rfl⟩
   ·rintro⟨⟨h1,h2⟩,h3⟩
    refine⟨h1,fun e he hb=>?_⟩
    rcases Array.mem_push.1 he with he|rfl
    ·exact h2 e he hb
    ·exact h3
  ·simp[h]

theorem Q0f {listed:Array Bool} {i k:Nat} (h:listed.getD i false=true):(listed.setIfInBounds k true).getD i false=true:=by
 by_cases hki:k=i
 ·subst hki
  have:k<listed.size:=by
   rcases Nat.lt_or_ge k listed.size with h'|h'
   ·exact h'
   ·simp[Array.getElem?_eq_none h']at h
  simp[this]
 ·simpa [hki] using h

theorem Q2o {i j:Nat}:∀ (f:Nat) (listed:Array Bool) (l:List Nat),listed.getD i false=true→Ordr ops f listed l→Ordr (edge ops i j) f listed l
 | 0,_,_,_,h=>h
 | f+1,listed,l,hi,h=>by
  have hr:∀ k,k∈Region.ready .any (edge ops i j) listed↔k∈Region.ready .any ops listed:=fun k=>by rw[ZY];simp[hi]
  rcases h with ⟨h1,rfl⟩|⟨k,l',hk,rfl,h⟩
  ·refine .inl ⟨?_,rfl⟩
   cases hq:Region.ready .any (edge ops i j) listed with
   | nil=>rfl
   | cons x xs =>
    have:=(hr x).1 (by rw[hq];simp)
    rw[h1]at this;cases this
  ·exact .inr ⟨k,l',(hr k).2 hk,rfl,Q2o f _ l' (Q0f hi) h⟩

theorem Q3q {listed:Array Bool} {k:Nat} (hk:k∈Region.ready .any ops listed):(listed.setIfInBounds k true).getD k false=true:=by
 have h:=(mem_ready.1 hk).1
 have:k<listed.size:=by
  rcases Nat.lt_or_ge k listed.size with h'|h'
  ·exact h'
  ·simp[Array.getElem?_eq_none h']at h
 simp[this]

theorem Q6n {i j:Nat} (hij:i≠j):∀ (f:Nat) (listed:Array Bool) (l:List Nat),Ordr ops f listed l→Ordr (edge ops i j) f listed l∨Ordr (edge ops j i) f listed l
 | 0,_,_,h=>.inl h
 | f+1,listed,l,h=>by
  rcases h with ⟨h1,rfl⟩|⟨k,l',hk,rfl,h⟩
  ·refine .inl (.inl ⟨?_,rfl⟩)
   cases hq:Region.ready .any (edge ops i j) listed with
   | nil=>rfl
   | cons x xs =>
    have:=(ZY.1 (show x∈Region.ready .any (edge ops i j) listed by rw[hq];simp)).1
    rw[h1]at this;cases this
  ·by_cases hki:k=i
   ·subst hki
    exact .inl (.inr ⟨k,l',ZY.2 ⟨hk,fun e=>absurd e hij⟩,rfl,Q2o f _ l' (Q3q hk) h⟩)
   ·by_cases hkj:k=j
    ·subst hkj
     exact .inr (.inr ⟨k,l',ZY.2 ⟨hk,fun e=>absurd e.symm hij⟩,rfl,Q2o f _ l' (Q3q hk) h⟩)
    ·rcases Q6n hij f _ l' h with h|h
     ·exact .inl (.inr ⟨k,l',ZY.2 ⟨hk,fun e=>absurd e hkj⟩,rfl,h⟩)
     ·exact .inr (.inr ⟨k,l',ZY.2 ⟨hk,fun e=>absurd e hki⟩,rfl,h⟩)
end

section
variable {c:Cx} {Q:Exit→Act→World→Prop} {F:SFrame} {H:SHeap}

theorem XK {kd:Nat→Op→Kind} {tail:Nat} {order:List Nat} {ops:Array Oper} {Hs:SHeap} {a:Act} {w:World}
  (hB:canonB c.P kd ops order tail=true) (st:St c F H a w) (hHs:Hsat Hs w) (h:JL c (Q .normal) (.draw Hs true) (sopsAt kd ops tail order) F H) :
  wpAny c.P .any ops (Only (Q .normal)) ops.size (Array.replicate ops.size false) a { w with drawn:=w.drawn+1 }:=by
 simp only[canonB,Bool.and_eq_true]at hB
 obtain⟨hs,ht,hal,hl,hc,hu⟩:=hB
 have hl:order.length=ops.size:=by simpa using hl
 refine X3 (kd:=kd) (S:=Src c Hs) _ _ _ _ ?_
 have st':St c F H a { w with drawn:=w.drawn+1 }:=⟨st.fr,st.kp.trans (Kp.drew _ _),st.hs.kp (Kp.drew [] w) spq,st.wr⟩
 have hU:∀ i,i<ops.size→isU c.P kd ops i=true→apartU c.P kd ops (Array.replicate ops.size false) i=true:=fun i hi hx=>by
  have:=List.all_eq_true.1 hu i (List.mem_range.2 hi)
  simpa [hx] using this
 refine sim (Q:=Only (Q .normal)) (K:=Q .normal) hs hU (fun a w h=>h) (fun ch a a' w h=>h.elim) order _ hc ht ops.size true _ H F (fun _=>none) a a _ h ?_ ?_
 ·refine⟨st',fun _=>hHs.kp (Kp.drew [] w) spq,⟨rfl,rfl,(fun e ob o d h=>by cases h),fun s _=>rfl⟩,⟨fun e ob h=>(by cases h),fun e ob h=>(by cases h),fun e ob o h=>(by cases h),fun e ob o h=>(by cases h),fun e b o h=>(by cases h),fun e b h=>(by cases h),
   fun e e' b h=>by cases h⟩,by simp,by simp,fun j hj=>by simp,fun j hj _=>?_,.inl rfl⟩
  have:=List.all_eq_true.1 hal j (List.mem_range.2 hj)
  simpa using this
 ·exact hl▸List.countP_le_length

theorem YC {kd:Nat→Op→Kind} {ops:Array Oper} {i j tail:Nat}:∀ l,sopsAt kd (edge ops i j) tail l=sopsAt kd ops tail l
 | []=>rfl
 | k::l=>by
  have ho:∀ (kk:Kind) (ns:Bool) (o:Oper),toSOp (edge ops i j) kk ns o=toSOp ops kk ns o:=fun kk ns o=>by
   unfold toSOp
   cases hg:o.guard with
   | none=>rfl
   | some g =>
    obtain⟨g,want⟩:=g
    simp only[]
    rw[WO]
    cases ops[g]? with
    | none=>rfl
    | some o' =>
     simp only[Option.map_some]
     split<;>rfl
  simp only[sopsAt,WO]
  cases ops[k]? with
  | none=>exact YC l
  | some o =>
   simp only[Option.map_some]
   rw[YC l,ho]
   split<;>rfl

end

def inR:List Nat→Nat→Bool
 | [],_=>false
 | x::l,n=>bif x == n then true else inR l n

def toR (rs:List Nat) (od:List Od):Code→SCode
 | .region id ops d=>bif inR rs id then .raw (.region id ops d) else toS od (.region id ops d)
 | .skip=>.skip
 | .seq a b=>.seq (toR rs od a) (toR rs od b)
 | .cond c a b=>.cond c (toR rs od a) (toR rs od b)
 | .block id c=>.block id (toR rs od c)
 | .loop c=>.loop (toR rs od c)
 | .exit id=>.exit id
 | .scope c=>.scope (toR rs od c)
 | .ret=>.ret
 | c=>.raw c

def okR (P:Program) (rs:List Nat) (od:List Od):Code→Bool
 | .region id ops d=>inR rs id || okS P od (.region id ops d)
 | .seq a b=>okR P rs od a && okR P rs od b
 | .cond _ a b=>okR P rs od a && okR P rs od b
 | .block _ c=>okR P rs od c
 | .loop c=>okR P rs od c
 | .scope c=>okR P rs od c
 | _=>true

theorem Yg {c:Cx} (rs:List Nat) (od:List Od) (hm:c.P.follows .mixedOrders=true):∀ (s:Code) (Q:Exit→Act→World→Prop) (a:Act) (w:World),
  okR c.P rs od s=true→(toR rs od s).wp c Q a w→s.wp c.P Q a w
 | .skip,Q,a,w,_,h=>wp_skip h
 | .region id ops d,Q,a,w,hk,h=>by
  unfold toR at h
  unfold okR at hk
  cases hr:inR rs id with
  | true=>rw[hr]at h;exact h
  | false=>rw[hr]at h hk;exact wp_of_toS od hm _ Q a w (by simpa using hk) h
 | .seq x y,Q,a,w,hk,h=>by
  simp only[okR,Bool.and_eq_true]at hk
  refine wp_seq (Yg rs od hm x _ a w hk.1 ?_)
  refine wp_of_toS.wp_mono' (fun e a w hq=>?_) h
  cases e<;>first|exact hq|exact Yg rs od hm y _ _ _ hk.2 hq
 | .cond x y z,Q,a,w,hk,h=>by
  simp only[okR,Bool.and_eq_true]at hk
  obtain⟨t,hc,h1,h2⟩:=h
  exact wp_cond_split hc (fun ht=>Yg rs od hm y _ _ _ hk.1 (h1 ht)) (fun ht=>Yg rs od hm z _ _ _ hk.2 (h2 ht))
 | .block id s,Q,a,w,hk,h=>wp_block (Yg rs od hm s _ _ _ hk h)
 | .loop s,Q,a,w,hk,h=>by
  obtain⟨I,⟨n,h0⟩,hr⟩:=h
  exact Xg I n h0 fun n a w hi=>Yg rs od hm s _ _ _ hk (hr n a w hi)
 | .exit id,Q,a,w,_,h=>wp_exit h
 | .scope s,Q,a,w,hk,h=>wp_scope_straight (Yg rs od hm s _ _ _ hk h)
 | .ret,Q,a,w,_,h=>wp_ret h
 | .label _,_,_,_,_,h=>h
 | .goto _,_,_,_,_,h=>h
 | .refuse _,_,_,_,_,h=>h
 | .rangeFunc ..,_,_,_,_,h=>h

theorem Q4f {P:Program} {f:FuncId} {fn:Func} {s:Code} {args:Array Value} {w:World} {R:Ending→World→Prop} {n:Nat} {rs:Array ResultVar} (raws:List Nat) (od:List Od) (M:List Nat) (hM:∀ k∈M,k<w.heap.size)
  (H:SHeap) (hf:P.funcs[f]?=some fn) (hb:fn.body=some s) (hm:P.follows .mixedOrders=true) (hk:okR P raws od s=true)
  (hn:fn.ntmps=n) (hrs:fn.results=rs) (hF:Nat.ble args.size n=true) (hH:Hsat H w) (hwr:∀ p∈H,p.1∈M)
  (h:JC ⟨P,n,w,M,hM⟩ (endPost P rs R) (toR raws od s) (zipF 0 args.toList) H):Calls P f args w R:=by
 subst hn hrs
 have hF:=Nat.le_of_ble_eq_true hF
 refine calls_of_wp hf hb ?_
 refine Code.wp_mono ?_ (Yg (c:=⟨P,fn.ntmps,w,M,hM⟩) raws od hm s _ _ _ hk (h.h _ _ ⟨⟨rfl,?_,fun i v hl=>?_⟩,Kp.refl _ _,hH,fun p hp=>.inr (hwr p hp)⟩))
 ·intro e a w hq
  cases e<;>exact hq
 ·simp;omega
 ·obtain⟨_,h1⟩:=Wq _ _ _ _ hl
  have h1:args[i]?=some v:=by simpa using h1
  have h2:i<args.size:=by
   rcases Nat.lt_or_ge i args.size with h|h
   ·exact h
   ·rw[Array.getElem?_eq_none h]at h1;cases h1
  rw[Array.getElem?_append_left h2];exact h1


abbrev uv (n:Nat):Value:=.int .u64 (n:Int)

theorem Q97 {n:Nat} (h:n<18446744073709551616):IntKind.u64.wrap (n:Int)=(n:Int):=by rw[IntKind.wrap_u64];omega

section
variable {c:Cx} {Q:Exit→Act→World→Prop} {m:Mode} {F:SFrame} {H:SHeap} {r:List SOp} {g:Option (Option Tmp × Bool)} {ns:Bool} {d:Tmp} {ty t t':TypeId} {x y:Operand} {i j:Nat}

theorem Q2k (hd:dstOk c.n (some d)=true:=by exact rfl) (hg:guardF F g=some true:=by exact rfl) (hx:ev F x=some (uv i):=by exact rfl) (hy:ev F y=some (uv j):=by exact rfl) (hb:i+j<18446744073709551616:=by(first|assumption|omega))
  (h:JO c Q m r ((d,uv (i+j))::F) H):JO c Q m (⟨some d,.binOp .add t x y t',ty,g,.mov,ns⟩::r) F H :=
 Zi hd hg hx hy (fun w=>by
  rw[binOp_add]
  simp only[Op.intArith,show (i:Int)+(j:Int)=((i+j:Nat):Int) by omega,Q97 hb,Sem.run_pure]) h
theorem Qdd (hd:dstOk c.n (some d)=true:=by exact rfl) (hg:guardF F g=some true:=by exact rfl) (hx:ev F x=some (uv i):=by exact rfl) (hy:ev F y=some (uv j):=by exact rfl) (hb:i<18446744073709551616∧j<18446744073709551616:=by(first|assumption|omega))
  (h:JO c Q m r ((d,uv ((i+(18446744073709551616-j)) % 18446744073709551616))::F) H):JO c Q m (⟨some d,.binOp .sub t x y t',ty,g,.mov,ns⟩::r) F H :=
 Zi hd hg hx hy (fun w=>by
  rw[binOp_sub]
  simp only[Op.intArith,Sem.run_pure,IntKind.wrap_u64]
  rw[show ((i:Int)-(j:Int)) % 18446744073709551616=(((i+(18446744073709551616-j)) % 18446744073709551616:Nat):Int) by omega]) h
theorem Qdg (hd:dstOk c.n (some d)=true:=by exact rfl) (hg:guardF F g=some true:=by exact rfl) (hx:ev F x=some (uv i):=by exact rfl) (hy:ev F y=some (uv j):=by exact rfl) (hb:i*j<18446744073709551616:=by(first|assumption|omega))
  (h:JO c Q m r ((d,uv (i*j))::F) H):JO c Q m (⟨some d,.binOp .mul t x y t',ty,g,.mov,ns⟩::r) F H :=
 Zi hd hg hx hy (fun w=>by
  rw[binOp_mul]
  simp only[Op.intArith,show (i:Int)*(j:Int)=((i*j:Nat):Int) by simp,Q97 hb,Sem.run_pure]) h
theorem Q9l (hd:dstOk c.n (some d)=true:=by exact rfl) (hg:guardF F g=some true:=by exact rfl) (hx:ev F x=some (uv i):=by exact rfl) (hy:ev F y=some (uv j):=by exact rfl) (hb:0<j∧i<18446744073709551616:=by(first|assumption|omega))
  (h:JO c Q m r ((d,uv (i / j))::F) H):JO c Q m (⟨some d,.binOp .quo t x y t',ty,g,.mov,ns⟩::r) F H :=
 Zi hd hg hx hy (fun w=>by
  have h0:¬((j:Int)=0):=by omega
  have h1:i / j<18446744073709551616:=Nat.lt_of_le_of_lt (Nat.div_le_self _ _) hb.2
  rw[binOp_quo];simp only[Op.intDiv,h0,if_false, ← Int.ofNat_tdiv,Q97 h1,Sem.run_pure]) h
theorem Q9k (hd:dstOk c.n (some d)=true:=by exact rfl) (hg:guardF F g=some true:=by exact rfl) (hx:ev F x=some (uv i):=by exact rfl) (hy:ev F y=some (uv j):=by exact rfl) (hb:0<j:=by(first|assumption|omega))
  (h:JO c Q m r ((d,uv (i % j))::F) H):JO c Q m (⟨some d,.binOp .rem t x y t',ty,g,.mov,ns⟩::r) F H :=
 Zi hd hg hx hy (fun w=>by
  have h0:¬((j:Int)=0):=by omega
  have h1:(i:Int).tmod j=((i % j:Nat):Int):=(Int.ofNat_tmod i j).symm
  rw[binOp_rem];simp only[Op.intDiv,h0,if_false,Sem.run_pure,h1]) h
theorem YD (hd:dstOk c.n (some d)=true:=by exact rfl) (hg:guardF F g=some true:=by exact rfl) (hx:ev F x=some (uv i):=by exact rfl) (hy:ev F y=some (.int .u64 4294967295):=by exact rfl) (hb:i<18446744073709551616:=by(first|assumption|omega))
  (h:JO c Q m r ((d,uv (i % 4294967296))::F) H):JO c Q m (⟨some d,.binOp .and t x y t',ty,g,.mov,ns⟩::r) F H :=
 Zi hd hg hx hy (fun w=>by
  rw[binOp_and,intBits_and,show (4294967295:Int)=((2 ^ 32-1:Nat):Int) from rfl,bits_and_u64_nat _ _ hb dq,Nat.and_two_pow_sub_one_eq_mod];rfl) h
theorem Qnn (hd:dstOk c.n (some d)=true) (hg:guardF F g=some true) (hx:ev F x=some (uv i)) (hy:ev F y=some (uv j)) (hb:i<18446744073709551616∧j<18446744073709551616)
  (h:JO c Q m r ((d,uv (i ||| j))::F) H):JO c Q m (⟨some d,.binOp .or t x y t',ty,g,.mov,ns⟩::r) F H :=
 Zi hd hg hx hy (fun w=>by rw[binOp_or,intBits_or,bits_or_u64_nat _ _ hb.1 hb.2];rfl) h
theorem Q3v {k:IntKind} (hd:dstOk c.n (some d)=true:=by exact rfl) (hg:guardF F g=some true:=by exact rfl) (hx:ev F x=some (uv i):=by exact rfl) (hy:ev F y=some (.int k j):=by exact rfl) (hj:j≤64:=by(first|assumption|omega))
  (h:JO c Q m r ((d,uv (i*2 ^ j % 18446744073709551616))::F) H):JO c Q m (⟨some d,.binOp .shl t x y t',ty,g,.mov,ns⟩::r) F H :=
 Zz hd hg (fun a w fr=>by
  have h1:¬((j:Int)<0):=by omega
  have h2:min j 64=j:=by omega
  have h3:IntKind.u64.wrap ((i:Int)*2 ^ j)=((i*2 ^ j % 18446744073709551616:Nat):Int):=by
   rw[IntKind.wrap_u64,show (i:Int)*2 ^ j=((i*2 ^ j:Nat):Int) by simp]
   generalize i*2 ^ j=z
   omega
  simp only[execOp,fr.ev hx,fr.ev hy,eqGuard_shl,binOp_shl,Op.shift,h1,if_false,Int.toNat_natCast]
  simp[IntKind.bits,h2,h3,uv]) h
theorem X5 {k:IntKind} (hd:dstOk c.n (some d)=true:=by exact rfl) (hg:guardF F g=some true:=by exact rfl) (hx:ev F x=some (uv i):=by exact rfl) (hy:ev F y=some (.int k j):=by exact rfl) (hj:j≤64:=by(first|assumption|omega))
  (h:JO c Q m r ((d,uv (i / 2 ^ j))::F) H):JO c Q m (⟨some d,.binOp .shr t x y t',ty,g,.mov,ns⟩::r) F H :=
 Zz hd hg (fun a w fr=>by
  have h1:¬((j:Int)<0):=by omega
  have h2:min j 64=j:=by omega
  simp only[execOp,fr.ev hx,fr.ev hy,eqGuard_shr,binOp_shr,Op.shift,h1,if_false,Int.toNat_natCast]
  have h3:((i:Int).fdiv (2 ^ j))=((i / 2 ^ j:Nat):Int):=by
   rw[Int.fdiv_eq_ediv_of_nonneg _ (by exact_mod_cast Nat.zero_le (2 ^ j))];norm_cast
  simp[IntKind.bits,h2,h3,uv]) h
end

class TI (P:Program) (t:TypeId) (k:outParam IntKind):Prop where
 und:P.underlying t=some (.int k)
theorem TI.kind {P:Program} {t:TypeId} {k:IntKind} [h:TI P t k]:P.intKind t=k:=by
 unfold Program.intKind
 rw[h.und]

section
variable {c:Cx} {Q:Exit→Act→World→Prop} {m:Mode} {F:SFrame} {H:SHeap} {r:List SOp} {g:Option (Option Tmp × Bool)} {ns:Bool} {d:Tmp} {ty t t':TypeId} {x y:Operand}

theorem Q0b {k k':IntKind} {i:Int} (j:Int) [TI c.P t k] [TI c.P t' k'] (hd:dstOk c.n (some d)=true) (hg:guardF F g=some true) (hx:ev F x=some (.int k i)) (hj:k'.wrap i=j)
  (h:JO c Q m r ((d,.int k' j)::F) H):JO c Q m (⟨some d,.convert t t' x,ty,g,.mov,ns⟩::r) F H :=
 Zz hd hg (fun a w fr=>by
  have h1:=run_convert_int w t t' k i (by rw[TI.und (P:=c.P) (t:=t)];rfl) (by rw[TI.kind (k:=k')];exact TI.und)
  rw[TI.kind (k:=k'),hj]at h1
  simp only[execOp,fr.ev hx,Sem.run_bind,h1,Result.andThen_ok,Sem.run_pure]) h
end

section
variable {c:Cx} {Q:Exit→Act→World→Prop} {m:Mode} {F:SFrame} {H:SHeap} {r:List SOp} {g:Option (Option Tmp × Bool)} {ns:Bool} {d:Tmp} {ty t t':TypeId} {x y:Operand}

theorem Qdo {k:IntKind} {i:Nat} [TI c.P t k] [TI c.P t' .i64] (hd:dstOk c.n (some d)=true:=by exact rfl) (hg:guardF F g=some true:=by exact rfl) (hx:ev F x=some (.int k i):=by exact rfl) (hb:i<9223372036854775808:=by omega)
  (h:JO c Q m r ((d,.int .i64 i)::F) H):JO c Q m (⟨some d,.convert t t' x,ty,g,.mov,ns⟩::r) F H:=Q0b (k':=.i64) i hd hg hx (in64N hb) h
theorem Q9s {b:Bool} [TB c.P t] (hd:dstOk c.n (some d)=true:=by exact rfl) (hg:guardF F g=some true:=by exact rfl) (hx:ev F x=some (.bool b):=by exact rfl) (hy:ev F y=some (.bool b):=by exact rfl) (h:JO c Q m r ((d,.bool true)::F) H):JO c Q m (⟨some d,.binOp .eql t x y t',ty,g,.mov,ns⟩::r) F H :=
 Ql0 hd hg hx hy (by rw[beq_self_eq_true];exact h)
end

instance:TI Tryz.prog 3 .i64:=⟨Tryz.underlying3⟩
instance:TI Tryz.prog 5 .u8:=⟨Tryz.underlying5⟩
instance:TI Tryz.prog 80 .u64:=⟨Tryz.underlying80⟩


theorem ZK {c:Cx} {R:Value→World→Prop} {F:SFrame} {H:SHeap} (hR:∀ a w,St c F H a w→R (.tuple #[]) w):JX c (endPost c.P #[] (Ret R)) .normal F H :=
 Qmy [] trivial hR

theorem ZO {N r B:SHeap} (h:HSub r B):HSub (N++r) (N++B):=by
 obtain⟨l,hl⟩:=h
 exact⟨l,by rw[List.append_assoc];exact hl.append_left N⟩

def InW (N:SHeap) (w:World):Prop:=∀ p∈N,w.heap[p.1]?=some p.2

section
variable {c:Cx} {Q:Exit→Act→World→Prop} {m:Mode} {F:SFrame} {H:SHeap} {r:List SOp} {g:Option (Option Tmp × Bool)} {ns:Bool} {d:Tmp} {ty t t':TypeId} {x y:Operand}

theorem Qj3 {op:Op} {v:Value} {dd:Option Tmp} (hm:m.mayCall ns r) (hd:dstOk c.n dd=true) (hg:guardF F g=some true) (hr:∀ a w,FrOK c.n F a→Src c H w→(execOp a.eval ⟨dd,op,ty, "",#[],none⟩).run c.P w=.ok (.value v) w)
  (h:JO c Q m r (putF F dd v) H):JO c Q m (⟨dd,op,ty,g,.seq,ns⟩::r) F H:=by
 refine⟨⟨hd,.inr ⟨hg,fun a w st hs=>?_⟩⟩⟩
 unfold Oper.wp SOp.oper
 rw[hr a w st.fr ⟨st.kp,st.hs⟩]
 exact⟨⟨Nat.le_refl _,fun _ _ _ _=>rfl⟩,_,H,m,st.put v hd,fun _ h=>.inl h,YL (Kp.refl _ _) hs hm,h.h⟩

theorem Qh7 {A N B Hs:SHeap} {f:FuncId} {args:Array Operand} {ats:Array TypeId} {vs:List Value} {R:World→Value→World→Prop} {dd:Option Tmp} [TF c.P f] (hH:H=A++(N++B)) (hHs:HSub Hs (A++B)) (hd:dstOk c.n dd=true) (hg:guardF F g=some true) (ha:evArgs F args.toList=some vs)
  (hc:∀ w,Kp c.M c.w0 w→Hsat H w→Calls c.P f vs.toArray w (Ret fun v w'=>Kp (keys N) w w'∧R w v w'))
  (h:∀ w v w',Kp c.M c.w0 w→Hsat H w→Kp (keys N) w w'→R w v w'→∃ N',keys N'=keys N∧InW N' w'∧JO c Q (.draw Hs true) r (putF F dd v) (A++(N'++B))) :
  JO c Q (.draw Hs true) (⟨dd,.call ⟨.value (.func f),args,ats⟩,ty,g,.seq,ns⟩::r) F H:=by
 subst hH
 refine⟨⟨hd,.inr ⟨hg,fun a w st hs=>?_⟩⟩⟩
 unfold Oper.wp SOp.oper
 rw[Q0h st.fr ha]
 refine Calls.mono (hc w st.kp st.hs) fun e w' he=>?_
 cases e with
 | panicked ch=>exact he.elim
 | outgrown=>exact he.elim
 | returned v =>
  obtain⟨hk,hR⟩:=he
  obtain⟨N',hkeys,hb,hj⟩:=h w v w' st.kp st.hs hk hR
  have hp:(A++(N++B)).Perm ((A++B)++N):=(QT A N B).symm
  have hnd:=(st.perm hp).hs.nd
  have hnd0:=hnd
  rw[List.map_append,List.nodup_append]at hnd
  obtain⟨st',hstep,hkk⟩:=YB (N':=N') st hp (by have:=hnd.2.1;unfold keys at hkeys;rw[hkeys];exact this) hb (fun k hk'=>.inl (hkeys▸hk')) (fun k h1 h2=>hk.block k h1 h2) hk.size hk.os hk.tape hk.output
  have hAB:Hsat (A++B) w':=by
   have h0:Hsat (A++B) w:=(HSub.sub (List.sublist_append_left (A++B) N)).hsat (st.perm hp).hs
   exact h0.kp hk fun p hp' hpk=>hnd.2.2 p.1 (List.mem_map.2 ⟨p,hp',rfl⟩) p.1 hpk rfl
  refine⟨hstep,_,_,.draw Hs true,(st'.perm (QT A N' B)).put v hd,fun k hk'=>hkk k ?_,⟨rfl,fun _=>⟨rfl,hHs.hsat hAB⟩,fun _=>rfl,.inl rfl⟩,hj.h⟩
  obtain⟨q,hq,rfl⟩:=List.mem_map.1 hk'
  exact List.mem_map.2 ⟨q,(QT A N' B).mem_iff.2 hq,rfl⟩

theorem Q1e {A N B:SHeap} {f:FuncId} {args:Array Operand} {ats:Array TypeId} {vs:List Value} {first cap:Array Value} {R:World→Value→World→Prop} {dd:Option Tmp} [TF c.P f] (hH:H=A++(N++B)) (hm:m.mayStore ns r) (hd:dstOk c.n dd=true) (hg:guardF F g=some true)
  (hx:ev F x=some (.func (.func f) first cap)) (ha:evArgs F args.toList=some vs)
  (hc:∀ w,Kp c.M c.w0 w→Hsat H w→Calls c.P f (first++vs.toArray++cap) w (Ret fun v w'=>Kp (keys N) w w'∧R w v w'))
  (h:∀ w v w',Kp c.M c.w0 w→Hsat H w→Kp (keys N) w w'→R w v w'→∃ N',keys N'=keys N∧InW N' w'∧JO c Q m.spent r (putF F dd v) (A++(N'++B))) :
  JO c Q m (⟨dd,.call ⟨.value x,args,ats⟩,ty,g,.seq,ns⟩::r) F H:=by
 subst hH
 refine⟨⟨hd,.inr ⟨hg,fun a w st hs=>?_⟩⟩⟩
 have hrun:(execOp a.eval ⟨dd,.call ⟨.value x,args,ats⟩,ty, "",#[],none⟩).run c.P w=.ok (.enter f (first++vs.toArray++cap)) w:=by
  show (do let d ← resolve a.eval ⟨.value x,args,ats⟩ ty;invoke d.target d.args).run c.P w=_
  have h1:args.map a.eval=vs.toArray:=by
   have:=Ya st.fr ha
   apply Array.ext'
   rw[Array.toList_map,this]
  have h0:(resolve a.eval ⟨.value x,args,ats⟩ ty).run c.P w=.ok { target:=.fn (.func f) cap,args:=first++vs.toArray } w:=by
   simp[resolve,h1,st.fr.ev hx,Deferred.ofValue]
  rw[Sem.run_bind,h0]
  simp only[Result.andThen_ok,invoke,TF.run]
 unfold Oper.wp SOp.oper
 rw[hrun]
 refine Calls.mono (hc w st.kp st.hs) fun e w' he=>?_
 cases e with
 | panicked ch=>exact he.elim
 | outgrown=>exact he.elim
 | returned v =>
  obtain⟨hk,hR⟩:=he
  obtain⟨N',hkeys,hb,hj⟩:=h w v w' st.kp st.hs hk hR
  have hp:(A++(N++B)).Perm ((A++B)++N):=(QT A N B).symm
  have hnd:=(st.perm hp).hs.nd
  rw[List.map_append,List.nodup_append]at hnd
  obtain⟨st',hstep,hkk⟩:=YB (N':=N') st hp (by have:=hnd.2.1;unfold keys at hkeys;rw[hkeys];exact this) hb (fun k hk'=>.inl (hkeys▸hk')) (fun k h1 h2=>hk.block k h1 h2) hk.size hk.os hk.tape hk.output
  refine⟨hstep,_,_,m.spent,(st'.perm (QT A N' B)).put v hd,fun k hk'=>hkk k ?_,Zr hm,hj.h⟩
  obtain⟨q,hq,rfl⟩:=List.mem_map.1 hk'
  exact List.mem_map.2 ⟨q,(QT A N' B).mem_iff.2 hq,rfl⟩

theorem Q0r {e:TypeId} {b o len cap j:Nat} {k:IntKind} [TSl c.P t e] [TSz c.P e 1] (hd:dstOk c.n (some d)=true:=by exact rfl) (hg:guardF F g=some true:=by exact rfl) (hx:ev F x=some (.slice (some ⟨b,o,none⟩) len cap):=by exact rfl) (hy:ev F y=some (.int k j):=by exact rfl) (hj:j<len:=by omega)
  (h:JO c Q m r ((d,.pointer (some ⟨b,o+j,none⟩))::F) H):JO c Q m (⟨some d,.indexAddr t x y,ty,g,.mov,ns⟩::r) F H :=
 Qh1 hd hg hx (fun _=>rfl) hy hj h
end


theorem Q24:∀ (l:List Value) (cs:Array Value) (o:Nat),o+l.length≤cs.size→(storeL cs o l).toList=cs.toList.take o++(l++cs.toList.drop (o+l.length))
 | [],cs,o,h=>by rw[storeL];simp
 | v::l,cs,o,h=>by
  simp only[List.length_cons]at h
  rw[storeL,Q24 l _ _ (by rw[Array.size_setIfInBounds];omega),Array.toList_setIfInBounds]
  have hlt:o<(cs.toList.set o v).length:=by simp;omega
  rw[List.take_succ_eq_append_getElem hlt,List.take_set_of_le (Nat.le_refl _),List.drop_set_of_lt oq]
  simp only[List.getElem_set_self,List.append_assoc,List.singleton_append,List.length_cons,List.cons_append,List.nil_append]
  rw[show o+1+l.length=o+(l.length+1) by omega]

theorem Q0v (off:Nat):∀ (l:List Value) (k:Nat) (cs:Array Value),(l.zipIdx k).foldl (fun(cs:Array Value) (x:Value × Nat)=>cs.setIfInBounds (off+x.2) x.1) cs=storeL cs (off+k) l
 | [],k,cs=>rfl
 | v::l,k,cs=>by
  rw[List.zipIdx_cons,List.foldl_cons,Q0v off l,storeL]
  rfl

def flat (vs:List Value):List Value:=(vs.map fun v=>v.cells.toList).flatten

theorem Qeq (sz:Nat):∀ (l:List (Nat × Value)) (vs:List Value) (k:Nat) (cs:Array Value),l.map (·.2)=vs→l.map (·.1)=List.range' k l.length→(∀ v∈vs,v.cells.size=sz)→cs.size=(k+l.length)*sz →
  ∃ cs',Instr.fill (fun j=>some (j*sz,sz)) cs l=some cs'∧cs'.toList=cs.toList.take (k*sz)++flat vs
 | [],vs,k,cs,h1,_,_,h4=>by
  simp only[List.map_nil]at h1
  subst h1
  refine⟨cs,rfl,?_⟩
  rw[List.take_of_length_le (by simp at h4 ⊢;omega)]
  simp[flat]
 | (i,v)::l,vs,k,cs,h1,h2,h3,h4=>by
  simp only[List.map_cons]at h1
  subst h1
  simp only[List.map_cons,List.length_cons,List.range'_succ,List.cons.injEq]at h2
  obtain⟨rfl,h2⟩:=h2
  have hv:v.cells.size=sz:=h3 v spq
  have e1:(i+(l.length+1))*sz=i*sz+sz+l.length*sz:=by rw[Nat.add_mul,Nat.add_mul,Nat.one_mul];omega
  simp only[List.length_cons]at h4
  rw[e1]at h4
  have hst:v.cells.zipIdx.foldl (fun(cs:Array Value) (x:Value × Nat)=>cs.setIfInBounds (i*sz+x.2) x.1) cs=storeL cs (i*sz) v.cells.toList:=by
   rw[← Array.foldl_toList,Array.toList_zipIdx,Q0v];rfl
  obtain⟨cs',h5,h6⟩:=Qeq sz l (l.map (·.2)) (i+1) (storeL cs (i*sz) v.cells.toList) rfl h2 (fun u hu=>h3 u (List.mem_cons_of_mem _ hu)) (by rw[Wf,h4,Nat.add_mul,Nat.add_mul,Nat.one_mul])
  refine⟨cs',?_,?_⟩
  ·have hg:¬((v.cells.size≠sz || decide (i*sz+v.cells.size>cs.size))=true):=by
    simp only[hv,ne_eq,not_true_eq_false,decide_false,Bool.false_or,decide_eq_true_eq]
    omega
   show (if (v.cells.size≠sz || decide (i*sz+v.cells.size>cs.size))=true then none else Instr.fill _ (v.cells.zipIdx.foldl (fun(cs:Array Value) (x:Value × Nat)=>cs.setIfInBounds (i*sz+x.2) x.1) cs) l)=_
   rw[if_neg hg,hst,h5]
  ·rw[h6,Q24 _ _ _ (by simp[hv];omega)]
   have hlen:(cs.toList.take (i*sz)++v.cells.toList).length=(i+1)*sz:=by simp[hv,Nat.add_mul];omega
   rw[← List.append_assoc,List.take_left' hlen]
   simp[flat]

def ones:List Value→Prop
 | []=>True
 | v::r=>v.cells=#[v]∧ones r
theorem Q2q:∀ {vs:List Value},ones vs→flat vs=vs∧∀ v∈vs,v.cells.size=1
 | [],_=>⟨rfl,by simp⟩
 | v::r,⟨h1,h2⟩=>by
  obtain⟨h3,h4⟩:=Q2q h2
  refine⟨?_,fun u hu=>?_⟩
  ·have:flat (v::r)=v.cells.toList++flat r:=by simp[flat]
   rw[this,h3,h1];rfl
  ·rcases List.mem_cons.1 hu with rfl|hu
   ·rw[h1];rfl
   ·exact h4 u hu

theorem Q0x {F:SFrame}:∀ {ps:List (Nat × Operand)} {vs:List Value},evArgs F (ps.map (·.2))=some vs→∃ l,evParts F ps=some l∧l.map (·.1)=ps.map (·.1)∧l.map (·.2)=vs
 | [],vs,h=>by simp only[List.map_nil,evArgs,Option.some.injEq]at h;subst h;exact⟨[],rfl,rfl,rfl⟩
 | (i,x)::r,vs,h=>by
  simp only[List.map_cons,evArgs]at h
  split at h
  ·rename_i v vs' h1 h2
   simp only[Option.some.injEq]at h
   subst h
   obtain⟨l,h3,h4,h5⟩:=Q0x h2
   exact⟨(i,v)::l,by simp only[evParts,h1,h3],by simp[h4],by simp[h5]⟩
  ·cases h

section
variable {c:Cx} {Q:Exit→Act→World→Prop} {m:Mode} {F:SFrame} {H:SHeap} {r:List SOp} {g:Option (Option Tmp × Bool)} {ns:Bool} {d:Tmp} {ty t t':TypeId} {x y:Operand}

theorem Yk {i:Nat} (hd:dstOk c.n (some d)=true:=by exact rfl) (hg:guardF F g=some true:=by exact rfl) (hx:ev F x=some (.int .i64 i):=by exact rfl) (hy:ev F y=some (.int .i64 1):=by exact rfl) (hb:1≤i∧i<9223372036854775808:=by omega)
  (h:JO c Q m r ((d,.int .i64 ((i-1:Nat):Int))::F) H):JO c Q m (⟨some d,.binOp .sub t x y t',ty,g,.mov,ns⟩::r) F H:=Xw (j:=1) hd hg hx hy hb h
theorem Q6g {i:Nat} (hd:dstOk c.n (some d)=true:=by exact rfl) (hg:guardF F g=some true:=by exact rfl) (hx:ev F x=some (.int .i64 i):=by exact rfl) (hy:ev F y=some (.int .i64 2):=by exact rfl) (hb:2≤i∧i<9223372036854775808:=by omega)
  (h:JO c Q m r ((d,.int .i64 ((i-2:Nat):Int))::F) H):JO c Q m (⟨some d,.binOp .sub t x y t',ty,g,.mov,ns⟩::r) F H:=Xw (j:=2) hd hg hx hy hb h
theorem Yq {e:TypeId} {sz bytes n:Nat} {zc:Array Value} {parts:Array (Nat × Operand)} {vs cl:List Value} [TSl c.P t e] [TE c.P e sz bytes zc] (hd:dstOk c.n (some d)=true) (hg:guardF F g=some true) (hl:m.live=true)
  (hp:evArgs F (parts.toList.map (·.2))=some vs) (hi:parts.toList.map (·.1)=List.range n) (hs:∀ v∈vs,v.cells.size=sz) (hf:flat vs=cl) (hn:n*sz≤1000) (hn0:n*sz≠0)
  (h:∀ b,JO c Q m r ((d,(.slice (some ⟨b,0,none⟩) n n))::F) ((b,.cells ⟨cl⟩ e)::H)):JO c Q m (⟨some d,.buildSlice t n parts,ty,g,.alloc,ns⟩::r) F H:=by
 obtain⟨l,h1,h2,h3⟩:=Q0x hp
 have hln:l.length=n:=by
  have:=congrArg List.length h2
  rw[hi]at this
  simpa using this
 obtain⟨cs',h4,h5⟩:=Qeq sz l vs 0 (zerosOf zc (n*sz)) h3 (by rw[h2,hi,hln,List.range_eq_range']) hs (by simp[zerosOf,hln])
 have h6:cs'=⟨cl⟩:=by apply Array.ext';rw[h5, ← hf];simp
 subst h6
 exact Q6j hd hg hl h1 oq hn0 h4 h

theorem QA {e:TypeId} {bytes n:Nat} {zc:Array Value} {parts:Array (Nat × Operand)} {vs:List Value} [TSl c.P t e] [TE c.P e 1 bytes zc] (hd:dstOk c.n (some d)=true:=by exact rfl) (hg:guardF F g=some true:=by exact rfl) (hl:m.live=true:=by exact rfl)
  (hp:evArgs F (parts.toList.map (·.2))=some vs:=by exact rfl) (hi:parts.toList.map (·.1)=List.range n:=by exact rfl) (ho:ones vs:=by(repeat first|exact trivial|refine⟨rfl,?_⟩)) (hn:n*1≤1000:=by decide) (hn0:n*1≠0:=by decide)
  (h:∀ b,JO c Q m r ((d,(.slice (some ⟨b,0,none⟩) n n))::F) ((b,.cells ⟨vs⟩ e)::H)):JO c Q m (⟨some d,.buildSlice t n parts,ty,g,.alloc,ns⟩::r) F H :=
 Yq hd hg hl hp hi (Q2q ho).2 (Q2q ho).1 hn hn0 h

theorem Q53 {A:Option Addr} {len cap:Nat} {e:TypeId} [TSl c.P t e] (hd:dstOk c.n (some d)=true:=by exact rfl) (hg:guardF F g=some true:=by exact rfl) (hx:ev F x=some (.slice A len cap):=by exact rfl) (hy:ev F y=some (.slice none 0 0):=by exact rfl) (h:JO c Q m r ((d,(.bool A.isNone))::F) H) :
  JO c Q m (⟨some d,.binOp .eql t x y t',ty,g,.mov,ns⟩::r) F H :=
 Zz hd hg (fun a w fr=>by
  simp only[execOp,fr.ev hx,fr.ev hy,binOp]
  have hs:eqGuard .eql t x y (.slice A len cap) (.slice none 0 0)=pure ():=rfl
  simp only[hs,Sem.run_bind,Sem.run_pure,Result.andThen_ok,run_equal_slice_nil w t e A len cap (TSl.und (P:=c.P) (t:=t))]) h

end

theorem ZU (b n:Nat) (xs:List Nat) (vs:List Value) (hv:vs=xs.map nv) (hn:xs.length=n) (h:n≤1000):OwnN [(b,.cells ⟨vs⟩ 3)] (.slice (some ⟨b,0,none⟩) n n) n xs:=by
 subst hv
 have:=OwnRow.mk' (e:=3) (sz:=1) (n:=n) (b:=b) (cs:=⟨xs.map nv⟩) (by simp[hn]) (by simp only[maxLen];omega)
 exact this


abbrev yv (n:Nat):Value:=.int .u8 (n:Int)

def WU (w:World) (v:Value) (n:Nat) (xs:List Nat):Prop:=RdW w 1 v n (xs.map uv)
def RdU (c:Cx) (N:SHeap) (v:Value) (n:Nat) (xs:List Nat):Prop:=Rd c N 1 v n (xs.map uv)
def OwnU (N:SHeap) (v:Value) (n:Nat) (xs:List Nat):Prop:=OwnRow 80 1 N v n (xs.map uv)
theorem WU.len {w:World} {v:Value} {n:Nat} {xs:List Nat} (h:WU w v n xs):xs.length=n:=by simpa using h.1
theorem RdU.len {c:Cx} {N:SHeap} {v:Value} {n:Nat} {xs:List Nat} (h:RdU c N v n xs):xs.length=n:=by simpa using h.1
theorem OwnU.len {N:SHeap} {v:Value} {n:Nat} {xs:List Nat} (h:OwnU N v n xs):xs.length=n:=by simpa using h.1
theorem WU.mono {w w':World} {v:Value} {n:Nat} {xs:List Nat} (h:WU w v n xs) (hk:Kp [] w w'):WU w' v n xs:=RdW.mono h hk
theorem WU.rd {c:Cx} {v:Value} {n:Nat} {xs:List Nat} (h:WU c.w0 v n xs) (hM:c.M=[]) (N:SHeap):RdU c N v n xs:=RdW.rd h hM N
theorem RdU.at {c:Cx} {N H:SHeap} {w:World} {v:Value} {n:Nat} {xs:List Nat} (h:RdU c N v n xs) (hk:Kp c.M c.w0 w) (hs:Hsat H w) (hN:HSub N H):WU w v n xs:=Rd.at h hk hs hN
theorem OwnU.rd {c:Cx} {N:SHeap} {v:Value} {n:Nat} {xs:List Nat} (h:OwnU N v n xs):RdU c N v n xs:=OwnRow.rd h
theorem OwnU.new {N:SHeap} {v:Value} {n:Nat} {xs:List Nat} {w w':World} (h:OwnU N v n xs) (hn:New N w w'):WU w' v n xs:=New.rd (c:=⟨Tryz.prog,0,w,[],by simp⟩) h hn
theorem OwnU.form {N:SHeap} {v:Value} {n:Nat} {xs:List Nat} (h:OwnU N v n xs):∃ A cap,v=.slice A n cap:=by
 obtain⟨_,⟨rfl,rfl,rfl⟩|⟨b,cap,cur,rfl,_⟩⟩:=h
 ·exact⟨_,_,rfl⟩
 ·exact⟨_,_,rfl⟩
theorem WU.form {w:World} {v:Value} {n:Nat} {xs:List Nat} (h:WU w v n xs):∃ A cap,v=.slice A n cap:=by
 obtain⟨_,A,cap,rfl,_⟩:=h
 exact⟨_,_,rfl⟩
theorem OwnU.nil:OwnU [] (.slice none 0 0) 0 []:=OwnRow.nil _ 1
section
variable {c:Cx} {Q:Exit→Act→World→Prop} {m:Mode} {F:SFrame} {H:SHeap} {r:List SOp} {g:Option (Option Tmp × Bool)} {ns:Bool} {d:Tmp} {ty t t':TypeId} {x y:Operand} {N:SHeap} {n:Nat} {v:Value}
theorem QR {e:TypeId} {xs:List Nat} [TSl c.P t e] (hd:dstOk c.n (some d)=true:=by exact rfl) (hg:guardF F g=some true:=by exact rfl) (hx:ev F x=some v:=by exact rfl) (hv:RdU c N v n xs:=by(first|assumption|exact WU.rd (by assumption) rfl []|exact OwnU.rd (by assumption)))
  (h:JO c Q m r ((d,.int .i64 n)::F) H):JO c Q m (⟨some d,.call ⟨.builtin .len,#[x],#[t]⟩,ty,g,.mov,ns⟩::r) F H:=X6 hd hg hx hv h
theorem QY {e:TypeId} {xs:List Nat} {j:Nat} {k:IntKind} [TSl c.P t e] [TSz c.P e 1] (hd:dstOk c.n (some d)=true:=by exact rfl) (hg:guardF F g=some true:=by exact rfl) (hx:ev F x=some v:=by exact rfl) (hy:ev F y=some (.int k j):=by exact rfl) (hv:RdU c N v n xs:=by(first|assumption|exact WU.rd (by assumption) rfl []|exact OwnU.rd (by assumption))) (hj:j<n:=by(first|assumption|omega))
  (h:JO c Q m r ((d,.pointer (some (vAt v j)))::F) H):JO c Q m (⟨some d,.indexAddr t x y,ty,g,.mov,ns⟩::r) F H:=Y0 hd hg hx hy hv hj h
theorem Ym {xs:List Nat} {i:Nat} [T1 c.P t] (hd:dstOk c.n (some d)=true:=by exact rfl) (hg:guardF F g=some true:=by exact rfl) (hx:ev F x=some (.pointer (some (vAt v i))):=by exact rfl) (hl:m.live=true:=by exact rfl) (hv:RdU c N v n xs:=by(first|assumption|exact WU.rd (by assumption) rfl []|exact OwnU.rd (by assumption))) (hN:HSub N (m.src H):=by exact Q5) (hi:i<n:=by(first|assumption|omega))
  (h:JO c Q m r ((d,uv (xs.getD i 0))::F) H):JO c Q m (⟨some d,.load t x,ty,g,.ld,ns⟩::r) F H :=
 WD hd hg hx hl hv hN (by rw[List.getElem?_map,YH (d:=0) (by have:=hv.len;omega)];rfl) h
theorem X4 {A B:SHeap} {i u:Nat} {xs:List Nat} [T1 c.P t] (hO:OwnU N v n xs) (hH:H=A++(N++B)) (hg:guardF F g=some true) (hm:m.mayStore ns r) (hx:ev F x=some (.pointer (some (vAt v i)))) (hy:ev F y=some (uv u))
  (hi:i<n) (h:∀ N',OwnU N' v n (xs.set i u)→JO c Q m.spent r F (A++(N'++B))):JO c Q m (⟨none,.store t x y,ty,g,.seq,ns⟩::r) F H :=
 Qgx hO hH hg hm hx hy rfl rfl oq (fun N' h'=>h N' (by unfold OwnU;rw[List.map_set];exact h'))
theorem ZH (b n:Nat) (hn:n≤maxLen):OwnU [(b,.cells (zerosOf #[(.int .u64 0)] (n*1)) 80)] (.slice (some ⟨b,0,none⟩) n n) n (tab n fun _=>0):=by
 have h:=OwnRow.mk' (e:=80) (sz:=1) (n:=n) (b:=b) (cs:=zerosOf #[(.int .u64 0)] (n*1)) (by rw[zeros1];simp) hn
 rw[zeros1]at h ⊢
 have e:(Array.replicate (n*1) (.int .u64 0)).toList=(tab n fun _=>0).map uv:=by
  apply List.ext_getElem?
  intro i
  simp only[Array.toList_replicate,List.getElem?_map,List.getElem?_replicate,Nat.mul_one]
  by_cases hi:i<n
  ·rw[if_pos hi,Xk hi];rfl
  ·rw[if_neg hi,List.getElem?_eq_none (by simp;omega)];rfl
 rw[e]at h
 exact h
theorem Qdq {A B N2:SHeap} {v2:Value} {k:Nat} {xs ys:List Nat} [TSl c.P t 80] [TE c.P 80 1 8 #[(.int .u64 0)]] (hO:OwnU N v n xs) (h2:RdU c N2 v2 k ys) (hN2:HSub N2 H) (hH:H=A++(N++B)) (hm:m.mayStore ns r) (hd:dstOk c.n (some d)=true) (hg:guardF F g=some true) (hx:ev F x=some v) (hy:ev F y=some v2)
  (hb:n+k≤10000000000000) (h:∀ v' N',OwnU N' v' (n+k) (xs++ys)→JO c Q m.spent r ((d,v')::F) (A++(N'++B))) :
  JO c Q m (⟨some d,.call ⟨.builtin .append,#[x,y],#[t,t]⟩,ty,g,.seq,ns⟩::r) F H :=
 X8 (e:=80) (sz:=1) (bytes:=8) (zc:=#[(.int .u64 0)]) (xs:=xs.map uv) (news:=ys.map uv) (n:=n) (mm:=k) rfl hO h2 hN2 hH hm hd hg hx hy (fun u hu=>by obtain⟨a,_,rfl⟩:=List.mem_map.1 hu;rfl) (by simp only[maxLen];omega) oq (fun v' N' h'=>h v' N' (by unfold OwnU;rw[List.map_append];exact h'))
end

theorem YU (b n:Nat) (xs:List Nat) (vs:List Value) (hv:vs=xs.map uv) (hn:xs.length=n) (h:n≤1000):OwnU [(b,.cells ⟨vs⟩ 80)] (.slice (some ⟨b,0,none⟩) n n) n xs:=by
 subst hv
 have:=OwnRow.mk' (e:=80) (sz:=1) (n:=n) (b:=b) (cs:=⟨xs.map uv⟩) (by simp[hn]) (by simp only[maxLen];omega)
 exact this
def rowCU (xs:List Nat) (rest:List Value):Array Value:=⟨xs.map uv++rest⟩
theorem Q0a (xs:List Nat) (rest:List Value):(rowCU xs rest).size=xs.length+rest.length:=by simp[rowCU]
theorem OwnU.named {N:SHeap} {v:Value} {n:Nat} {xs:List Nat} (h:OwnU N v n xs) (hn:0<n):∃ b cap rest,v=.slice (some ⟨b,0,none⟩) n cap∧N=[(b,.cells (rowCU xs rest) 80 (0,0))]∧n≤cap∧rest.length=cap-n∧cap≤maxLen:=by
 obtain⟨hl,⟨rfl,rfl,rfl⟩|⟨b,cap,cur,rfl,rfl,h2,h3,h4,h5⟩⟩:=h
 ·omega
 ·refine⟨b,cap,cur.toList.drop n,rfl,?_,h2,by simp[h4],h3⟩
  have:cur=rowCU xs (cur.toList.drop n):=by
   apply Array.ext'
   show cur.toList=xs.map uv++cur.toList.drop n
   rw[Nat.mul_one]at h5
   rw[← h5,List.take_append_drop]
  rw[← this]
theorem Q10 {b cap n:Nat} {xs:List Nat} {rest:List Value} (hl:xs.length=n) (hn:n≤cap) (hr:rest.length=cap-n) (hc:cap≤maxLen):OwnU [(b,.cells (rowCU xs rest) 80 (0,0))] (.slice (some ⟨b,0,none⟩) n cap) n xs:=by
 refine⟨by simp[hl],.inr ⟨b,cap,_,rfl,rfl,hn,hc,by rw[Q0a];omega,?_⟩⟩
 show (xs.map uv++rest).take (n*1)=xs.map uv
 rw[Nat.mul_one,List.take_append_of_le_length (by simp[hl])]
 exact List.take_of_length_le (by simp[hl])

def WY (w:World) (v:Value) (n:Nat) (xs:List Nat):Prop:=RdW w 1 v n (xs.map yv)
def RdY (c:Cx) (N:SHeap) (v:Value) (n:Nat) (xs:List Nat):Prop:=Rd c N 1 v n (xs.map yv)
def OwnY (N:SHeap) (v:Value) (n:Nat) (xs:List Nat):Prop:=OwnRow 5 1 N v n (xs.map yv)
theorem WY.len {w:World} {v:Value} {n:Nat} {xs:List Nat} (h:WY w v n xs):xs.length=n:=by simpa using h.1
theorem RdY.len {c:Cx} {N:SHeap} {v:Value} {n:Nat} {xs:List Nat} (h:RdY c N v n xs):xs.length=n:=by simpa using h.1
theorem OwnY.len {N:SHeap} {v:Value} {n:Nat} {xs:List Nat} (h:OwnY N v n xs):xs.length=n:=by simpa using h.1
theorem WY.mono {w w':World} {v:Value} {n:Nat} {xs:List Nat} (h:WY w v n xs) (hk:Kp [] w w'):WY w' v n xs:=RdW.mono h hk
theorem WY.rd {c:Cx} {v:Value} {n:Nat} {xs:List Nat} (h:WY c.w0 v n xs) (hM:c.M=[]) (N:SHeap):RdY c N v n xs:=RdW.rd h hM N
theorem RdY.at {c:Cx} {N H:SHeap} {w:World} {v:Value} {n:Nat} {xs:List Nat} (h:RdY c N v n xs) (hk:Kp c.M c.w0 w) (hs:Hsat H w) (hN:HSub N H):WY w v n xs:=Rd.at h hk hs hN
theorem OwnY.rd {c:Cx} {N:SHeap} {v:Value} {n:Nat} {xs:List Nat} (h:OwnY N v n xs):RdY c N v n xs:=OwnRow.rd h
theorem OwnY.new {N:SHeap} {v:Value} {n:Nat} {xs:List Nat} {w w':World} (h:OwnY N v n xs) (hn:New N w w'):WY w' v n xs:=New.rd (c:=⟨Tryz.prog,0,w,[],by simp⟩) h hn
theorem OwnY.form {N:SHeap} {v:Value} {n:Nat} {xs:List Nat} (h:OwnY N v n xs):∃ A cap,v=.slice A n cap:=by
 obtain⟨_,⟨rfl,rfl,rfl⟩|⟨b,cap,cur,rfl,_⟩⟩:=h
 ·exact⟨_,_,rfl⟩
 ·exact⟨_,_,rfl⟩
theorem OwnY.nil:OwnY [] (.slice none 0 0) 0 []:=OwnRow.nil _ 1
section
variable {c:Cx} {Q:Exit→Act→World→Prop} {m:Mode} {F:SFrame} {H:SHeap} {r:List SOp} {g:Option (Option Tmp × Bool)} {ns:Bool} {d:Tmp} {ty t t':TypeId} {x y:Operand} {N:SHeap} {n:Nat} {v:Value}
theorem X7 {A B N2:SHeap} {v2:Value} {k:Nat} {xs ys:List Nat} [TSl c.P t 5] [TE c.P 5 1 1 #[(.int .u8 0)]] (hO:OwnY N v n xs) (h2:RdY c N2 v2 k ys) (hN2:HSub N2 H) (hH:H=A++(N++B)) (hm:m.mayStore ns r) (hd:dstOk c.n (some d)=true) (hg:guardF F g=some true) (hx:ev F x=some v) (hy:ev F y=some v2)
  (hb:n+k≤10000000000000) (h:∀ v' N',OwnY N' v' (n+k) (xs++ys)→JO c Q m.spent r ((d,v')::F) (A++(N'++B))) :
  JO c Q m (⟨some d,.call ⟨.builtin .append,#[x,y],#[t,t]⟩,ty,g,.seq,ns⟩::r) F H :=
 X8 (e:=5) (sz:=1) (bytes:=1) (zc:=#[(.int .u8 0)]) (xs:=xs.map yv) (news:=ys.map yv) (n:=n) (mm:=k) rfl hO h2 hN2 hH hm hd hg hx hy (fun u hu=>by obtain⟨a,_,rfl⟩:=List.mem_map.1 hu;rfl) (by simp only[maxLen];omega) oq (fun v' N' h'=>h v' N' (by unfold OwnY;rw[List.map_append];exact h'))
end

theorem XU (b n:Nat) (xs:List Nat) (vs:List Value) (hv:vs=xs.map yv) (hn:xs.length=n) (h:n≤1000):OwnY [(b,.cells ⟨vs⟩ 5)] (.slice (some ⟨b,0,none⟩) n n) n xs:=by
 subst hv
 have:=OwnRow.mk' (e:=5) (sz:=1) (n:=n) (b:=b) (cs:=⟨xs.map yv⟩) (by simp[hn]) (by simp only[maxLen];omega)
 exact this
def rowCY (xs:List Nat) (rest:List Value):Array Value:=⟨xs.map yv++rest⟩

abbrev sv (l:List UInt8):Value:=.string ⟨l.toArray⟩
def bts (l:List UInt8):List Nat:=l.map UInt8.toNat
theorem Q5z (l:List UInt8):(bts l).length=l.length:=by simp[bts]
theorem Qg1 {l:List UInt8} {i:Nat}:(bts l).getD i 0<256:=by
 simp only[bts,List.getD,List.getElem?_map]
 cases l[i]? with
 | none=>decide
 | some b=>exact UInt8.toNat_lt b
theorem Qmr {a b:List UInt8} (h:bts a=bts b):a=b:=by
 unfold bts at h
 exact(List.map_inj_right (fun x y e=>UInt8.toNat.inj e)).1 h

class TStr (P:Program) (t:TypeId):Prop where
 und:P.underlying t=some .string

theorem Q81 (l:List UInt8):(ByteArray.mk l.toArray).size=l.length:=by simp[ByteArray.size]
theorem Wu (l:List UInt8):(ByteArray.mk l.toArray).toList=l:=by
 simp

section
variable {c:Cx} {Q:Exit→Act→World→Prop} {m:Mode} {F:SFrame} {H:SHeap} {r:List SOp} {g:Option (Option Tmp × Bool)} {ns:Bool} {d:Tmp} {ty t t':TypeId} {x y:Operand} {l l':List UInt8}

theorem Q0q [TStr c.P t] (hd:dstOk c.n (some d)=true:=by exact rfl) (hg:guardF F g=some true:=by exact rfl) (hx:ev F x=some (sv l):=by exact rfl)
  (h:JO c Q m r ((d,.int .i64 l.length)::F) H):JO c Q m (⟨some d,.call ⟨.builtin .len,#[x],#[t]⟩,ty,g,.mov,ns⟩::r) F H :=
 Zz hd hg (fun a w fr=>by
  simp[execOp,resolve,invoke,builtin,fr.ev hx,run_len_string w t ty _ (TStr.und (P:=c.P)),goInt,Q81]) h

theorem Q9p {k:IntKind} {j:Nat} [TStr c.P t] (hd:dstOk c.n (some d)=true:=by exact rfl) (hg:guardF F g=some true:=by exact rfl) (hx:ev F x=some (sv l):=by exact rfl) (hy:ev F y=some (.int k j):=by exact rfl) (hj:j<l.length:=by(first|assumption|omega))
  (h:JO c Q m r ((d,yv ((bts l).getD j 0))::F) H):JO c Q m (⟨some d,.index t x y,ty,g,.mov,ns⟩::r) F H :=
 Zz hd hg (fun a w fr=>by
  have h1:(0:Int)≤j∧(j:Int)<(ByteArray.mk l.toArray).size:=by rw[Q81];omega
  have h2:(bts l).getD j 0=l[j].toNat:=by simp[bts,List.getD,hj]
  simp only[execOp,fr.ev hx,fr.ev hy,Sem.run_bind,run_index_string w t _ k j (TStr.und (P:=c.P)),h1,and_self,dite_true,Result.andThen_ok,Sem.run_pure,h2]
  rfl) h

theorem Qh4 [TStr c.P t] (hd:dstOk c.n (some d)=true:=by exact rfl) (hg:guardF F g=some true:=by exact rfl) (hx:ev F x=some (sv l):=by exact rfl) (hy:ev F y=some (sv l'):=by exact rfl) (h:JO c Q m r ((d,.bool (decide (l=l')))::F) H) :
  JO c Q m (⟨some d,.binOp .eql t x y t',ty,g,.mov,ns⟩::r) F H :=
 Zz hd hg (fun a w fr=>by
  simp[execOp,fr.ev hx,fr.ev hy,eqGuard,binOp_string_eql,Wu]
  by_cases h:l=l'<;>simp[h]) h
theorem Qdf [TStr c.P t] (hd:dstOk c.n (some d)=true:=by exact rfl) (hg:guardF F g=some true:=by exact rfl) (hx:ev F x=some (sv l):=by exact rfl) (hy:ev F y=some (sv l'):=by exact rfl) (h:JO c Q m r ((d,.bool (decide (l≠l')))::F) H) :
  JO c Q m (⟨some d,.binOp .neq t x y t',ty,g,.mov,ns⟩::r) F H :=
 Zz hd hg (fun a w fr=>by
  simp[execOp,fr.ev hx,fr.ev hy,eqGuard,binOp_string_neq,Wu]
  by_cases h:l=l'<;>simp[h]) h
theorem Qkz {k:IntKind} {i:Nat} {lo:Operand} [TStr c.P t] (hd:dstOk c.n (some d)=true) (hg:guardF F g=some true) (hx:ev F x=some (sv l)) (hy:ev F lo=some (.int k i)) (hi:i≤l.length)
  (h:JO c Q m r ((d,sv (l.drop i))::F) H):JO c Q m (⟨some d,.slice t x (some lo) none none,ty,g,.mov,ns⟩::r) F H :=
 Zz hd hg (fun a w fr=>by
  have h1:(0:Int)≤i:=by omega
  have h2:(i:Int)≤(l.length:Int):=by omega
  simp only[execOp,fr.ev hx,Option.map_some,Option.map_none,fr.ev hy,Sem.run_bind,run_sliceAt_string w t _ _ _ _ (TStr.und (P:=c.P)),run_slice_string_from_if w t _ k i (TStr.und (P:=c.P)),h1,Q81,h2,and_self,if_true,Result.andThen_ok,Sem.run_pure,Int.toNat_natCast,ByteArray.extract_mk]
  try rw[List.take_of_length_le spq]) h
end

section
variable {c:Cx} {Q:Exit→Act→World→Prop} {m:Mode} {F:SFrame} {H:SHeap} {r:List SOp} {g:Option (Option Tmp × Bool)} {ns:Bool} {d:Tmp} {ty t t':TypeId} {x y:Operand}

theorem Qjr {xs:List Nat} (h:∀ u∈xs,u<256):bts (xs.map UInt8.ofNat)=xs:=by
 unfold bts
 rw[List.map_map]
 conv=>rhs;rw[← List.map_id xs]
 refine List.map_congr_left fun u hu=>?_
 have:=h u hu
 simp[Function.comp]
 omega

theorem Q3i {P:Program} (w:World) (src dst e:TypeId) (cap:Nat) (hs:P.underlying src=some (.slice e)) (he:P.underlying e=some (.int .u8)) (hd:P.underlying dst=some .string) :
  (convert src dst (.slice none 0 cap)).run P w=.ok (sv []) w:=by
 rw[run_convert_bytes_string w src dst e none 0 cap hs he hd]
 simp[Conv.bytesToString]
 rfl

theorem Qdc {N:SHeap} {v:Value} {n:Nat} {xs:List Nat} {e:TypeId} [TSl c.P t e] [TI c.P e .u8] [TStr c.P t'] (hxs:∀ u∈xs,u<256) (hv:RdY c N v n xs) (hN:HSub N H) (hm:m.mayCall ns r) (hd:dstOk c.n (some d)=true) (hg:guardF F g=some true) (hx:ev F x=some v)
  (h:∀ l,bts l=xs→JO c Q m r ((d,sv l)::F) H):JO c Q m (⟨some d,.convert t t' x,ty,g,.seq,ns⟩::r) F H:=by
 refine Qj3 (v:=sv (xs.map UInt8.ofNat)) hm hd hg (fun a w fr hs=>?_) (h _ (Qjr hxs))
 have hlen:=hv.len
 obtain⟨_,A,cap,rfl,_,hrd⟩:=hv
 rcases Nat.eq_zero_or_pos n with h0|h0
 ·subst h0
  have hx0:xs=[]:=List.eq_nil_of_length_eq_zero hlen
  subst hx0
  cases A with
  | none =>
   simp only[execOp,fr.ev hx,Sem.run_bind,Q3i w t t' e cap TSl.und TI.und TStr.und,Result.andThen_ok,Sem.run_pure]
   rfl
  | some ad =>
   have h1:=run_convert_bytes_back (P:=c.P) w t t' e ad cap [] TSl.und TI.und TStr.und (fun j hj=>by simp at hj)
   simp only[List.length_nil]at h1
   simp only[execOp,fr.ev hx,Sem.run_bind,h1,Result.andThen_ok,Sem.run_pure]
   rfl
 ·obtain⟨⟨b,o,rfl⟩,hcell⟩:=hrd h0
  have h1:=run_convert_bytes_back (P:=c.P) w t t' e ⟨b,o,none⟩ cap (xs.map UInt8.ofNat) TSl.und TI.und TStr.und (fun j hj=>by
   have hj':j<xs.length:=by simpa using hj
   have h2:=hcell w ⟨hs.1,hN.hsat hs.2⟩ j (yv xs[j]) (by simp[hj'])
   rw[Z4]
   have h3:=hxs xs[j] (List.getElem_mem hj')
   simp only[vAt]at h2
   rw[h2]
   simp only[List.getElem_map]
   congr 2
   simp
   omega)
  have h4:(xs.map UInt8.ofNat).length=n:=by simpa using hlen
  rw[h4]at h1
  simp only[execOp,fr.ev hx,Sem.run_bind,h1,Result.andThen_ok,Sem.run_pure]
end


def nrm (l:List Nat):List Nat:=match l with
 | []=>[]
 | x::r=>match nrm r with
  | []=>if x=0 then [] else [x]
  | y::s=>x::y::s

theorem Q2r (l:List Nat):nrm (l++[0])=nrm l:=by
 induction l with
 | nil=>rfl
 | cons x r ih=>simp only[List.cons_append,nrm,ih]
theorem Qa8 (l:List Nat) {x:Nat} (hx:x≠0):nrm (l++[x])=l++[x]:=by
 induction l with
 | nil=>simp[nrm,hx]
 | cons y r ih =>
  rw[List.cons_append,nrm,ih]
  cases r<;>rfl

def val (b:Nat):List Nat→Nat
 | []=>0
 | x::r=>x+b*val b r
theorem Zb (b:Nat) (l:List Nat):val b (nrm l)=val b l:=by
 induction l with
 | nil=>rfl
 | cons x r ih =>
  rw[nrm,val]
  cases h:nrm r with
  | nil =>
   rw[h]at ih
   have:val b r=0:=ih.symm
   rw[this]
   by_cases hx:x=0
   ·simp[hx,val]
   ·simp[hx,val]
  | cons y s=>rw[h]at ih;simp only[val]at ih ⊢;rw[← ih]
theorem Yw (b:Nat) (l r:List Nat):val b (l++r)=val b l+b ^ l.length*val b r:=by
 induction l with
 | nil=>simp[val]
 | cons x l ih =>
  simp only[List.cons_append,val,ih,List.length_cons,Nat.pow_succ,Nat.mul_add]
  rw[Nat.mul_comm (b ^ l.length) b,Nat.mul_assoc]
  omega


section
variable {c:Cx} {Q:Exit→Act→World→Prop} {m:Mode} {F:SFrame} {H:SHeap} {r:List SOp} {g:Option (Option Tmp × Bool)} {ns:Bool} {d:Tmp} {ty t t':TypeId} {x y:Operand}
theorem Q6i {e:TypeId} {sz b o len cap j:Nat} {hi:Operand} [TSl c.P t e] [TSz c.P e sz] (hd:dstOk c.n (some d)=true) (hg:guardF F g=some true) (hx:ev F x=some (.slice (some ⟨b,o,none⟩) len cap)) (hhi:ev F hi=some (nv j)) (hj:j≤len) (hlc:len≤cap)
  (h:JO c Q m r ((d,(.slice (some ⟨b,o,none⟩) j cap))::F) H):JO c Q m (⟨some d,.slice t x none (some hi) none,ty,g,.mov,ns⟩::r) F H :=
 Zz hd hg (fun a w fr=>by
  have e2:(0:Int)≤j∧(j:Int)≤cap:=by omega
  have e3:(if cap=0 then some (⟨b,o,none⟩:Addr) else some ((⟨b,o,none⟩:Addr).add (0*sz)))=some ⟨b,o,none⟩:=by
   split
   ·rfl
   ·simp[Z4]
  simp only[execOp,fr.ev hx,Option.map_some,fr.ev hhi,Option.map_none,Instr.sliceAt,Sem.run_bind,run_underlying (TSl.und (P:=c.P) (t:=t)),Result.andThen_ok,Instr.slice,Instr.sliceBounds,
   Instr.sliceBound,asIntOf,Sem.run_pure,e2,and_self,if_true,Int.toNat_natCast,TSz.size (e:=e) (n:=sz),if_false,Nat.sub_zero,e3]) h
end

theorem Q1j {xs:List Nat} {k:Nat} (hk:k≤xs.length) (h:∀ i,k≤i→i<xs.length→xs.getD i 0=0) (h0:0<k→xs.getD (k-1) 0≠0):nrm xs=xs.take k:=by
 have key:∀ d,k+d≤xs.length→nrm (xs.take (k+d))=xs.take k:=fun d=>by
  induction d with
  | zero =>
   intro _
   rcases Nat.eq_zero_or_pos k with h1|h1
   ·subst h1;rfl
   ·have e:xs.take k=xs.take (k-1)++[xs.getD (k-1) 0]:=by
     have h2:xs[k-1]?=some (xs.getD (k-1) 0):=YH (d:=0) oq
     have h3:=List.take_add_one (l:=xs) (i:=k-1)
     rw[show k-1+1=k by omega,h2]at h3
     exact h3
    rw[Nat.add_zero,e]
    exact Qa8 _ (h0 h1)
  | succ d ih =>
   intro hd
   have e:xs.take (k+(d+1))=xs.take (k+d)++[0]:=by
    have h2:xs[k+d]?=some 0:=by rw[YH (d:=0) oq,h (k+d) oq oq]
    rw[← Nat.add_assoc,List.take_add_one,h2];rfl
   rw[e,Q2r]
   exact ih oq
 have:=key (xs.length-k) oq
 rw[show k+(xs.length-k)=xs.length by omega,List.take_length]at this
 exact this

theorem YJ (w:World) (A:Option Addr) (n cap:Nat) (xs:List Nat) (hv:WU w (.slice A n cap) n xs) (hn:n≤10000000000000) :
  Calls Tryz.prog 141 #[.slice A n cap] w (Ret fun v w'=>Kp [] w w'∧∃ k,k≤n∧v=.slice A k cap∧nrm xs=xs.take k):=by
 have hlen:=hv.len
 refine Q9 [] [] spq [] Tryz.func141 rfl mixed (by kernel_rfl) Tryz.ntmps141 Tryz.results141 rfl ⟨by simp,by simp⟩ spq ?_
 simp only[toS,textOps,toSOp,kindAt,kindOf,odAt,sopsAt,ordOf,zipF]
 repeat' first|apply jS|apply jO|apply jN|apply jT|refine Q0 ?_|apply jB
 refine Qi (ι:=Nat) ⟨fun k=>[(0,.slice A k cap)],fun _=>[],fun k=>k≤n∧∀ i,k≤i→i<n→xs.getD i 0=0,fun k=>k⟩ n ⟨Nat.le_refl _,fun i a b=>by omega⟩ cqq Qr (fun k hk=>?_)
 obtain⟨hkn,hz⟩:=hk
 dsimp only at hkn hz ⊢
 have hrow:WU w (.slice A k cap) k (xs.take k):=by
  obtain⟨h1,A',cap',h2,h3,h4⟩:=hv
  simp only[Value.slice.injEq]at h2
  obtain⟨rfl,_,rfl⟩:=h2
  refine⟨by simp;omega,A,cap,rfl,by omega,fun h0=>⟨(h4 oq).1,fun j u hu=>?_⟩⟩
  obtain⟨⟨b,o,rfl⟩,h5⟩:=h4 oq
  refine h5 j u ?_
  rw[List.map_take,List.getElem?_take]at hu
  split at hu
  ·exact hu
  ·cases hu
 have hcap:k≤cap:=by
  obtain⟨_,_,_,h2,h3,_⟩:=hrow
  simp only[Value.slice.injEq]at h2
  obtain⟨_,_,rfl⟩:=h2
  exact h3
 have hget:0<k→(xs.take k).getD (k-1) 0=xs.getD (k-1) 0:=fun h=>by
  simp only[List.getD,List.getElem?_take,if_pos (show k-1<k by omega)]
 by_cases hk0:0<k
 ·have hg:=hget hk0
  have hA:∃ b o,A=some ⟨b,o,none⟩:=by
   obtain⟨_,_,_,h2,_,h4⟩:=hrow
   simp only[Value.slice.injEq]at h2
   obtain⟨rfl,_,rfl⟩:=h2
   exact(h4 hk0).1
  by_cases hx0:xs.getD (k-1) 0=0
  ·repeat' first|apply jS|apply jO|apply jN|apply jT|refine Q1 ?_|refine Y5 (h:=?_)|refine Yk (h:=?_)|refine Ql ?_|refine QY (h:=?_)|refine Ym (h:=?_)|(refine Z3 (h1:=?_) (h2:=?_)<;>intro hc<;>try (exfalso;omega))|(refine QU (h1:=?_) (h2:=?_)<;>intro hc<;>try (exfalso;omega))|apply jK|refine Q8 rfl ?_|apply jB
   obtain⟨b,o,rfl⟩:=hA
   refine Q6i rfl rfl rfl rfl oq hcap ?_
   repeat' first|apply jN|refine Q0 ?_|apply jW
   exact Qa (k-1) ⟨by omega,fun i a b=>by
    by_cases e:i=k-1
    ·subst e;exact hx0
    ·exact hz i oq b⟩ dgq cqq Qr
  ·repeat' first|apply jS|apply jO|apply jN|apply jT|refine Q1 ?_|refine Q0 ?_|refine Y5 (h:=?_)|refine Yk (h:=?_)|refine Ql ?_|refine QY (h:=?_)|refine Ym (h:=?_)|(refine Z3 (h1:=?_) (h2:=?_)<;>intro hc<;>try (exfalso;omega))|(refine QU (h1:=?_) (h2:=?_)<;>intro hc<;>try (exfalso;omega))|apply jU|apply jE|apply jR|refine Q4 rfl ?_|refine Qe ?_
   exact Qh rfl (fun a w' st=>⟨st.kp,k,hkn,rfl,Q1j oq (fun i a b=>hz i a oq) (fun _=>hx0)⟩)
 ·repeat' first|apply jS|apply jO|apply jN|apply jT|refine Q1 ?_|refine Q0 ?_|refine Y5 (h:=?_)|refine Qx (h:=?_)|(refine Z3 (h1:=?_) (h2:=?_)<;>intro hc<;>try (exfalso;omega))|apply jU|apply jE|refine Q4 rfl ?_|refine Qe ?_|refine QJ (h:=?_)|apply jR
  exact Qh rfl (fun a w' st=>⟨st.kp,k,hkn,rfl,Q1j oq (fun i a b=>hz i a oq) (fun h=>absurd h hk0)⟩)

theorem Q4g (w:World) (A:Option Addr) (n cap:Nat) (xs:List Nat) (hv:WN w (.slice A n cap) n xs) (hn:n≤10000000000000) :
  Calls Tryz.prog 112 #[.slice A n cap] w (Ret fun v w'=>Kp [] w w'∧∃ k,k≤n∧v=.slice A k cap∧nrm xs=xs.take k):=by
 have hlen:=hv.len
 refine Q9 [] [] spq [] Tryz.func112 rfl mixed (by kernel_rfl) Tryz.ntmps112 Tryz.results112 rfl ⟨by simp,by simp⟩ spq ?_
 simp only[toS,textOps,toSOp,kindAt,kindOf,odAt,sopsAt,ordOf,zipF]
 repeat' first|apply jS|apply jO|apply jN|apply jT|refine Q0 ?_|apply jB
 refine Qi (ι:=Nat) ⟨fun k=>[(0,.slice A k cap)],fun _=>[],fun k=>k≤n∧∀ i,k≤i→i<n→xs.getD i 0=0,fun k=>k⟩ n ⟨Nat.le_refl _,fun i a b=>by omega⟩ cqq Qr (fun k hk=>?_)
 obtain⟨hkn,hz⟩:=hk
 dsimp only at hkn hz ⊢
 have hrow:WN w (.slice A k cap) k (xs.take k):=by
  obtain⟨h1,A',cap',h2,h3,h4⟩:=hv
  simp only[Value.slice.injEq]at h2
  obtain⟨rfl,_,rfl⟩:=h2
  refine⟨by simp;omega,A,cap,rfl,by omega,fun h0=>⟨(h4 oq).1,fun j u hu=>?_⟩⟩
  obtain⟨⟨b,o,rfl⟩,h5⟩:=h4 oq
  refine h5 j u ?_
  rw[List.map_take,List.getElem?_take]at hu
  split at hu
  ·exact hu
  ·cases hu
 have hcap:k≤cap:=by
  obtain⟨_,_,_,h2,h3,_⟩:=hrow
  simp only[Value.slice.injEq]at h2
  obtain⟨_,_,rfl⟩:=h2
  exact h3
 have hget:0<k→(xs.take k).getD (k-1) 0=xs.getD (k-1) 0:=fun h=>by
  simp only[List.getD,List.getElem?_take,if_pos (show k-1<k by omega)]
 by_cases hk0:0<k
 ·have hg:=hget hk0
  have hA:∃ b o,A=some ⟨b,o,none⟩:=by
   obtain⟨_,_,_,h2,_,h4⟩:=hrow
   simp only[Value.slice.injEq]at h2
   obtain⟨rfl,_,rfl⟩:=h2
   exact(h4 hk0).1
  by_cases hx0:xs.getD (k-1) 0=0
  ·repeat' first|apply jS|apply jO|apply jN|apply jT|refine Q1 ?_|refine ZI (h:=?_)|refine Xn (h:=?_)|refine Y5 (h:=?_)|refine Yk (h:=?_)|refine Ql ?_|(refine Z3 (h1:=?_) (h2:=?_)<;>intro hc<;>try (exfalso;omega))|(refine QU (h1:=?_) (h2:=?_)<;>intro hc<;>try (exfalso;omega))|apply jK|refine Q8 rfl ?_|apply jB
   obtain⟨b,o,rfl⟩:=hA
   refine Q6i rfl rfl rfl rfl oq hcap ?_
   repeat' first|apply jN|refine Q0 ?_|apply jW
   exact Qa (k-1) ⟨by omega,fun i a b=>by
    by_cases e:i=k-1
    ·subst e;exact hx0
    ·exact hz i oq b⟩ dgq cqq Qr
  ·repeat' first|apply jS|apply jO|apply jN|apply jT|refine Q1 ?_|refine Q0 ?_|refine ZI (h:=?_)|refine Xn (h:=?_)|refine Y5 (h:=?_)|refine Yk (h:=?_)|refine Ql ?_|(refine Z3 (h1:=?_) (h2:=?_)<;>intro hc<;>try (exfalso;omega))|(refine QU (h1:=?_) (h2:=?_)<;>intro hc<;>try (exfalso;omega))|apply jU|apply jE|apply jR|refine Q4 rfl ?_|refine Qe ?_
   exact Qh rfl (fun a w' st=>⟨st.kp,k,hkn,rfl,Q1j oq (fun i a b=>hz i a oq) (fun _=>hx0)⟩)
 ·repeat' first|apply jS|apply jO|apply jN|apply jT|refine Q1 ?_|refine Q0 ?_|refine Y5 (h:=?_)|refine Qx (h:=?_)|(refine Z3 (h1:=?_) (h2:=?_)<;>intro hc<;>try (exfalso;omega))|apply jU|apply jE|refine Q4 rfl ?_|refine Qe ?_|refine QJ (h:=?_)|apply jR
  exact Qh rfl (fun a w' st=>⟨st.kp,k,hkn,rfl,Q1j oq (fun i a b=>hz i a oq) (fun h=>absurd h hk0)⟩)


structure Dig (b:Nat) (l:List Nat):Prop where
 lt:∀ x∈l,x<b
 nrm:nrm l=l

theorem Q59 {x:Nat} {l:List Nat} (h:nrm (x::l)=x::l):nrm l=l:=by
 rw[nrm]at h
 cases hn:nrm l with
 | nil =>
  rw[hn]at h
  by_cases hx:x=0
  ·rw[if_pos hx]at h;cases h
  ·rw[if_neg hx]at h;simpa using h
 | cons y s =>
  rw[hn]at h
  simpa using h
theorem Q2s {l:List Nat}:∀ x∈nrm l,x∈l:=by
 induction l with
 | nil=>intro x h;exact h
 | cons y r ih =>
  intro x h
  rw[nrm]at h
  cases hn:nrm r with
  | nil =>
   rw[hn]at h
   by_cases hy:y=0
   ·rw[if_pos hy]at h;cases h
   ·rw[if_neg hy]at h;simp at h;simp[h]
  | cons z s =>
   rw[hn]at h
   rcases List.mem_cons.1 h with rfl|h
   ·simp
   ·exact List.mem_cons_of_mem _ (ih x (by rw[hn];exact h))
theorem Qe4 (l:List Nat):nrm (nrm l)=nrm l:=by
 induction l with
 | nil=>rfl
 | cons x r ih =>
  rw[nrm]
  cases hn:nrm r with
  | nil =>
   by_cases hx:x=0
   ·simp[hx,nrm]
   ·simp[hx,nrm]
  | cons y s =>
   rw[hn]at ih
   show nrm (x::y::s)=x::y::s
   rw[nrm,ih]
theorem Dig.of {b:Nat} {l:List Nat} (h:∀ x∈l,x<b):Dig b (Go.Proofs.YtljmapfihjkafaaGreatDoor.nrm l):=⟨fun x hx=>h x (Q2s x hx),Qe4 l⟩
theorem Dig.tail {b x:Nat} {l:List Nat} (h:Dig b (x::l)):Dig b l:=⟨fun y hy=>h.lt y (List.mem_cons_of_mem _ hy),Q59 h.nrm⟩
theorem Dig.nil (b:Nat):Dig b []:=⟨fun x h=>(by cases h),rfl⟩

theorem Q1z {b:Nat} (hb:0<b):∀ {l:List Nat},Go.Proofs.YtljmapfihjkafaaGreatDoor.nrm l=l→l≠[]→0<val b l
 | [],_,h=>absurd rfl h
 | x::l,h,_=>by
  rw[val]
  by_cases hl:l=[]
  ·subst hl
   have hx:x≠0:=fun e=>by subst e;simp[Go.Proofs.YtljmapfihjkafaaGreatDoor.nrm]at h
   omega
  ·have:=Nat.mul_pos hb (Q1z hb (Q59 h) hl)
   omega

theorem Dig.inj {b:Nat}:∀ {l r:List Nat},Dig b l→Dig b r→val b l=val b r→l=r
 | [],[],_,_,_=>rfl
 | [],y::r,_,hr,h=>by
  have hb:0<b:=Nat.lt_of_le_of_lt (Nat.zero_le _) (hr.lt y spq)
  have:=Q1z hb hr.nrm spq
  rw[← h]at this
  exact absurd this (Nat.lt_irrefl 0)
 | x::l,[],hl,_,h=>by
  have hb:0<b:=Nat.lt_of_le_of_lt (Nat.zero_le _) (hl.lt x spq)
  have:=Q1z hb hl.nrm spq
  rw[h]at this
  exact absurd this (Nat.lt_irrefl 0)
 | x::l,y::r,hl,hr,h=>by
  have hx:=hl.lt x spq
  have hy:=hr.lt y spq
  rw[val,val]at h
  have h1:x=y:=by
   have:=congrArg (· % b) h
   simpa [Nat.add_mul_mod_self_left,Nat.mod_eq_of_lt hx,Nat.mod_eq_of_lt hy] using this
  have h2:val b l=val b r:=by
   have:=congrArg (· / b) h
   have hb:0<b:=by omega
   simpa [Nat.add_mul_div_left _ _ hb,Nat.div_eq_of_lt hx,Nat.div_eq_of_lt hy] using this
  rw[h1,Dig.inj hl.tail hr.tail h2]

theorem Xv {b:Nat}:∀ {l:List Nat},(∀ x∈l,x<b)→val b l<b ^ l.length
 | [],_=>by simp[val]
 | x::l,h=>by
  have h1:=h x spq
  have h2:=Xv (l:=l) fun y hy=>h y (List.mem_cons_of_mem _ hy)
  rw[val,List.length_cons,Nat.pow_succ,Nat.mul_comm (b ^ l.length) b]
  have h3:b*(val b l+1)≤b*b ^ l.length:=Nat.mul_le_mul_left _ h2
  rw[Nat.mul_add]at h3
  omega
theorem Q96 {b:Nat} (hb:0<b) {l:List Nat} (h:Go.Proofs.YtljmapfihjkafaaGreatDoor.nrm l=l) (hl:l≠[]):b ^ (l.length-1)≤val b l:=by
 induction l with
 | nil=>exact absurd rfl hl
 | cons x l ih =>
  by_cases h0:l=[]
  ·subst h0
   have:=Q1z hb h spq
   show b ^ 0≤_
   rw[Nat.pow_zero];exact this
  ·have h1:=ih (Q59 h) h0
   have hp:0<l.length:=List.length_pos_iff.2 h0
   rw[val,List.length_cons,Nat.add_sub_cancel]
   have h2:b ^ l.length=b*b ^ (l.length-1):=by
    conv=>lhs;rw[show l.length=l.length-1+1 by omega,Nat.pow_succ,Nat.mul_comm]
   rw[h2]
   have:=Nat.mul_le_mul_left b h1
   omega


abbrev W32:Nat:=4294967296

theorem QD {b:Nat} (l:List Nat) (i:Nat):val b (l.take (i+1))=val b (l.take i)+b ^ i*l.getD i 0:=by
 rw[List.take_add_one]
 by_cases h:i<l.length
 ·rw[YH (d:=0) h,Yw]
  simp only[Option.toList_some,val,Nat.mul_zero,Nat.add_zero,List.length_take,Nat.min_eq_left (Nat.le_of_lt h)]
 ·rw[List.getElem?_eq_none oq]
  simp[List.getD,List.getElem?_eq_none (show l.length≤i by omega)]
theorem YQ {l:List Nat} {i u:Nat}:(l.set i u).take i=l.take i:=by
 rw[List.take_set_of_le (Nat.le_refl _)]
theorem QE {l:List Nat} {i u:Nat} (h:i<l.length):(l.set i u).getD i 0=u:=by
 simp[List.getD,h]
theorem Qy {b:Nat} (hb:0<b) {l:List Nat} (h:∀ x∈l,x<b) (i:Nat):l.getD i 0<b:=by
 by_cases hi:i<l.length
 ·exact h _ (Y3 hi)
 ·simp only[List.getD,List.getElem?_eq_none (show l.length≤i by omega),Option.getD_none];exact hb

end Go.Proofs.YtljmapfihjkafaaGreatDoor

