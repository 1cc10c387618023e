import Derived.Test.YtbofgpenopcfaaaGreatDoorMa
import Derived.Test.YtbofgpenopcfaaaGreatDoorProg
import Derived.KernelRfl
import Derived.Test.YtbofgpenopcfaaaGreatDoorMb
import Derived.Laws.Bits64b
import Derived.Laws.Cover3
import Derived.Laws.Strings
import Derived.Laws.Strings2
import Derived.Laws.Strings3
import Derived.Laws.Concat
import Derived.Laws.Slices
import Derived.Laws.IdiomStrings
set_option maxHeartbeats 16000000
namespace Go.Proofs.YtbofgpenopcfaaaGreatDoor
open Go
set_option linter.unusedSimpArgs false
set_option linter.unusedVariables false

instance:T1 Tryz.prog 1:=T1.mk' Tryz.underlying1 rfl (by kernel_rfl)
instance:T1 Tryz.prog 3:=T1.mk' Tryz.underlying3 rfl (by kernel_rfl)
instance:TZ0 Tryz.prog 3 (#[.int .i64 0]):=TZ0.mk' (z:=.int .i64 0) (by kernel_rfl)
instance:TE Tryz.prog 3 1 8 (#[.int .i64 0]):=TE.mk' (z:=.int .i64 0) (by kernel_rfl)
instance:dS Tryz.prog 3 1:=dS.mk' (by kernel_rfl)
instance:T1 Tryz.prog 4:=T1.mk' Tryz.underlying4 rfl (by kernel_rfl)
instance:TB Tryz.prog 4:=⟨Tryz.underlying4⟩
instance:T1 Tryz.prog 5:=T1.mk' Tryz.underlying5 rfl (by kernel_rfl)
instance:TE Tryz.prog 5 1 1 (#[.int .u8 0]):=TE.mk' (z:=.int .u8 0) (by kernel_rfl)
instance:dS Tryz.prog 5 1:=dS.mk' (by kernel_rfl)
instance:T1 Tryz.prog 9:=T1.mk' Tryz.underlying9 rfl (by kernel_rfl)
instance:TE Tryz.prog 9 1 16 (#[.string ⟨#[]⟩]):=TE.mk' (z:=.string ⟨#[]⟩) (by kernel_rfl)
instance:dS Tryz.prog 9 1:=dS.mk' (by kernel_rfl)
instance:T1 Tryz.prog 22:=T1.mk' Tryz.underlying22 rfl (by kernel_rfl)
instance:TE Tryz.prog 22 1 24 (#[.slice none 0 0]):=TE.mk' (z:=.slice none 0 0) (by kernel_rfl)
instance:dS Tryz.prog 22 1:=dS.mk' (by kernel_rfl)
instance:dh Tryz.prog 22 3:=⟨Tryz.underlying22⟩
instance:TN Tryz.prog 24 3:=TN.mk' Tryz.underlying24 rfl (by kernel_rfl)
instance:FA Tryz.prog 24 0 0:=FA.mk' (f:=0) Tryz.underlying24 rfl (by kernel_rfl)
instance:FA Tryz.prog 24 1 1:=FA.mk' (f:=1) Tryz.underlying24 rfl (by kernel_rfl)
instance:FA Tryz.prog 24 2 2:=FA.mk' (f:=2) Tryz.underlying24 rfl (by kernel_rfl)
instance:T1 Tryz.prog 26:=T1.mk' Tryz.underlying26 rfl (by kernel_rfl)
instance:TZ0 Tryz.prog 26 (#[.slice none 0 0]):=TZ0.mk' (z:=.slice none 0 0) (by kernel_rfl)
instance:TE Tryz.prog 26 1 24 (#[.slice none 0 0]):=TE.mk' (z:=.slice none 0 0) (by kernel_rfl)
instance:dS Tryz.prog 26 1:=dS.mk' (by kernel_rfl)
instance:dh Tryz.prog 26 75:=⟨Tryz.underlying26⟩
instance:TN Tryz.prog 28 3:=TN.mk' Tryz.underlying28 rfl (by kernel_rfl)
instance:TSt Tryz.prog 28 (#[.int .i64 0,.int .i64 0,.slice none 0 0]) #[(0,1),(1,1),(2,1)]:=TSt.mk' (z:=.agg #[.int .i64 0,.int .i64 0,.slice none 0 0]) Tryz.underlying28 (by kernel_rfl) (by kernel_rfl)
instance:TZ0 Tryz.prog 28 (#[.int .i64 0,.int .i64 0,.slice none 0 0]):=TZ0.mk' (z:=.agg #[.int .i64 0,.int .i64 0,.slice none 0 0]) (by kernel_rfl)
instance:TE Tryz.prog 28 3 40 (#[.int .i64 0,.int .i64 0,.slice none 0 0]):=TE.mk' (z:=.agg #[.int .i64 0,.int .i64 0,.slice none 0 0]) (by kernel_rfl)
instance:dS Tryz.prog 28 3:=dS.mk' (by kernel_rfl)
instance:FA Tryz.prog 28 0 0:=FA.mk' (f:=0) Tryz.underlying28 rfl (by kernel_rfl)
instance:FA Tryz.prog 28 1 1:=FA.mk' (f:=1) Tryz.underlying28 rfl (by kernel_rfl)
instance:FA Tryz.prog 28 2 2:=FA.mk' (f:=2) Tryz.underlying28 rfl (by kernel_rfl)
instance:T1 Tryz.prog 30:=T1.mk' Tryz.underlying30 rfl (by kernel_rfl)
instance:TN Tryz.prog 40 15:=TN.mk' Tryz.underlying40 rfl (by kernel_rfl)
instance:TSt Tryz.prog 40 (#[.int .i64 0,.int .i64 0,.slice none 0 0,.int .i64 0,.int .i64 0,.slice none 0 0,.int .i64 0,.int .i64 0,.slice none 0 0,.int .i64 0,.int .i64 0,.slice none 0 0,.int .i64 0,.int .i64 0,.slice none 0 0]) #[(0,3),(3,3),(6,3),(9,3),(12,3)]:=TSt.mk' (z:=.agg #[.int .i64 0,.int .i64 0,.slice none 0 0,.int .i64 0,.int .i64 0,.slice none 0 0,.int .i64 0,.int .i64 0,.slice none 0 0,.int .i64 0,.int .i64 0,.slice none 0 0,.int .i64 0,.int .i64 0,.slice none 0 0]) Tryz.underlying40 (by kernel_rfl) (by kernel_rfl)
instance:TZ0 Tryz.prog 40 (#[.int .i64 0,.int .i64 0,.slice none 0 0,.int .i64 0,.int .i64 0,.slice none 0 0,.int .i64 0,.int .i64 0,.slice none 0 0,.int .i64 0,.int .i64 0,.slice none 0 0,.int .i64 0,.int .i64 0,.slice none 0 0]):=TZ0.mk' (z:=.agg #[.int .i64 0,.int .i64 0,.slice none 0 0,.int .i64 0,.int .i64 0,.slice none 0 0,.int .i64 0,.int .i64 0,.slice none 0 0,.int .i64 0,.int .i64 0,.slice none 0 0,.int .i64 0,.int .i64 0,.slice none 0 0]) (by kernel_rfl)
instance:FA Tryz.prog 40 0 0:=FA.mk' (f:=0) Tryz.underlying40 rfl (by kernel_rfl)
instance:FA Tryz.prog 40 1 3:=FA.mk' (f:=1) Tryz.underlying40 rfl (by kernel_rfl)
instance:FA Tryz.prog 40 2 6:=FA.mk' (f:=2) Tryz.underlying40 rfl (by kernel_rfl)
instance:FA Tryz.prog 40 3 9:=FA.mk' (f:=3) Tryz.underlying40 rfl (by kernel_rfl)
instance:FA Tryz.prog 40 4 12:=FA.mk' (f:=4) Tryz.underlying40 rfl (by kernel_rfl)
instance:T1 Tryz.prog 51:=T1.mk' Tryz.underlying51 rfl (by kernel_rfl)
instance:TZ0 Tryz.prog 51 (#[.slice none 0 0]):=TZ0.mk' (z:=.slice none 0 0) (by kernel_rfl)
instance:dh Tryz.prog 51 5:=⟨Tryz.underlying51⟩
instance:T1 Tryz.prog 63:=T1.mk' Tryz.underlying63 rfl (by kernel_rfl)
instance:dS Tryz.prog 63 1:=dS.mk' (by kernel_rfl)
instance:TAr Tryz.prog 64 4 63:=⟨Tryz.underlying64⟩
instance:dh Tryz.prog 65 9:=⟨Tryz.underlying65⟩
instance:TAr Tryz.prog 69 4 5:=⟨Tryz.underlying69⟩
instance:T1 Tryz.prog 70:=T1.mk' Tryz.underlying70 rfl (by kernel_rfl)
instance:TE Tryz.prog 70 1 8 (#[.pointer none]):=TE.mk' (z:=.pointer none) (by kernel_rfl)
instance:dS Tryz.prog 70 1:=dS.mk' (by kernel_rfl)
instance:TSt Tryz.prog 72 (#[.int .i64 0,.int .i64 0,.slice none 0 0,.int .i64 0,.int .i64 0,.slice none 0 0,.int .i64 0,.int .i64 0,.slice none 0 0,.int .i64 0,.int .i64 0,.slice none 0 0,.int .i64 0,.int .i64 0,.slice none 0 0,.int .i64 0,.int .i64 0]) #[(0,3),(3,3),(6,3),(9,3),(12,3),(15,1),(16,1)]:=TSt.mk' (z:=.agg #[.int .i64 0,.int .i64 0,.slice none 0 0,.int .i64 0,.int .i64 0,.slice none 0 0,.int .i64 0,.int .i64 0,.slice none 0 0,.int .i64 0,.int .i64 0,.slice none 0 0,.int .i64 0,.int .i64 0,.slice none 0 0,.int .i64 0,.int .i64 0]) Tryz.underlying72 (by kernel_rfl) (by kernel_rfl)
instance:FA Tryz.prog 72 0 0:=FA.mk' (f:=0) Tryz.underlying72 rfl (by kernel_rfl)
instance:FA Tryz.prog 72 1 3:=FA.mk' (f:=1) Tryz.underlying72 rfl (by kernel_rfl)
instance:FA Tryz.prog 72 2 6:=FA.mk' (f:=2) Tryz.underlying72 rfl (by kernel_rfl)
instance:FA Tryz.prog 72 3 9:=FA.mk' (f:=3) Tryz.underlying72 rfl (by kernel_rfl)
instance:FA Tryz.prog 72 4 12:=FA.mk' (f:=4) Tryz.underlying72 rfl (by kernel_rfl)
instance:FA Tryz.prog 72 5 15:=FA.mk' (f:=5) Tryz.underlying72 rfl (by kernel_rfl)
instance:FA Tryz.prog 72 6 16:=FA.mk' (f:=6) Tryz.underlying72 rfl (by kernel_rfl)
instance:dh Tryz.prog 73 70:=⟨Tryz.underlying73⟩
instance:TN Tryz.prog 75 2:=TN.mk' Tryz.underlying75 rfl (by kernel_rfl)
instance:TSt Tryz.prog 75 (#[.bool false,.string ⟨#[]⟩]) #[(0,1),(1,1)]:=TSt.mk' (z:=.agg #[.bool false,.string ⟨#[]⟩]) Tryz.underlying75 (by kernel_rfl) (by kernel_rfl)
instance:TZ0 Tryz.prog 75 (#[.bool false,.string ⟨#[]⟩]):=TZ0.mk' (z:=.agg #[.bool false,.string ⟨#[]⟩]) (by kernel_rfl)
instance:TE Tryz.prog 75 2 24 (#[.bool false,.string ⟨#[]⟩]):=TE.mk' (z:=.agg #[.bool false,.string ⟨#[]⟩]) (by kernel_rfl)
instance:dS Tryz.prog 75 2:=dS.mk' (by kernel_rfl)
instance:FA Tryz.prog 75 0 0:=FA.mk' (f:=0) Tryz.underlying75 rfl (by kernel_rfl)
instance:FA Tryz.prog 75 1 1:=FA.mk' (f:=1) Tryz.underlying75 rfl (by kernel_rfl)
instance:T1 Tryz.prog 82:=T1.mk' Tryz.underlying82 rfl (by kernel_rfl)
instance:TE Tryz.prog 82 1 24 (#[.slice none 0 0]):=TE.mk' (z:=.slice none 0 0) (by kernel_rfl)
instance:dS Tryz.prog 82 1:=dS.mk' (by kernel_rfl)
instance:dh Tryz.prog 82 26:=⟨Tryz.underlying82⟩
instance:TSt Tryz.prog 84 (#[.int .i64 0,.int .i64 0,.slice none 0 0,.slice none 0 0,.slice none 0 0,.slice none 0 0,.slice none 0 0,.int .i64 0,.int .i64 0]) #[(0,1),(1,1),(2,1),(3,1),(4,1),(5,1),(6,1),(7,1),(8,1)]:=TSt.mk' (z:=.agg #[.int .i64 0,.int .i64 0,.slice none 0 0,.slice none 0 0,.slice none 0 0,.slice none 0 0,.slice none 0 0,.int .i64 0,.int .i64 0]) Tryz.underlying84 (by kernel_rfl) (by kernel_rfl)
instance:FA Tryz.prog 84 0 0:=FA.mk' (f:=0) Tryz.underlying84 rfl (by kernel_rfl)
instance:FA Tryz.prog 84 1 1:=FA.mk' (f:=1) Tryz.underlying84 rfl (by kernel_rfl)
instance:FA Tryz.prog 84 2 2:=FA.mk' (f:=2) Tryz.underlying84 rfl (by kernel_rfl)
instance:FA Tryz.prog 84 3 3:=FA.mk' (f:=3) Tryz.underlying84 rfl (by kernel_rfl)
instance:FA Tryz.prog 84 4 4:=FA.mk' (f:=4) Tryz.underlying84 rfl (by kernel_rfl)
instance:FA Tryz.prog 84 5 5:=FA.mk' (f:=5) Tryz.underlying84 rfl (by kernel_rfl)
instance:FA Tryz.prog 84 6 6:=FA.mk' (f:=6) Tryz.underlying84 rfl (by kernel_rfl)
instance:FA Tryz.prog 84 7 7:=FA.mk' (f:=7) Tryz.underlying84 rfl (by kernel_rfl)
instance:FA Tryz.prog 84 8 8:=FA.mk' (f:=8) Tryz.underlying84 rfl (by kernel_rfl)
instance:dh Tryz.prog 88 22:=⟨Tryz.underlying88⟩
instance:TN Tryz.prog 97 1:=TN.mk' Tryz.underlying97 rfl (by kernel_rfl)
instance:TSt Tryz.prog 97 (#[.nilFunc]) #[(0,1)]:=TSt.mk' (z:=.agg #[.nilFunc]) Tryz.underlying97 (by kernel_rfl) (by kernel_rfl)
instance:TZ0 Tryz.prog 97 (#[.nilFunc]):=TZ0.mk' (z:=.agg #[.nilFunc]) (by kernel_rfl)
instance:FA Tryz.prog 97 0 0:=FA.mk' (f:=0) Tryz.underlying97 rfl (by kernel_rfl)
instance:TZ0 Tryz.prog 114 (#[.int .i64 0,.int .i64 0,.int .i64 0,.int .i64 0]):=TZ0.mk' (z:=.agg #[.int .i64 0,.int .i64 0,.int .i64 0,.int .i64 0]) (by kernel_rfl)
instance:TAr Tryz.prog 114 4 3:=⟨Tryz.underlying114⟩
instance:dh Tryz.prog 118 28:=⟨Tryz.underlying118⟩
instance:T1 Tryz.prog 126:=T1.mk' Tryz.underlying126 rfl (by kernel_rfl)
instance:TE Tryz.prog 126 1 8 (#[.int .u64 0]):=TE.mk' (z:=.int .u64 0) (by kernel_rfl)
instance:dS Tryz.prog 126 1:=dS.mk' (by kernel_rfl)
instance:dh Tryz.prog 147 126:=⟨Tryz.underlying147⟩
instance:dh Tryz.prog 184 82:=⟨Tryz.underlying184⟩
instance:TF Tryz.prog 13:=TF.mk' Tryz.func13 (by kernel_rfl) rfl
instance:TF Tryz.prog 14:=TF.mk' Tryz.func14 (by kernel_rfl) rfl
instance:TF Tryz.prog 15:=TF.mk' Tryz.func15 (by kernel_rfl) rfl
instance:TF Tryz.prog 17:=TF.mk' Tryz.func17 (by kernel_rfl) rfl
instance:TF Tryz.prog 18:=TF.mk' Tryz.func18 (by kernel_rfl) rfl
instance:TF Tryz.prog 19:=TF.mk' Tryz.func19 (by kernel_rfl) rfl
instance:TF Tryz.prog 21:=TF.mk' Tryz.func21 (by kernel_rfl) rfl
instance:TF Tryz.prog 23:=TF.mk' Tryz.func23 (by kernel_rfl) rfl
instance:TF Tryz.prog 25:=TF.mk' Tryz.func25 (by kernel_rfl) rfl
instance:TF Tryz.prog 26:=TF.mk' Tryz.func26 (by kernel_rfl) rfl
instance:TF Tryz.prog 27:=TF.mk' Tryz.func27 (by kernel_rfl) rfl
instance:TF Tryz.prog 28:=TF.mk' Tryz.func28 (by kernel_rfl) rfl
instance:TF Tryz.prog 29:=TF.mk' Tryz.func29 (by kernel_rfl) rfl
instance:TF Tryz.prog 30:=TF.mk' Tryz.func30 (by kernel_rfl) rfl
instance:TF Tryz.prog 31:=TF.mk' Tryz.func31 (by kernel_rfl) rfl
instance:TF Tryz.prog 32:=TF.mk' Tryz.func32 (by kernel_rfl) rfl
instance:TF Tryz.prog 33:=TF.mk' Tryz.func33 (by kernel_rfl) rfl
instance:TF Tryz.prog 34:=TF.mk' Tryz.func34 (by kernel_rfl) rfl
instance:TF Tryz.prog 35:=TF.mk' Tryz.func35 (by kernel_rfl) rfl
instance:TF Tryz.prog 36:=TF.mk' Tryz.func36 (by kernel_rfl) rfl
instance:TF Tryz.prog 39:=TF.mk' Tryz.func39 (by kernel_rfl) rfl
instance:TF Tryz.prog 40:=TF.mk' Tryz.func40 (by kernel_rfl) rfl
instance:TF Tryz.prog 41:=TF.mk' Tryz.func41 (by kernel_rfl) rfl
instance:TF Tryz.prog 42:=TF.mk' Tryz.func42 (by kernel_rfl) rfl
instance:TF Tryz.prog 43:=TF.mk' Tryz.func43 (by kernel_rfl) rfl
instance:TF Tryz.prog 44:=TF.mk' Tryz.func44 (by kernel_rfl) rfl
instance:TF Tryz.prog 45:=TF.mk' Tryz.func45 (by kernel_rfl) rfl
instance:TF Tryz.prog 46:=TF.mk' Tryz.func46 (by kernel_rfl) rfl
instance:TF Tryz.prog 49:=TF.mk' Tryz.func49 (by kernel_rfl) rfl
instance:TF Tryz.prog 50:=TF.mk' Tryz.func50 (by kernel_rfl) rfl
instance:TF Tryz.prog 51:=TF.mk' Tryz.func51 (by kernel_rfl) rfl
instance:TF Tryz.prog 52:=TF.mk' Tryz.func52 (by kernel_rfl) rfl
instance:TF Tryz.prog 54:=TF.mk' Tryz.func54 (by kernel_rfl) rfl
instance:TF Tryz.prog 56:=TF.mk' Tryz.func56 (by kernel_rfl) rfl
instance:TF Tryz.prog 57:=TF.mk' Tryz.func57 (by kernel_rfl) rfl
instance:TF Tryz.prog 58:=TF.mk' Tryz.func58 (by kernel_rfl) rfl
instance:TF Tryz.prog 59:=TF.mk' Tryz.func59 (by kernel_rfl) rfl
instance:TF Tryz.prog 60:=TF.mk' Tryz.func60 (by kernel_rfl) rfl
instance:TF Tryz.prog 61:=TF.mk' Tryz.func61 (by kernel_rfl) rfl
instance:TF Tryz.prog 62:=TF.mk' Tryz.func62 (by kernel_rfl) rfl
instance:TF Tryz.prog 63:=TF.mk' Tryz.func63 (by kernel_rfl) rfl
instance:TF Tryz.prog 64:=TF.mk' Tryz.func64 (by kernel_rfl) rfl
instance:TF Tryz.prog 65:=TF.mk' Tryz.func65 (by kernel_rfl) rfl
instance:TF Tryz.prog 66:=TF.mk' Tryz.func66 (by kernel_rfl) rfl
instance:TF Tryz.prog 67:=TF.mk' Tryz.func67 (by kernel_rfl) rfl
instance:TF Tryz.prog 68:=TF.mk' Tryz.func68 (by kernel_rfl) rfl
instance:TF Tryz.prog 69:=TF.mk' Tryz.func69 (by kernel_rfl) rfl
instance:TF Tryz.prog 70:=TF.mk' Tryz.func70 (by kernel_rfl) rfl
instance:TF Tryz.prog 71:=TF.mk' Tryz.func71 (by kernel_rfl) rfl
instance:TF Tryz.prog 72:=TF.mk' Tryz.func72 (by kernel_rfl) rfl
instance:TF Tryz.prog 73:=TF.mk' Tryz.func73 (by kernel_rfl) rfl
instance:TF Tryz.prog 74:=TF.mk' Tryz.func74 (by kernel_rfl) rfl
instance:TF Tryz.prog 75:=TF.mk' Tryz.func75 (by kernel_rfl) rfl
instance:TF Tryz.prog 76:=TF.mk' Tryz.func76 (by kernel_rfl) rfl
instance:TF Tryz.prog 77:=TF.mk' Tryz.func77 (by kernel_rfl) rfl
instance:TF Tryz.prog 78:=TF.mk' Tryz.func78 (by kernel_rfl) rfl
instance:TF Tryz.prog 79:=TF.mk' Tryz.func79 (by kernel_rfl) rfl
instance:TF Tryz.prog 80:=TF.mk' Tryz.func80 (by kernel_rfl) rfl
instance:TF Tryz.prog 81:=TF.mk' Tryz.func81 (by kernel_rfl) rfl
instance:TF Tryz.prog 82:=TF.mk' Tryz.func82 (by kernel_rfl) rfl
instance:TF Tryz.prog 83:=TF.mk' Tryz.func83 (by kernel_rfl) rfl
instance:TF Tryz.prog 84:=TF.mk' Tryz.func84 (by kernel_rfl) rfl
instance:TF Tryz.prog 85:=TF.mk' Tryz.func85 (by kernel_rfl) rfl
instance:TF Tryz.prog 86:=TF.mk' Tryz.func86 (by kernel_rfl) rfl
instance:TF Tryz.prog 87:=TF.mk' Tryz.func87 (by kernel_rfl) rfl
instance:TF Tryz.prog 88:=TF.mk' Tryz.func88 (by kernel_rfl) rfl
instance:TF Tryz.prog 89:=TF.mk' Tryz.func89 (by kernel_rfl) rfl
instance:TF Tryz.prog 90:=TF.mk' Tryz.func90 (by kernel_rfl) rfl
instance:TF Tryz.prog 91:=TF.mk' Tryz.func91 (by kernel_rfl) rfl
instance:TF Tryz.prog 92:=TF.mk' Tryz.func92 (by kernel_rfl) rfl
instance:TF Tryz.prog 93:=TF.mk' Tryz.func93 (by kernel_rfl) rfl
instance:TF Tryz.prog 94:=TF.mk' Tryz.func94 (by kernel_rfl) rfl
instance:TF Tryz.prog 95:=TF.mk' Tryz.func95 (by kernel_rfl) rfl
instance:TF Tryz.prog 96:=TF.mk' Tryz.func96 (by kernel_rfl) rfl
instance:TF Tryz.prog 97:=TF.mk' Tryz.func97 (by kernel_rfl) rfl
instance:TF Tryz.prog 105:=TF.mk' Tryz.func105 (by kernel_rfl) rfl
instance:TF Tryz.prog 106:=TF.mk' Tryz.func106 (by kernel_rfl) rfl
instance:TF Tryz.prog 107:=TF.mk' Tryz.func107 (by kernel_rfl) rfl
instance:TF Tryz.prog 108:=TF.mk' Tryz.func108 (by kernel_rfl) rfl
instance:TF Tryz.prog 109:=TF.mk' Tryz.func109 (by kernel_rfl) rfl
instance:TF Tryz.prog 110:=TF.mk' Tryz.func110 (by kernel_rfl) rfl
instance:TF Tryz.prog 111:=TF.mk' Tryz.func111 (by kernel_rfl) rfl
instance:TF Tryz.prog 112:=TF.mk' Tryz.func112 (by kernel_rfl) rfl
instance:TF Tryz.prog 113:=TF.mk' Tryz.func113 (by kernel_rfl) rfl
instance:TF Tryz.prog 114:=TF.mk' Tryz.func114 (by kernel_rfl) rfl
instance:TF Tryz.prog 115:=TF.mk' Tryz.func115 (by kernel_rfl) rfl
instance:TF Tryz.prog 116:=TF.mk' Tryz.func116 (by kernel_rfl) rfl
instance:TF Tryz.prog 117:=TF.mk' Tryz.func117 (by kernel_rfl) rfl
instance:TF Tryz.prog 118:=TF.mk' Tryz.func118 (by kernel_rfl) rfl
instance:TF Tryz.prog 119:=TF.mk' Tryz.func119 (by kernel_rfl) rfl
instance:TF Tryz.prog 120:=TF.mk' Tryz.func120 (by kernel_rfl) rfl
instance:TF Tryz.prog 122:=TF.mk' Tryz.func122 (by kernel_rfl) rfl
instance:TF Tryz.prog 123:=TF.mk' Tryz.func123 (by kernel_rfl) rfl
instance:TF Tryz.prog 124:=TF.mk' Tryz.func124 (by kernel_rfl) rfl
instance:TF Tryz.prog 125:=TF.mk' Tryz.func125 (by kernel_rfl) rfl
instance:TF Tryz.prog 126:=TF.mk' Tryz.func126 (by kernel_rfl) rfl
instance:TF Tryz.prog 127:=TF.mk' Tryz.func127 (by kernel_rfl) rfl
instance:TF Tryz.prog 128:=TF.mk' Tryz.func128 (by kernel_rfl) rfl
instance:TF Tryz.prog 129:=TF.mk' Tryz.func129 (by kernel_rfl) rfl
instance:TF Tryz.prog 130:=TF.mk' Tryz.func130 (by kernel_rfl) rfl
instance:TF Tryz.prog 131:=TF.mk' Tryz.func131 (by kernel_rfl) rfl
instance:TF Tryz.prog 132:=TF.mk' Tryz.func132 (by kernel_rfl) rfl
instance:TF Tryz.prog 133:=TF.mk' Tryz.func133 (by kernel_rfl) rfl
instance:TF Tryz.prog 134:=TF.mk' Tryz.func134 (by kernel_rfl) rfl
instance:TF Tryz.prog 135:=TF.mk' Tryz.func135 (by kernel_rfl) rfl
instance:TF Tryz.prog 137:=TF.mk' Tryz.func137 (by kernel_rfl) rfl
instance:TF Tryz.prog 138:=TF.mk' Tryz.func138 (by kernel_rfl) rfl
instance:TF Tryz.prog 140:=TF.mk' Tryz.func140 (by kernel_rfl) rfl
instance:TF Tryz.prog 144:=TF.mk' Tryz.func144 (by kernel_rfl) rfl
instance:TF Tryz.prog 145:=TF.mk' Tryz.func145 (by kernel_rfl) rfl
instance:TF Tryz.prog 146:=TF.mk' Tryz.func146 (by kernel_rfl) rfl
instance:TF Tryz.prog 147:=TF.mk' Tryz.func147 (by kernel_rfl) rfl
instance:TF Tryz.prog 148:=TF.mk' Tryz.func148 (by kernel_rfl) rfl
instance:TF Tryz.prog 149:=TF.mk' Tryz.func149 (by kernel_rfl) rfl
instance:TF Tryz.prog 150:=TF.mk' Tryz.func150 (by kernel_rfl) rfl
instance:TF Tryz.prog 151:=TF.mk' Tryz.func151 (by kernel_rfl) rfl
instance:TF Tryz.prog 157:=TF.mk' Tryz.func157 (by kernel_rfl) rfl
instance:TF Tryz.prog 158:=TF.mk' Tryz.func158 (by kernel_rfl) rfl
instance:TF Tryz.prog 159:=TF.mk' Tryz.func159 (by kernel_rfl) rfl
instance:TF Tryz.prog 160:=TF.mk' Tryz.func160 (by kernel_rfl) rfl
instance:TF Tryz.prog 161:=TF.mk' Tryz.func161 (by kernel_rfl) rfl
instance:TF Tryz.prog 162:=TF.mk' Tryz.func162 (by kernel_rfl) rfl
instance:TF Tryz.prog 163:=TF.mk' Tryz.func163 (by kernel_rfl) rfl
instance:TF Tryz.prog 164:=TF.mk' Tryz.func164 (by kernel_rfl) rfl
instance:TF Tryz.prog 168:=TF.mk' Tryz.func168 (by kernel_rfl) rfl
instance:TF Tryz.prog 172:=TF.mk' Tryz.func172 (by kernel_rfl) rfl
instance:TF Tryz.prog 175:=TF.mk' Tryz.func175 (by kernel_rfl) rfl
instance:TF Tryz.prog 176:=TF.mk' Tryz.func176 (by kernel_rfl) rfl
instance:TF Tryz.prog 177:=TF.mk' Tryz.func177 (by kernel_rfl) rfl
instance:TF Tryz.prog 178:=TF.mk' Tryz.func178 (by kernel_rfl) rfl
instance:TF Tryz.prog 179:=TF.mk' Tryz.func179 (by kernel_rfl) rfl
instance:TF Tryz.prog 181:=TF.mk' Tryz.func181 (by kernel_rfl) rfl
instance:TF Tryz.prog 185:=TF.mk' Tryz.func185 (by kernel_rfl) rfl
instance:TF Tryz.prog 190:=TF.mk' Tryz.func190 (by kernel_rfl) rfl
instance:TF Tryz.prog 197:=TF.mk' Tryz.func197 (by kernel_rfl) rfl
instance:TF Tryz.prog 200:=TF.mk' Tryz.func200 (by kernel_rfl) rfl

theorem mixed:Tryz.prog.follows .mixedOrders=true:=by kernel_rfl

set_option linter.unusedSimpArgs false
set_option linter.unusedVariables false
set_option linter.unusedSectionVars false

abbrev iv (x:Int):Value:=.int .i64 x
abbrev nv (x:Nat):Value:=.int .i64 (x:Int)

def tab {α:Type} (n:Nat) (g:Nat→α):List α:=(List.range n).map g

@[simp] theorem Qpb {α:Type} (n:Nat) (g:Nat→α):(tab n g).length=n:=by simp[tab]
theorem Q03 {α:Type} {n:Nat} {g:Nat→α} {i:Nat} (h:i<n):(tab n g)[i]?=some (g i):=by simp[tab,h]
theorem Q5s {α:Type} {n:Nat} {g:Nat→α} {i:Nat} {d:α} (h:i<n):(tab n g).getD i d=g i:=by simp[List.getD,Q03 h]
theorem YF {α:Type} {n:Nat} {g g':Nat→α} (h:∀ i,i<n→g i=g' i):tab n g=tab n g':=by
 apply List.map_congr_left
 intro i hi
 exact h i (List.mem_range.1 hi)
theorem Q8p {α:Type} {n:Nat} {xs:List α} {g:Nat→α} (hl:xs.length=n) (h:∀ i,i<n→xs[i]?=some (g i)):xs=tab n g:=by
 apply List.ext_getElem?
 intro i
 rcases Nat.lt_or_ge i n with hi|hi
 ·rw[h i hi,Q03 hi]
 ·rw[List.getElem?_eq_none oq,List.getElem?_eq_none (by simp;omega)]
theorem Qn6 {α:Type} {n:Nat} {xs:List α} {d:α} (hl:xs.length=n):tab n (fun i=>xs.getD i d)=xs:=by
 refine(Q8p hl fun i hi=>?_).symm
 rw[List.getElem?_eq_getElem oq];simp[List.getD,List.getElem?_eq_getElem (show i<xs.length by omega)]
theorem Qdb {α:Type} {n:Nat} {g:Nat→α} {i:Nat} {x:α}:(tab n g).set i x=tab n (fun j=>if j=i then x else g j):=by
 refine Q8p aA fun j hj=>?_
 rw[List.getElem?_set]
 by_cases h:i=j
 ·subst h;simp[hj]
 ·rw[if_neg h,Q03 hj,if_neg (fun e=>h e.symm)]
theorem Q2p {α:Type} {xs:List α} {i j:Nat} {x d:α} (hi:i<xs.length):(xs.set i x).getD j d=if j=i then x else xs.getD j d:=by
 simp only[List.getD,List.getElem?_set]
 by_cases h:i=j
 ·subst h;simp[hi]
 ·rw[if_neg h,if_neg (fun e=>h e.symm)]
theorem XB {α:Type} {xs:List α} {i:Nat} {d:α} (h:i<xs.length):xs[i]?=some (xs.getD i d):=by simp[List.getD,List.getElem?_eq_getElem h]
theorem Q6h {α:Type} {xs ys:List α} {d:α} (hl:xs.length=ys.length) (h:∀ i,i<xs.length→xs.getD i d=ys.getD i d):xs=ys:=by
 apply List.ext_getElem?
 intro i
 rcases Nat.lt_or_ge i xs.length with hi|hi
 ·rw[XB hi (d:=d),XB oq (d:=d),h i hi]
 ·rw[List.getElem?_eq_none oq,List.getElem?_eq_none oq]
theorem QV {α:Type} {xs:List α} {i:Nat} {d:α} (h:i<xs.length):xs.getD i d∈xs:=by
 have:=XB (d:=d) h
 exact List.mem_of_getElem? this

def WI (w:World) (v:Value) (n:Nat) (xs:List Int):Prop:=jc w 1 v n (xs.map iv)
def RdI (c:Cx) (N:aj) (v:Value) (n:Nat) (xs:List Int):Prop:=Rd c N 1 v n (xs.map iv)
def jd (N:aj) (v:Value) (n:Nat) (xs:List Int):Prop:=aH 3 1 N v n (xs.map iv)
def WN (w:World) (v:Value) (n:Nat) (xs:List Nat):Prop:=jc w 1 v n (xs.map nv)
def RdN (c:Cx) (N:aj) (v:Value) (n:Nat) (xs:List Nat):Prop:=Rd c N 1 v n (xs.map nv)
def bH (N:aj) (v:Value) (n:Nat) (xs:List Nat):Prop:=aH 3 1 N v n (xs.map nv)

theorem WI.len {w:World} {v:Value} {n:Nat} {xs:List Int} (h:WI w v n xs):xs.length=n:=by simpa using h.1
theorem RdI.len {c:Cx} {N:aj} {v:Value} {n:Nat} {xs:List Int} (h:RdI c N v n xs):xs.length=n:=by simpa using h.1
theorem jd.len {N:aj} {v:Value} {n:Nat} {xs:List Int} (h:jd N v n xs):xs.length=n:=by simpa using h.1
theorem WN.len {w:World} {v:Value} {n:Nat} {xs:List Nat} (h:WN w v n xs):xs.length=n:=by simpa using h.1
theorem RdN.len {c:Cx} {N:aj} {v:Value} {n:Nat} {xs:List Nat} (h:RdN c N v n xs):xs.length=n:=by simpa using h.1
theorem bH.len {N:aj} {v:Value} {n:Nat} {xs:List Nat} (h:bH N v n xs):xs.length=n:=by simpa using h.1

theorem WI.mono {w w':World} {v:Value} {n:Nat} {xs:List Int} (h:WI w v n xs) (hk:Kp [] w w'):WI w' v n xs:=jc.mono h hk
theorem WN.mono {w w':World} {v:Value} {n:Nat} {xs:List Nat} (h:WN w v n xs) (hk:Kp [] w w'):WN w' v n xs:=jc.mono h hk
theorem WI.rd {c:Cx} {v:Value} {n:Nat} {xs:List Int} (h:WI c.w0 v n xs) (hM:c.M=[]) (N:aj):RdI c N v n xs:=jc.rd h hM N
theorem WN.rd {c:Cx} {v:Value} {n:Nat} {xs:List Nat} (h:WN c.w0 v n xs) (hM:c.M=[]) (N:aj):RdN c N v n xs:=jc.rd h hM N
theorem RdI.at {c:Cx} {N H:aj} {w:World} {v:Value} {n:Nat} {xs:List Int} (h:RdI c N v n xs) (hk:Kp c.M c.w0 w) (hs:aG H w) (hN:HSub N H):WI w v n xs:=Rd.at h hk hs hN
theorem RdN.at {c:Cx} {N H:aj} {w:World} {v:Value} {n:Nat} {xs:List Nat} (h:RdN c N v n xs) (hk:Kp c.M c.w0 w) (hs:aG H w) (hN:HSub N H):WN w v n xs:=Rd.at h hk hs hN
theorem jd.rd {c:Cx} {N:aj} {v:Value} {n:Nat} {xs:List Int} (h:jd N v n xs):RdI c N v n xs:=aH.rd h
theorem bH.rd {c:Cx} {N:aj} {v:Value} {n:Nat} {xs:List Nat} (h:bH N v n xs):RdN c N v n xs:=aH.rd h
theorem jd.new {N:aj} {v:Value} {n:Nat} {xs:List Int} {w w':World} (h:jd N v n xs) (hn:New N w w'):WI w' v n xs:=New.rd (c:=⟨Tryz.prog,0,w,[],by simp⟩) h hn
theorem bH.new {N:aj} {v:Value} {n:Nat} {xs:List Nat} {w w':World} (h:bH N v n xs) (hn:New N w w'):WN w' v n xs:=New.rd (c:=⟨Tryz.prog,0,w,[],by simp⟩) h hn

def ints (xs:List Nat):List Int:=xs.map Int.ofNat
@[simp] theorem Qp4 (xs:List Nat):(ints xs).length=xs.length:=by simp[ints]
theorem bH.form {N:aj} {v:Value} {n:Nat} {xs:List Nat} (h:bH N v n xs):∃ A cap,v=.slice A n cap:=by
 obtain⟨_,⟨rfl,rfl,rfl⟩|⟨b,cap,cur,rfl,_⟩⟩:=h
 ·exact⟨_,_,rfl⟩
 ·exact⟨_,_,rfl⟩
theorem WN.form {w:World} {v:Value} {n:Nat} {xs:List Nat} (h:WN w v n xs):∃ A cap,v=.slice A n cap:=by
 obtain⟨_,A,cap,rfl,_⟩:=h
 exact⟨_,_,rfl⟩
theorem Qew (xs:List Nat):(ints xs).map iv=xs.map nv:=by simp[ints,Function.comp_def]
theorem WN.int {w:World} {v:Value} {n:Nat} {xs:List Nat} (h:WN w v n xs):WI w v n (ints xs):=by unfold WI;rw[Qew];exact h
theorem bH.int {N:aj} {v:Value} {n:Nat} {xs:List Nat} (h:bH N v n xs):jd N v n (ints xs):=by unfold jd;rw[Qew];exact h
theorem RdN.int {c:Cx} {N:aj} {v:Value} {n:Nat} {xs:List Nat} (h:RdN c N v n xs):RdI c N v n (ints xs):=by unfold RdI;rw[Qew];exact h

theorem bH.nil:bH [] (.slice none 0 0) 0 []:=aH.nil _ 1
theorem jd.nil:jd [] (.slice none 0 0) 0 []:=aH.nil _ 1

section
variable {c:Cx} {Q:Exit→Act→World→Prop} {m:Mode} {F:ak} {H:aj} {r:List bT} {g:Option (Option Tmp × Bool)} {ns:Bool} {d:Tmp} {ty t t':TypeId} {x y:Operand} {N:aj} {n:Nat} {v:Value}

theorem Q3p {e:TypeId} {xs:List Int} [dh c.P t e] (hd:Qw c.n (some d)=true:=by exact rfl) (hg:Qi F g=some true:=by exact rfl) (hx:ev F x=some v:=by exact rfl) (hv:RdI c N v n xs:=by(first|assumption|exact WI.rd (by assumption) rfl []|exact jd.rd (by assumption)))
  (h:JO c Q m r ((d,.int .i64 n)::F) H):JO c Q m (⟨some d,.call ⟨.builtin .len,#[x],#[t]⟩,ty,g,.bg,ns⟩::r) F H:=Xy hd hg hx hv h
theorem Z9 {e:TypeId} {xs:List Nat} [dh c.P t e] (hd:Qw c.n (some d)=true:=by exact rfl) (hg:Qi F g=some true:=by exact rfl) (hx:ev F x=some v:=by exact rfl) (hv:RdN c N v n xs:=by(first|assumption|exact WN.rd (by assumption) rfl []|exact bH.rd (by assumption)))
  (h:JO c Q m r ((d,.int .i64 n)::F) H):JO c Q m (⟨some d,.call ⟨.builtin .len,#[x],#[t]⟩,ty,g,.bg,ns⟩::r) F H:=Xy hd hg hx hv h
theorem Qe7 {e:TypeId} {xs:List Int} {j:Nat} {k:IntKind} [dh c.P t e] [dS c.P e 1] (hd:Qw c.n (some d)=true:=by exact rfl) (hg:Qi F g=some true:=by exact rfl) (hx:ev F x=some v:=by exact rfl) (hy:ev F y=some (.int k j):=by exact rfl) (hv:RdI c N v n xs:=by(first|assumption|exact WI.rd (by assumption) rfl []|exact jd.rd (by assumption))) (hj:j<n:=by(first|assumption|omega))
  (h:JO c Q m r ((d,.pointer (some (dK v j)))::F) H):JO c Q m (⟨some d,.indexAddr t x y,ty,g,.bg,ns⟩::r) F H:=X5 hd hg hx hy hv hj h
theorem ZT {e:TypeId} {xs:List Nat} {j:Nat} {k:IntKind} [dh c.P t e] [dS c.P e 1] (hd:Qw c.n (some d)=true:=by exact rfl) (hg:Qi F g=some true:=by exact rfl) (hx:ev F x=some v:=by exact rfl) (hy:ev F y=some (.int k j):=by exact rfl) (hv:RdN c N v n xs:=by(first|assumption|exact WN.rd (by assumption) rfl []|exact bH.rd (by assumption))) (hj:j<n:=by(first|assumption|omega))
  (h:JO c Q m r ((d,.pointer (some (dK v j)))::F) H):JO c Q m (⟨some d,.indexAddr t x y,ty,g,.bg,ns⟩::r) F H:=X5 hd hg hx hy hv hj h
theorem Qkz {xs:List Int} {i:Nat} [T1 c.P t] (hd:Qw c.n (some d)=true:=by exact rfl) (hg:Qi F g=some true:=by exact rfl) (hx:ev F x=some (.pointer (some (dK v i))):=by exact rfl) (hl:m.live=true:=by exact rfl) (hv:RdI c N v n xs:=by(first|assumption|exact WI.rd (by assumption) rfl []|exact jd.rd (by assumption))) (hN:HSub N (m.src H):=by exact Qb) (hi:i<n:=by(first|assumption|omega))
  (h:JO c Q m r ((d,iv (xs.getD i 0))::F) H):JO c Q m (⟨some d,.load t x,ty,g,.ld,ns⟩::r) F H :=
 Q1q hd hg hx hl hv hN (by rw[List.getElem?_map,XB (d:=0) (by have:=hv.len;omega)];rfl) h
theorem Xp {xs:List Nat} {i:Nat} [T1 c.P t] (hd:Qw c.n (some d)=true:=by exact rfl) (hg:Qi F g=some true:=by exact rfl) (hx:ev F x=some (.pointer (some (dK v i))):=by exact rfl) (hl:m.live=true:=by exact rfl) (hv:RdN c N v n xs:=by(first|assumption|exact WN.rd (by assumption) rfl []|exact bH.rd (by assumption))) (hN:HSub N (m.src H):=by exact Qb) (hi:i<n:=by(first|assumption|omega))
  (h:JO c Q m r ((d,nv (xs.getD i 0))::F) H):JO c Q m (⟨some d,.load t x,ty,g,.ld,ns⟩::r) F H :=
 Q1q hd hg hx hl hv hN (by rw[List.getElem?_map,XB (d:=0) (by have:=hv.len;omega)];rfl) h

theorem Qhi {A B:aj} {i u:Nat} {xs:List Nat} [T1 c.P t] (hO:bH N v n xs) (hH:H=A++(N++B)) (hg:Qi F g=some true) (hm:m.aO ns r) (hx:ev F x=some (.pointer (some (dK v i)))) (hy:ev F y=some (nv u))
  (hi:i<n) (h:∀ N',bH N' v n (xs.set i u)→JO c Q m.spent r F (A++(N'++B))):JO c Q m (⟨none,.store t x y,ty,g,.seq,ns⟩::r) F H :=
 Q1o hO hH hg hm hx hy rfl rfl oq (fun N' h'=>h N' (by unfold bH;rw[List.map_set];exact h'))

theorem Q7m (b n:Nat) (hn:n≤maxLen):bH [(b,.cells (Zb #[iv 0] (n*1)) 3)] (.slice (some ⟨b,0,none⟩) n n) n (tab n fun _=>0):=by
 have h:=aH.mk' (e:=3) (sz:=1) (n:=n) (b:=b) (cs:=Zb #[iv 0] (n*1)) (by rw[iH];simp) hn
 rw[iH]at h ⊢
 have e:(Array.replicate (n*1) (iv 0)).toList=(tab n fun _=>0).map nv:=by
  apply List.ext_getElem?
  intro i
  simp only[Array.toList_replicate,List.getElem?_map,List.getElem?_replicate,Nat.mul_one]
  by_cases hi:i<n
  ·rw[if_pos hi,Q03 hi];rfl
  ·rw[if_neg hi,List.getElem?_eq_none (by simp;omega)];rfl
 rw[e]at h
 exact h

theorem Qnw {i:Nat} (hd:Qw c.n (some d)=true) (hg:Qi F g=some true) (hx:ev F x=some (.int .i64 i)) (hy:ev F y=some (.int .i64 1)) (hb:i+1<9223372036854775808)
  (h:JO c Q m r ((d,.int .i64 ((i+1:Nat):Int))::F) H):JO c Q m (⟨some d,.binOp .add t x y t',ty,g,.bg,ns⟩::r) F H:=Z8 (j:=1) hd hg hx hy hb h
theorem Qd {i:Nat} (h:JO c Q m r ((d,.int .i64 ((i+1:Nat):Int))::F) H) (hd:Qw c.n (some d)=true:=by exact rfl) (hg:Qi F g=some true:=by exact rfl) (hx:ev F x=some (.int .i64 i):=by exact rfl) (hy:ev F y=some (.int .i64 1):=by exact rfl) (hb:i+1<9223372036854775808:=by omega):JO c Q m (⟨some d,.binOp .add t x y t',ty,g,.bg,ns⟩::r) F H:=Qnw (hd:=hd) (hg:=hg) (hx:=hx) (hy:=hy) (hb:=hb) (h:=h)

theorem ZG {A B N2:aj} {v2:Value} {k:Nat} {xs ys:List Nat} [dh c.P t 3] [TE c.P 3 1 8 #[iv 0]] (hO:bH N v n xs) (h2:RdN c N2 v2 k ys) (eH:HSub N2 H) (hH:H=A++(N++B)) (hm:m.aO ns r) (hd:Qw c.n (some d)=true) (hg:Qi F g=some true) (hx:ev F x=some v) (hy:ev F y=some v2)
  (hb:n+k≤17000000000000) (h:∀ v' N',bH N' v' (n+k) (xs++ys)→JO c Q m.spent r ((d,v')::F) (A++(N'++B))) :
  JO c Q m (⟨some d,.call ⟨.builtin .append,#[x,y],#[t,t]⟩,ty,g,.seq,ns⟩::r) F H :=
 X6 (e:=3) (sz:=1) (bytes:=8) (zc:=#[iv 0]) (xs:=xs.map nv) (news:=ys.map nv) (n:=n) (mm:=k) rfl hO h2 eH hH hm hd hg hx hy (fun u hu=>by obtain⟨a,_,rfl⟩:=List.mem_map.1 hu;rfl) (by simp only[maxLen];omega) oq (fun v' N' h'=>h v' N' (by unfold bH;rw[Vj];exact h'))

theorem QM {vs:Array Value} (hd:Qw c.n (some d)=true:=by exact rfl) (hg:Qi F g=some true:=by exact rfl) (hx:ev F x=some (.agg vs):=by exact rfl) (hl:m.live=true:=by exact rfl) (h:∀ b,JO c Q m r ((d,(.pointer (some ⟨b,0,none⟩)))::F) ((b,.cells vs t)::H)) :
  JO c Q m (⟨some d,.box t x,ty,g,.alloc,ns⟩::r) F H:=Ql4 hd hg hx hl rfl h

theorem Qc7 {A:Addr} (hd:Qw c.n (some d)=true) (hg:Qi F g=some true) (hx:ev F x=some (.pointer (some A))) (h:JO c Q m r ((d,.pointer (some A))::F) H):JO c Q m (⟨some d,.nilCheck x,ty,g,.bg,ns⟩::r) F H :=
 ZE hd hg (fun a w fr=>by simp only[execOp,fr.ev hx,Sem.run_pure]) h
theorem Q3 {A:Addr} (h:JO c Q m r ((d,.pointer (some A))::F) H) (hd:Qw c.n (some d)=true:=by exact rfl) (hg:Qi F g=some true:=by exact rfl) (hx:ev F x=some (.pointer (some A)):=by exact rfl):JO c Q m (⟨some d,.nilCheck x,ty,g,.bg,ns⟩::r) F H:=Qc7 (hd:=hd) (hg:=hg) (hx:=hx) (h:=h)

theorem QI {len e sz b o j:Nat} {k:IntKind} [TAr c.P t len e] [dS c.P e sz] (hd:Qw c.n (some d)=true:=by exact rfl) (hg:Qi F g=some true:=by exact rfl) (hx:ev F x=some (.pointer (some ⟨b,o,none⟩)):=by exact rfl) (hy:ev F y=some (.int k j):=by exact rfl) (hj:j<len:=by omega)
  (h:JO c Q m r ((d,.pointer (some ⟨b,o+j*sz,none⟩))::F) H):JO c Q m (⟨some d,.indexAddr t x y,ty,g,.bg,ns⟩::r) F H :=
 ZE hd hg (fun a w fr=>by
  have h1:(0:Int)≤j∧(j:Int)<len:=by omega
  simp only[execOp,fr.ev hx,fr.ev hy,Instr.indexAt,Instr.sureAddr,asIntOf,Sem.run_bind,Sem.run_pure,Result.andThen_ok,run_underlying (TAr.und (P:=c.P) (t:=t)),h1,and_self,if_true,dS.size (e:=e) (n:=sz),Int.toNat_natCast,ZD]) h

end

section
variable {P:Program} {ops:Array Oper}

def edge (ops:Array Oper) (i j:Nat):Array Oper:=ops.modify j fun o=>{ o with after:=o.after.push ⟨i,.data⟩ }

theorem Q83 {i j:Nat}:(edge ops i j).size=ops.size:=by simp[edge]
theorem Q19 {i j k:Nat}:(edge ops i j)[k]?=(ops[k]?).map fun o=>if k=j then { o with after:=o.after.push ⟨i,.data⟩ } else o:=by
 unfold edge
 rw[Array.getElem?_modify]
 by_cases h:j=k
 ·subst h;simp
 ·rw[if_neg h]
  have h':¬k=j:=fun e=>h e.symm
  simp[h']

theorem Q82 {i j:Nat} (tmps:Array Value):yielded (edge ops i j) tmps=yielded ops tmps:=by
 funext g
 unfold yielded
 rw[Q19]
 cases ops[g]? with
 | none=>rfl
 | some o =>
  simp only[Option.map_some,Option.bind_some]
  by_cases h:g=j
  ·simp only[if_pos h]
  ·simp only[if_neg h]

theorem Q2e (ρ:Operand→Value) (o:Oper) (af:Array Edge):execOp ρ { o with after:=af }=execOp ρ o:=by
 obtain⟨dst,op,type,pos,after,guard⟩:=o
 cases op<;>rfl

theorem YW {Q:Exit→Act→World→Prop} {i j:Nat}:∀ (l:List Nat) (a:Act) (w:World),wpOps P (edge ops i j) Q l a w→wpOps P ops Q l a w
 | [],_,_,h=>h
 | k :: l, a, w, h => by
  have ih:wpOps P (edge ops i j) Q l=wpOps P (edge ops i j) Q l:=rfl
  unfold wpOps at h ⊢
  rw[Q19]at h
  cases ho:ops[k]? with
  | none=>rw[ho]at h;exact YW l a w h
  | some o =>
   rw[ho]at h
   simp only[Option.map_some]at h ⊢
   rw[Q82]at h
   have hw:Region.wanted (if k=j then { o with after:=o.after.push ⟨i,.data⟩ } else o) (yielded ops a.tmps)=Region.wanted o (yielded ops a.tmps):=by
    split<;>rfl
   have hd:(if k=j then { o with after:=o.after.push ⟨i,.data⟩ } else o).dst=o.dst:=by split<;>rfl
   have hwp:∀ K,(if k=j then { o with after:=o.after.push ⟨i,.data⟩ } else o).wp P a w K Q=o.wp P a w K Q:=fun K=>by
    split
    ·unfold Oper.wp
     rw[Q2e]
     have:(Oper.upon P { o with after:=o.after.push ⟨i,.data⟩ } a K Q)=(Oper.upon P o a K Q):=by
      funext r;unfold Oper.upon;rfl
     rw[this]
    ·rfl
   have has:(if k=j then { o with after:=o.after.push ⟨i,.data⟩ } else o).asks P a w=o.asks P a w:=by
    split
    ·unfold Oper.asks
     rw[Q2e]
    ·rfl
   rw[hw,hd,hwp,has]at h
   split
   ·rename_i hq
    rw[if_pos hq]at h
    rcases h with h|h
    ·exact .inl (Oper.wp_mono (fun a w=>YW l a w) h)
    ·exact .inr h
   ·rename_i hq
    rw[if_neg hq]at h
    exact YW l _ _ h

def jo (ops:Array Oper):Nat→Array Bool→List Nat→Prop
 | 0,_,l=>l=[]
 | f+1,listed,l=>(Region.ready .any ops listed=[]∧l=[])∨∃ k l',k∈Region.ready .any ops listed∧l=k::l'∧jo ops f (listed.setIfInBounds k true) l'

theorem Q96 (f t:Nat) (listed:Array Bool):Region.linearise.go .any ops (f+1) t listed []=match (Region.ready .any ops listed)[t % (Region.ready .any ops listed).length]? with
  | some i=>i::Region.linearise.go .any ops f (t / (Region.ready .any ops listed).length) (listed.setIfInBounds i true) []
  | none=>[]:=by
 simp only[Region.linearise.go]
 change (match (Region.ready .any ops listed)[t % (Region.ready .any ops listed).length]? with
   | some i=>Region.linearise.go .any ops f (t / (Region.ready .any ops listed).length) (listed.setIfInBounds i true) [i]
   | none=>[].reverse)=_
 cases (Region.ready .any ops listed)[t % (Region.ready .any ops listed).length]? with
 | none=>rfl
 | some i=>simp only[];rw[linearise_go_acc];rfl

theorem Q8y:∀ (f t:Nat) (listed:Array Bool),jo ops f listed (Region.linearise.go .any ops f t listed [])
 | 0,_,_=>rfl
 | f + 1, t, listed => by
  rw[Q96]
  cases hi:(Region.ready .any ops listed)[t % (Region.ready .any ops listed).length]? with
  | none =>
   refine .inl ⟨?_,rfl⟩
   cases hr:Region.ready .any ops listed with
   | nil=>rfl
   | cons x xs =>
    rw[hr]at hi
    have hlt:t % (x::xs).length<(x::xs).length:=Nat.mod_lt _ aA
    rw[List.getElem?_eq_getElem hlt]at hi
    cases hi
  | some i=>exact .inr ⟨i,_,List.mem_of_getElem? hi,rfl,Q8y f _ _⟩

theorem Q69:∀ (f:Nat) (listed:Array Bool) (l:List Nat),jo ops f listed l→∃ t,Region.linearise.go .any ops f t listed []=l
 | 0,_,l,h=>⟨0,by rw[show l=[] from h];rfl⟩
 | f + 1, listed, l, h => by
  rcases h with ⟨hr,rfl⟩|⟨k,l',hk,rfl,h⟩
  ·exact⟨0,by rw[Q96,hr];rfl⟩
  ·obtain⟨t,ht⟩:=Q69 f _ l' h
   obtain⟨n,hn,hkn⟩:=List.mem_iff_getElem.1 hk
   refine⟨n+(Region.ready .any ops listed).length*t,?_⟩
   rw[Q96,Nat.add_mul_mod_self_left,Nat.mod_eq_of_lt hn,List.getElem?_eq_getElem hn,hkn,Nat.add_mul_div_left _ _ oq,Nat.div_eq_of_lt hn,Vq]
   simp only[ht]

theorem Ye {i j k:Nat} {listed:Array Bool}:k∈Region.ready .any (edge ops i j) listed↔k∈Region.ready .any ops listed∧(k=j→listed.getD i false=true):=by
 rw[mem_ready,mem_ready,Q19]
 cases ops[k]? with
 | none=>simp
 | some o =>
  simp only[Option.map_some,Option.some.injEq,exists_eq_left']
  by_cases h:k=j
  ·subst h
   simp only[if_true,true_implies]
   constructor
   ·rintro⟨h1,h2⟩
    exact⟨⟨h1,fun e he=>h2 e (by simp[he])⟩,h2 ⟨i,.data⟩ aA rfl⟩
   ·rintro⟨⟨h1,h2⟩,h3⟩
    refine⟨h1,fun e he hb=>?_⟩
    rcases Array.mem_push.1 he with he|rfl
    ·exact h2 e he hb
    ·exact h3
  ·simp[h]

theorem Q1w {listed:Array Bool} {i k:Nat} (h:listed.getD i false=true):(listed.setIfInBounds k true).getD i false=true:=by
 by_cases hki:k=i
 ·subst hki
  have:k<listed.size:=by
   rcases Nat.lt_or_ge k listed.size with h'|h'
   ·exact h'
   ·simp[Array.getElem?_eq_none h']at h
  simp[this]
 ·simpa [hki] using h

theorem Q3u {i j:Nat}:∀ (f:Nat) (listed:Array Bool) (l:List Nat),listed.getD i false=true→jo ops f listed l→jo (edge ops i j) f listed l
 | 0,_,_,_,h=>h
 | f + 1, listed, l, hi, h => by
  have hr:∀ k,k∈Region.ready .any (edge ops i j) listed↔k∈Region.ready .any ops listed:=fun k=>by rw[Ye];simp[hi]
  rcases h with ⟨h1,rfl⟩|⟨k,l',hk,rfl,h⟩
  ·refine .inl ⟨?_,rfl⟩
   cases hq:Region.ready .any (edge ops i j) listed with
   | nil=>rfl
   | cons x xs =>
    have:=(hr x).1 (by rw[hq];simp)
    rw[h1]at this;cases this
  ·exact .inr ⟨k,l',(hr k).2 hk,rfl,Q3u f _ l' (Q1w hi) h⟩

theorem Q4x {listed:Array Bool} {k:Nat} (hk:k∈Region.ready .any ops listed):(listed.setIfInBounds k true).getD k false=true:=by
 have h:=(mem_ready.1 hk).1
 have:k<listed.size:=by
  rcases Nat.lt_or_ge k listed.size with h'|h'
  ·exact h'
  ·simp[Array.getElem?_eq_none h']at h
 simp[this]

theorem Q7o {i j:Nat} (hij:i≠j):∀ (f:Nat) (listed:Array Bool) (l:List Nat),jo ops f listed l→jo (edge ops i j) f listed l∨jo (edge ops j i) f listed l
 | 0,_,_,h=>.inl h
 | f + 1, listed, l, h => by
  rcases h with ⟨h1,rfl⟩|⟨k,l',hk,rfl,h⟩
  ·refine .inl (.inl ⟨?_,rfl⟩)
   cases hq:Region.ready .any (edge ops i j) listed with
   | nil=>rfl
   | cons x xs =>
    have:=(Ye.1 (show x∈Region.ready .any (edge ops i j) listed by rw[hq];simp)).1
    rw[h1]at this;cases this
  ·by_cases hki:k=i
   ·subst hki
    exact .inl (.inr ⟨k,l',Ye.2 ⟨hk,fun e=>absurd e hij⟩,rfl,Q3u f _ l' (Q4x hk) h⟩)
   ·by_cases hkj:k=j
    ·subst hkj
     exact .inr (.inr ⟨k,l',Ye.2 ⟨hk,fun e=>absurd e.symm hij⟩,rfl,Q3u f _ l' (Q4x hk) h⟩)
    ·rcases Q7o hij f _ l' h with h|h
     ·exact .inl (.inr ⟨k,l',Ye.2 ⟨hk,fun e=>absurd e hkj⟩,rfl,h⟩)
     ·exact .inr (.inr ⟨k,l',Ye.2 ⟨hk,fun e=>absurd e hki⟩,rfl,h⟩)
end

section
variable {c:Cx} {Q:Exit→Act→World→Prop} {F:ak} {H:aj}

theorem Wr {kd:Nat→Op→Kind} {tail:Nat} {order:List Nat} {ops:Array Oper} {Hs:aj} {a:Act} {w:World}
  (hB:Wq c.P kd ops order tail=true) (st:St c F H a w) (iV:aG Hs w) (h:JL c (Q .normal) (.draw Hs true) (Ql kd ops tail order) F H) :
  wpAny c.P .any ops (Only (Q .normal)) ops.size (Array.replicate ops.size false) a { w with drawn:=w.drawn+1 }:=by
 simp only[Wq,Bool.and_eq_true]at hB
 obtain⟨hs,ht,hal,hl,hc,hu⟩:=hB
 have hl:order.length=ops.size:=by simpa using hl
 refine Ws (kd:=kd) (S:=Src c Hs) _ _ _ _ ?_
 have st':St c F H a { w with drawn:=w.drawn+1 }:=⟨st.fr,st.kp.trans (Kp.drew _ _),st.hs.kp (Kp.drew [] w) aA,st.wr⟩
 have hU:∀ i,i<ops.size→iw c.P kd ops i=true→Q1f c.P kd ops (Array.replicate ops.size false) i=true:=fun i hi hx=>by
  have:=List.all_eq_true.1 hu i (List.mem_range.2 hi)
  simpa [hx] using this
 refine sim (Q:=Only (Q .normal)) (K:=Q .normal) hs hU (fun a w h=>h) (fun ch a a' w h=>h.elim) order _ hc ht ops.size true _ H F (fun _=>none) a a _ h ?_ ?_
 ·refine⟨st',fun _=>iV.kp (Kp.drew [] w) aA,⟨rfl,rfl,(fun e ob o d h=>by cases h),fun s _=>rfl⟩,⟨fun e ob h=>(by cases h),fun e ob h=>(by cases h),fun e ob o h=>(by cases h),fun e ob o h=>(by cases h),fun e b o h=>(by cases h),fun e b h=>(by cases h),
   fun e e' b h=>by cases h⟩,by simp,by simp,fun j hj=>by simp,fun j hj _=>?_,.inl rfl⟩
  have:=List.all_eq_true.1 hal j (List.mem_range.2 hj)
  simpa using this
 ·exact hl▸List.countP_le_length

theorem X2 {kd:Nat→Op→Kind} {ops:Array Oper} {i j tail:Nat}:∀ l,Ql kd (edge ops i j) tail l=Ql kd ops tail l
 | []=>rfl
 | k :: l => by
  have ho:∀ (kk:Kind) (ns:Bool) (o:Oper),Qx (edge ops i j) kk ns o=Qx ops kk ns o:=fun kk ns o=>by
   unfold Qx
   cases hg:o.guard with
   | none=>rfl
   | some g =>
    obtain⟨g,want⟩:=g
    simp only[]
    rw[Q19]
    cases ops[g]? with
    | none=>rfl
    | some o' =>
     simp only[Option.map_some]
     split<;>rfl
  simp only[Ql,Q19]
  cases ops[k]? with
  | none=>exact X2 l
  | some o =>
   simp only[Option.map_some]
   rw[X2 l,ho]
   split<;>rfl

end

def inR:List Nat→Nat→Bool
 | [],_=>false
 | x::l,n=>bif x == n then true else inR l n

def toR (rs:List Nat) (od:List Od):Code→dZ
 | .region id ops d=>bif inR rs id then .raw (.region id ops d) else toS od (.region id ops d)
 | .skip=>.skip
 | .seq a b=>.seq (toR rs od a) (toR rs od b)
 | .cond c a b=>.cond c (toR rs od a) (toR rs od b)
 | .block id c=>.block id (toR rs od c)
 | .loop c=>.loop (toR rs od c)
 | .exit id=>.exit id
 | .scope c=>.scope (toR rs od c)
 | .ret=>.ret
 | c=>.raw c

def okR (P:Program) (rs:List Nat) (od:List Od):Code→Bool
 | .region id ops d=>inR rs id || okS P od (.region id ops d)
 | .seq a b=>okR P rs od a && okR P rs od b
 | .cond _ a b=>okR P rs od a && okR P rs od b
 | .block _ c=>okR P rs od c
 | .loop c=>okR P rs od c
 | .scope c=>okR P rs od c
 | _=>true

theorem YD {c:Cx} (rs:List Nat) (od:List Od) (hm:c.P.follows .mixedOrders=true):∀ (s:Code) (Q:Exit→Act→World→Prop) (a:Act) (w:World),
  okR c.P rs od s=true→(toR rs od s).wp c Q a w→s.wp c.P Q a w
 | .skip,Q,a,w,_,h=>wp_skip h
 | .region id ops d,Q,a,w,hk,h=>by
  unfold toR at h
  unfold okR at hk
  cases hr:inR rs id with
  | true=>rw[hr]at h;exact h
  | false=>rw[hr]at h hk;exact aU od hm _ Q a w (by simpa using hk) h
 | .seq x y,Q,a,w,hk,h=>by
  simp only[okR,Bool.and_eq_true]at hk
  refine wp_seq (YD rs od hm x _ a w hk.1 ?_)
  refine aU.wp_mono' (fun e a w hq=>?_) h
  cases e<;>first|exact hq|exact YD rs od hm y _ _ _ hk.2 hq
 | .cond x y z,Q,a,w,hk,h=>by
  simp only[okR,Bool.and_eq_true]at hk
  obtain⟨t,hc,h1,h2⟩:=h
  exact wp_cond_split hc (fun ht=>YD rs od hm y _ _ _ hk.1 (h1 ht)) (fun ht=>YD rs od hm z _ _ _ hk.2 (h2 ht))
 | .block id s,Q,a,w,hk,h=>wp_block (YD rs od hm s _ _ _ hk h)
 | .loop s,Q,a,w,hk,h=>by
  obtain⟨I,⟨n,h0⟩,hr⟩:=h
  exact Q0q I n h0 fun n a w hi=>YD rs od hm s _ _ _ hk (hr n a w hi)
 | .exit id,Q,a,w,_,h=>wp_exit h
 | .scope s,Q,a,w,hk,h=>wp_scope_straight (YD rs od hm s _ _ _ hk h)
 | .ret,Q,a,w,_,h=>wp_ret h
 | .label _,_,_,_,_,h=>h
 | .goto _,_,_,_,_,h=>h
 | .refuse _,_,_,_,_,h=>h
 | .rangeFunc ..,_,_,_,_,h=>h

theorem YZ {P:Program} {f:FuncId} {fn:Func} {s:Code} {args:Array Value} {w:World} {R:Ending→World→Prop} {n:Nat} {rs:Array ResultVar} (raws:List Nat) (od:List Od) (M:List Nat) (hM:∀ k∈M,k<w.heap.size)
  (H:aj) (hf:P.funcs[f]?=some fn) (hb:fn.body=some s) (hm:P.follows .mixedOrders=true) (hk:okR P raws od s=true)
  (hn:fn.ntmps=n) (hrs:fn.results=rs) (hF:Nat.ble args.size n=true) (hH:aG H w) (hwr:∀ p∈H,p.1∈M)
  (h:JC ⟨P,n,w,M,hM⟩ (X9 P rs R) (toR raws od s) (aB 0 args.toList) H):Calls P f args w R:=by
 subst hn hrs
 have hF:=Nat.le_of_ble_eq_true hF
 refine calls_of_wp hf hb ?_
 refine Code.wp_mono ?_ (YD (c:=⟨P,fn.ntmps,w,M,hM⟩) raws od hm s _ _ _ hk (h.h _ _ ⟨⟨rfl,?_,fun i v hl=>?_⟩,Kp.refl _ _,hH,fun p hp=>.inr (hwr p hp)⟩))
 ·intro e a w hq
  cases e<;>exact hq
 ·simp;omega
 ·obtain⟨_,h1⟩:=Q0l _ _ _ _ hl
  have h1:args[i]?=some v:=by simpa using h1
  have h2:i<args.size:=by
   rcases Nat.lt_or_ge i args.size with h|h
   ·exact h
   ·rw[Array.getElem?_eq_none h]at h1;cases h1
  rw[Array.getElem?_append_left h2];exact h1


abbrev uv (n:Nat):Value:=.int .u64 (n:Int)

theorem Q9n {n:Nat} (h:n<18446744073709551616):IntKind.u64.wrap (n:Int)=(n:Int):=by rw[IntKind.wrap_u64];omega

section
variable {c:Cx} {Q:Exit→Act→World→Prop} {m:Mode} {F:ak} {H:aj} {r:List bT} {g:Option (Option Tmp × Bool)} {ns:Bool} {d:Tmp} {ty t t':TypeId} {x y:Operand} {i j:Nat}

theorem Q11 (hd:Qw c.n (some d)=true:=by exact rfl) (hg:Qi F g=some true:=by exact rfl) (hx:ev F x=some (uv i):=by exact rfl) (hy:ev F y=some (uv j):=by exact rfl) (hb:i+j<18446744073709551616:=by(first|assumption|omega))
  (h:JO c Q m r ((d,uv (i+j))::F) H):JO c Q m (⟨some d,.binOp .add t x y t',ty,g,.bg,ns⟩::r) F H :=
 ZF hd hg hx hy (fun w=>by
  rw[binOp_add]
  simp only[Op.intArith,show (i:Int)+(j:Int)=((i+j:Nat):Int) by omega,Q9n hb,Sem.run_pure]) h
theorem Qe2 (hd:Qw c.n (some d)=true:=by exact rfl) (hg:Qi F g=some true:=by exact rfl) (hx:ev F x=some (uv i):=by exact rfl) (hy:ev F y=some (uv j):=by exact rfl) (hb:i<18446744073709551616∧j<18446744073709551616:=by(first|assumption|omega))
  (h:JO c Q m r ((d,uv ((i+(18446744073709551616-j)) % 18446744073709551616))::F) H):JO c Q m (⟨some d,.binOp .sub t x y t',ty,g,.bg,ns⟩::r) F H :=
 ZF hd hg hx hy (fun w=>by
  rw[binOp_sub]
  simp only[Op.intArith,Sem.run_pure,IntKind.wrap_u64]
  rw[show ((i:Int)-(j:Int)) % 18446744073709551616=(((i+(18446744073709551616-j)) % 18446744073709551616:Nat):Int) by omega]) h
theorem Qa7 (hd:Qw c.n (some d)=true:=by exact rfl) (hg:Qi F g=some true:=by exact rfl) (hx:ev F x=some (uv i):=by exact rfl) (hy:ev F y=some (uv j):=by exact rfl) (hb:i*j<18446744073709551616:=by(first|assumption|omega))
  (h:JO c Q m r ((d,uv (i*j))::F) H):JO c Q m (⟨some d,.binOp .mul t x y t',ty,g,.bg,ns⟩::r) F H :=
 ZF hd hg hx hy (fun w=>by
  rw[binOp_mul]
  simp only[Op.intArith,show (i:Int)*(j:Int)=((i*j:Nat):Int) by simp,Q9n hb,Sem.run_pure]) h
theorem Qa3 (hd:Qw c.n (some d)=true:=by exact rfl) (hg:Qi F g=some true:=by exact rfl) (hx:ev F x=some (uv i):=by exact rfl) (hy:ev F y=some (uv j):=by exact rfl) (hb:0<j∧i<18446744073709551616:=by(first|assumption|omega))
  (h:JO c Q m r ((d,uv (i / j))::F) H):JO c Q m (⟨some d,.binOp .quo t x y t',ty,g,.bg,ns⟩::r) F H :=
 ZF hd hg hx hy (fun w=>by
  have h0:¬((j:Int)=0):=by omega
  have h1:i / j<18446744073709551616:=V5 (Nat.div_le_self _ _) hb.2
  rw[binOp_quo];simp only[Op.intDiv,h0,if_false, ← Int.ofNat_tdiv,Q9n h1,Sem.run_pure]) h
theorem Qa2 (hd:Qw c.n (some d)=true:=by exact rfl) (hg:Qi F g=some true:=by exact rfl) (hx:ev F x=some (uv i):=by exact rfl) (hy:ev F y=some (uv j):=by exact rfl) (hb:0<j:=by(first|assumption|omega))
  (h:JO c Q m r ((d,uv (i % j))::F) H):JO c Q m (⟨some d,.binOp .rem t x y t',ty,g,.bg,ns⟩::r) F H :=
 ZF hd hg hx hy (fun w=>by
  have h0:¬((j:Int)=0):=by omega
  have h1:(i:Int).tmod j=((i % j:Nat):Int):=(Int.ofNat_tmod i j).symm
  rw[binOp_rem];simp only[Op.intDiv,h0,if_false,Sem.run_pure,h1]) h
theorem X4 (hd:Qw c.n (some d)=true:=by exact rfl) (hg:Qi F g=some true:=by exact rfl) (hx:ev F x=some (uv i):=by exact rfl) (hy:ev F y=some (.int .u64 4294967295):=by exact rfl) (hb:i<18446744073709551616:=by(first|assumption|omega))
  (h:JO c Q m r ((d,uv (i % 4294967296))::F) H):JO c Q m (⟨some d,.binOp .and t x y t',ty,g,.bg,ns⟩::r) F H :=
 ZF hd hg hx hy (fun w=>by
  rw[binOp_and,intBits_and,show (4294967295:Int)=((2 ^ 32-1:Nat):Int) from rfl,bits_and_u64_nat _ _ hb dq,Nat.and_two_pow_sub_one_eq_mod];rfl) h
theorem Qns (hd:Qw c.n (some d)=true) (hg:Qi F g=some true) (hx:ev F x=some (uv i)) (hy:ev F y=some (uv j)) (hb:i<18446744073709551616∧j<18446744073709551616)
  (h:JO c Q m r ((d,uv (i ||| j))::F) H):JO c Q m (⟨some d,.binOp .or t x y t',ty,g,.bg,ns⟩::r) F H :=
 ZF hd hg hx hy (fun w=>by rw[binOp_or,intBits_or,bits_or_u64_nat _ _ hb.1 hb.2];rfl) h
theorem Q3n {k:IntKind} (hd:Qw c.n (some d)=true:=by exact rfl) (hg:Qi F g=some true:=by exact rfl) (hx:ev F x=some (uv i):=by exact rfl) (hy:ev F y=some (.int k j):=by exact rfl) (hj:j≤64:=by(first|assumption|omega))
  (h:JO c Q m r ((d,uv (i*2 ^ j % 18446744073709551616))::F) H):JO c Q m (⟨some d,.binOp .shl t x y t',ty,g,.bg,ns⟩::r) F H :=
 ZE hd hg (fun a w fr=>by
  have h1:¬((j:Int)<0):=by omega
  have h2:min j 64=j:=by omega
  have h3:IntKind.u64.wrap ((i:Int)*2 ^ j)=((i*2 ^ j % 18446744073709551616:Nat):Int):=by
   rw[IntKind.wrap_u64,show (i:Int)*2 ^ j=((i*2 ^ j:Nat):Int) by simp]
   generalize i*2 ^ j=z
   omega
  simp only[execOp,fr.ev hx,fr.ev hy,eqGuard_shl,binOp_shl,Op.shift,h1,if_false,Int.toNat_natCast]
  simp[IntKind.bits,h2,h3,uv]) h
theorem Xx {k:IntKind} (hd:Qw c.n (some d)=true:=by exact rfl) (hg:Qi F g=some true:=by exact rfl) (hx:ev F x=some (uv i):=by exact rfl) (hy:ev F y=some (.int k j):=by exact rfl) (hj:j≤64:=by(first|assumption|omega))
  (h:JO c Q m r ((d,uv (i / 2 ^ j))::F) H):JO c Q m (⟨some d,.binOp .shr t x y t',ty,g,.bg,ns⟩::r) F H :=
 ZE hd hg (fun a w fr=>by
  have h1:¬((j:Int)<0):=by omega
  have h2:min j 64=j:=by omega
  simp only[execOp,fr.ev hx,fr.ev hy,eqGuard_shr,binOp_shr,Op.shift,h1,if_false,Int.toNat_natCast]
  have h3:((i:Int).fdiv (2 ^ j))=((i / 2 ^ j:Nat):Int):=by
   rw[Int.fdiv_eq_ediv_of_nonneg _ (by exact_mod_cast V8 (2 ^ j))];norm_cast
  simp[IntKind.bits,h2,h3,uv]) h
end

class TI (P:Program) (t:TypeId) (k:outParam IntKind):Prop where
 und:P.underlying t=some (.int k)
theorem TI.kind {P:Program} {t:TypeId} {k:IntKind} [h:TI P t k]:P.intKind t=k:=by
 unfold Program.intKind
 rw[h.und]

section
variable {c:Cx} {Q:Exit→Act→World→Prop} {m:Mode} {F:ak} {H:aj} {r:List bT} {g:Option (Option Tmp × Bool)} {ns:Bool} {d:Tmp} {ty t t':TypeId} {x y:Operand}

theorem Wj {k k':IntKind} {i:Int} (j:Int) [TI c.P t k] [TI c.P t' k'] (hd:Qw c.n (some d)=true) (hg:Qi F g=some true) (hx:ev F x=some (.int k i)) (hj:k'.wrap i=j)
  (h:JO c Q m r ((d,.int k' j)::F) H):JO c Q m (⟨some d,.convert t t' x,ty,g,.bg,ns⟩::r) F H :=
 ZE hd hg (fun a w fr=>by
  have h1:=run_convert_int w t t' k i (by rw[TI.und (P:=c.P) (t:=t)];rfl) (by rw[TI.kind (k:=k')];exact TI.und)
  rw[TI.kind (k:=k'),hj]at h1
  simp only[execOp,fr.ev hx,Sem.run_bind,h1,Result.andThen_ok,Sem.run_pure]) h
end

section
variable {c:Cx} {Q:Exit→Act→World→Prop} {m:Mode} {F:ak} {H:aj} {r:List bT} {g:Option (Option Tmp × Bool)} {ns:Bool} {d:Tmp} {ty t t':TypeId} {x y:Operand}

theorem Yb {k:IntKind} {i:Nat} [TI c.P t k] [TI c.P t' .i64] (hd:Qw c.n (some d)=true:=by exact rfl) (hg:Qi F g=some true:=by exact rfl) (hx:ev F x=some (.int k i):=by exact rfl) (hb:i<9223372036854775808:=by omega)
  (h:JO c Q m r ((d,.int .i64 i)::F) H):JO c Q m (⟨some d,.convert t t' x,ty,g,.bg,ns⟩::r) F H:=Wj (k':=.i64) i hd hg hx (in64N hb) h
theorem Q7g {b:Bool} [TB c.P t] (hd:Qw c.n (some d)=true:=by exact rfl) (hg:Qi F g=some true:=by exact rfl) (hx:ev F x=some (.bool b):=by exact rfl) (hy:ev F y=some (.bool b):=by exact rfl) (h:JO c Q m r ((d,.bool false)::F) H):JO c Q m (⟨some d,.binOp .neq t x y t',ty,g,.bg,ns⟩::r) F H :=
 Q0b hd hg hx hy (by rw[bne_self_eq_false];exact h)
theorem Qeb {b:Bool} [TB c.P t] (hd:Qw c.n (some d)=true:=by exact rfl) (hg:Qi F g=some true:=by exact rfl) (hx:ev F x=some (.bool b):=by exact rfl) (hy:ev F y=some (.bool b):=by exact rfl) (h:JO c Q m r ((d,.bool true)::F) H):JO c Q m (⟨some d,.binOp .eql t x y t',ty,g,.bg,ns⟩::r) F H :=
 Ql1 hd hg hx hy (by rw[beq_self_eq_true];exact h)
end

instance:TI Tryz.prog 3 .i64:=⟨Tryz.underlying3⟩
instance:TI Tryz.prog 5 .u8:=⟨Tryz.underlying5⟩
instance:TI Tryz.prog 126 .u64:=⟨Tryz.underlying126⟩


theorem JC.label {c:Cx} {Q:Exit→Act→World→Prop} {F:ak} {H:aj} {l:Nat} (h:JX c Q .normal F H):JC c Q (.raw (.label l)) F H:=⟨fun a w st=>wp_label (h.h a w st)⟩

theorem Ze {c:Cx} {R:Value→World→Prop} {F:ak} {H:aj} (hR:∀ a w,St c F H a w→R (.tuple #[]) w):JX c (X9 c.P #[] (aQ R)) .normal F H :=
 Qmw [] trivial hR

theorem Qgk {N r B:aj} (h:HSub r B):HSub (N++r) (N++B):=by
 obtain⟨l,hl⟩:=h
 exact⟨l,by rw[Vb];exact hl.append_left N⟩

def InW (N:aj) (w:World):Prop:=∀ p∈N,w.heap[p.1]?=some p.2

section
variable {c:Cx} {Q:Exit→Act→World→Prop} {m:Mode} {F:ak} {H:aj} {r:List bT} {g:Option (Option Tmp × Bool)} {ns:Bool} {d:Tmp} {ty t t':TypeId} {x y:Operand}

theorem Qnp {op:Op} {v:Value} {dd:Option Tmp} (hm:m.dR ns r) (hd:Qw c.n dd=true) (hg:Qi F g=some true) (hr:∀ a w,dQ c.n F a→Src c H w→(execOp a.eval ⟨dd,op,ty, "",#[],none⟩).run c.P w=.ok (.value v) w)
  (h:JO c Q m r (dN F dd v) H):JO c Q m (⟨dd,op,ty,g,.seq,ns⟩::r) F H:=by
 refine⟨⟨hd,.inr ⟨hg,fun a w st hs=>?_⟩⟩⟩
 unfold Oper.wp bT.oper
 rw[hr a w st.fr ⟨st.kp,st.hs⟩]
 exact⟨⟨V7 _,fun _ _ _ _=>rfl⟩,_,H,m,st.put v hd,fun _ h=>.inl h,ZY (Kp.refl _ _) hs hm,h.h⟩

theorem Qad {A N B Hs:aj} {f:FuncId} {args:Array Operand} {ats:Array TypeId} {vs:List Value} {R:World→Value→World→Prop} {dd:Option Tmp} [TF c.P f] (hH:H=A++(N++B)) (iV:HSub Hs (A++B)) (hd:Qw c.n dd=true) (hg:Qi F g=some true) (ha:Zy F args.toList=some vs)
  (hc:∀ w,Kp c.M c.w0 w→aG H w→Calls c.P f vs.toArray w (aQ fun v w'=>Kp (keys N) w w'∧R w v w'))
  (h:∀ w v w',Kp c.M c.w0 w→aG H w→Kp (keys N) w w'→R w v w'→∃ N',keys N'=keys N∧InW N' w'∧JO c Q (.draw Hs true) r (dN F dd v) (A++(N'++B))) :
  JO c Q (.draw Hs true) (⟨dd,.call ⟨.value (.func f),args,ats⟩,ty,g,.seq,ns⟩::r) F H:=by
 subst hH
 refine⟨⟨hd,.inr ⟨hg,fun a w st hs=>?_⟩⟩⟩
 unfold Oper.wp bT.oper
 rw[XC st.fr ha]
 refine Calls.mono (hc w st.kp st.hs) fun e w' he=>?_
 cases e with
 | panicked ch=>exact he.elim
 | outgrown=>exact he.elim
 | returned v =>
  obtain⟨hk,hR⟩:=he
  obtain⟨N',hkeys,hb,hj⟩:=h w v w' st.kp st.hs hk hR
  have hp:(A++(N++B)).Perm ((A++B)++N):=(QX A N B).symm
  have hnd:=(st.perm hp).hs.nd
  have hnd0:=hnd
  rw[Vj,List.nodup_append]at hnd
  obtain⟨st',hstep,hkk⟩:=ZV (N':=N') st hp (by have:=hnd.2.1;unfold keys at hkeys;rw[hkeys];exact this) hb (fun k hk'=>.inl (hkeys▸hk')) (fun k h1 h2=>hk.block k h1 h2) hk.size hk.os hk.tape hk.output
  have hAB:aG (A++B) w':=by
   have h0:aG (A++B) w:=(HSub.sub (List.sublist_append_left (A++B) N)).aV (st.perm hp).hs
   exact h0.kp hk fun p hp' hpk=>hnd.2.2 p.1 (List.mem_map.2 ⟨p,hp',rfl⟩) p.1 hpk rfl
  refine⟨hstep,_,_,.draw Hs true,(st'.perm (QX A N' B)).put v hd,fun k hk'=>hkk k ?_,⟨rfl,fun _=>⟨rfl,iV.aV hAB⟩,fun _=>rfl,.inl rfl⟩,hj.h⟩
  obtain⟨q,hq,rfl⟩:=List.mem_map.1 hk'
  exact List.mem_map.2 ⟨q,(QX A N' B).mem_iff.2 hq,rfl⟩

theorem Q0y {A N B:aj} {f:FuncId} {args:Array Operand} {ats:Array TypeId} {vs:List Value} {first cap:Array Value} {R:World→Value→World→Prop} {dd:Option Tmp} [TF c.P f] (hH:H=A++(N++B)) (hm:m.aO ns r) (hd:Qw c.n dd=true) (hg:Qi F g=some true)
  (hx:ev F x=some (.func (.func f) first cap)) (ha:Zy F args.toList=some vs)
  (hc:∀ w,Kp c.M c.w0 w→aG H w→Calls c.P f (first++vs.toArray++cap) w (aQ fun v w'=>Kp (keys N) w w'∧R w v w'))
  (h:∀ w v w',Kp c.M c.w0 w→aG H w→Kp (keys N) w w'→R w v w'→∃ N',keys N'=keys N∧InW N' w'∧JO c Q m.spent r (dN F dd v) (A++(N'++B))) :
  JO c Q m (⟨dd,.call ⟨.value x,args,ats⟩,ty,g,.seq,ns⟩::r) F H:=by
 subst hH
 refine⟨⟨hd,.inr ⟨hg,fun a w st hs=>?_⟩⟩⟩
 have hrun:(execOp a.eval ⟨dd,.call ⟨.value x,args,ats⟩,ty, "",#[],none⟩).run c.P w=.ok (.enter f (first++vs.toArray++cap)) w:=by
  show (do let d ← resolve a.eval ⟨.value x,args,ats⟩ ty;invoke d.target d.args).run c.P w=_
  have h1:args.map a.eval=vs.toArray:=by
   have:=Yv st.fr ha
   apply Array.ext'
   rw[Array.toList_map,this]
  have h0:(resolve a.eval ⟨.value x,args,ats⟩ ty).run c.P w=.ok { target:=.fn (.func f) cap,args:=first++vs.toArray } w:=by
   simp[resolve,h1,st.fr.ev hx,Deferred.ofValue]
  rw[Sem.run_bind,h0]
  simp only[Result.andThen_ok,invoke,TF.run]
 unfold Oper.wp bT.oper
 rw[hrun]
 refine Calls.mono (hc w st.kp st.hs) fun e w' he=>?_
 cases e with
 | panicked ch=>exact he.elim
 | outgrown=>exact he.elim
 | returned v =>
  obtain⟨hk,hR⟩:=he
  obtain⟨N',hkeys,hb,hj⟩:=h w v w' st.kp st.hs hk hR
  have hp:(A++(N++B)).Perm ((A++B)++N):=(QX A N B).symm
  have hnd:=(st.perm hp).hs.nd
  rw[Vj,List.nodup_append]at hnd
  obtain⟨st',hstep,hkk⟩:=ZV (N':=N') st hp (by have:=hnd.2.1;unfold keys at hkeys;rw[hkeys];exact this) hb (fun k hk'=>.inl (hkeys▸hk')) (fun k h1 h2=>hk.block k h1 h2) hk.size hk.os hk.tape hk.output
  refine⟨hstep,_,_,m.spent,(st'.perm (QX A N' B)).put v hd,fun k hk'=>hkk k ?_,Za hm,hj.h⟩
  obtain⟨q,hq,rfl⟩:=List.mem_map.1 hk'
  exact List.mem_map.2 ⟨q,(QX A N' B).mem_iff.2 hq,rfl⟩

theorem Q0x {e:TypeId} {b o len cap j:Nat} {k:IntKind} [dh c.P t e] [dS c.P e 1] (hd:Qw c.n (some d)=true:=by exact rfl) (hg:Qi F g=some true:=by exact rfl) (hx:ev F x=some (.slice (some ⟨b,o,none⟩) len cap):=by exact rfl) (hy:ev F y=some (.int k j):=by exact rfl) (hj:j<len:=by omega)
  (h:JO c Q m r ((d,.pointer (some ⟨b,o+j,none⟩))::F) H):JO c Q m (⟨some d,.indexAddr t x y,ty,g,.bg,ns⟩::r) F H :=
 Qhl hd hg hx (fun _=>rfl) hy hj h
end


theorem Q3c:∀ (l:List Value) (cs:Array Value) (o:Nat),o+l.length≤cs.size→(ZB cs o l).toList=cs.toList.take o++(l++cs.toList.drop (o+l.length))
 | [],cs,o,h=>by rw[ZB];simp
 | v::l,cs,o,h=>by
  simp only[List.length_cons]at h
  rw[ZB,Q3c l _ _ (by rw[Array.size_setIfInBounds];omega),Array.toList_setIfInBounds]
  have hlt:o<(cs.toList.set o v).length:=by simp;omega
  rw[List.take_succ_eq_append_getElem hlt,List.take_set_of_le (V7 _),List.drop_set_of_lt oq]
  simp only[List.getElem_set_self,Vb,List.singleton_append,List.length_cons,Vg,Vr]
  rw[show o+1+l.length=o+(l.length+1) by omega]

theorem Q2d (off:Nat):∀ (l:List Value) (k:Nat) (cs:Array Value),(l.zipIdx k).foldl (fun(cs:Array Value) (x:Value × Nat)=>cs.setIfInBounds (off+x.2) x.1) cs=ZB cs (off+k) l
 | [],k,cs=>rfl
 | v::l,k,cs=>by
  rw[List.zipIdx_cons,List.foldl_cons,Q2d off l,ZB]
  rfl

def flat (vs:List Value):List Value:=(vs.map fun v=>v.cells.toList).flatten

theorem Qf9 (sz:Nat):∀ (l:List (Nat × Value)) (vs:List Value) (k:Nat) (cs:Array Value),l.map (·.2)=vs→l.map (·.1)=List.range' k l.length→(∀ v∈vs,v.cells.size=sz)→cs.size=(k+l.length)*sz →
  ∃ cs',Instr.fill (fun j=>some (j*sz,sz)) cs l=some cs'∧cs'.toList=cs.toList.take (k*sz)++flat vs
 | [],vs,k,cs,h1,_,_,h4=>by
  simp only[List.map_nil]at h1
  subst h1
  refine⟨cs,rfl,?_⟩
  rw[Vd (by simp at h4 ⊢;omega)]
  simp[flat]
 | (i, v) :: l, vs, k, cs, h1, h2, h3, h4 => by
  simp only[List.map_cons]at h1
  subst h1
  simp only[List.map_cons,List.length_cons,List.range'_succ,List.cons.injEq]at h2
  obtain⟨rfl,h2⟩:=h2
  have hv:v.cells.size=sz:=h3 v aA
  have e1:(i+(l.length+1))*sz=i*sz+sz+l.length*sz:=by rw[Vl,Vl,Nat.one_mul];omega
  simp only[List.length_cons]at h4
  rw[e1]at h4
  have hst:v.cells.zipIdx.foldl (fun(cs:Array Value) (x:Value × Nat)=>cs.setIfInBounds (i*sz+x.2) x.1) cs=ZB cs (i*sz) v.cells.toList:=by
   rw[← Array.foldl_toList,Array.toList_zipIdx,Q2d];rfl
  obtain⟨cs',h5,h6⟩:=Qf9 sz l (l.map (·.2)) (i+1) (ZB cs (i*sz) v.cells.toList) rfl h2 (fun u hu=>h3 u (Vc _ hu)) (by rw[Q04,h4,Vl,Vl,Nat.one_mul])
  refine⟨cs',?_,?_⟩
  ·have hg:¬((v.cells.size≠sz || decide (i*sz+v.cells.size>cs.size))=true):=by
    simp only[hv,ne_eq,not_true_eq_false,decide_false,Bool.false_or,decide_eq_true_eq]
    omega
   show (if (v.cells.size≠sz || decide (i*sz+v.cells.size>cs.size))=true then none else Instr.fill _ (v.cells.zipIdx.foldl (fun(cs:Array Value) (x:Value × Nat)=>cs.setIfInBounds (i*sz+x.2) x.1) cs) l)=_
   rw[if_neg hg,hst,h5]
  ·rw[h6,Q3c _ _ _ (by simp[hv];omega)]
   have hlen:(cs.toList.take (i*sz)++v.cells.toList).length=(i+1)*sz:=by simp[hv,Vl];omega
   rw[← Vb,List.take_left' hlen]
   simp[flat]

def ones:List Value→Prop
 | []=>True
 | v::r=>v.cells=#[v]∧ones r
theorem Q3w:∀ {vs:List Value},ones vs→flat vs=vs∧∀ v∈vs,v.cells.size=1
 | [],_=>⟨rfl,by simp⟩
 | v :: r, ⟨h1, h2⟩ => by
  obtain⟨h3,h4⟩:=Q3w h2
  refine⟨?_,fun u hu=>?_⟩
  ·have:flat (v::r)=v.cells.toList++flat r:=by simp[flat]
   rw[this,h3,h1];rfl
  ·rcases List.mem_cons.1 hu with rfl|hu
   ·rw[h1];rfl
   ·exact h4 u hu

theorem Q2f {F:ak}:∀ {ps:List (Nat × Operand)} {vs:List Value},Zy F (ps.map (·.2))=some vs→∃ l,Xs F ps=some l∧l.map (·.1)=ps.map (·.1)∧l.map (·.2)=vs
 | [],vs,h=>by simp only[List.map_nil,Zy,Option.some.injEq]at h;subst h;exact⟨[],rfl,rfl,rfl⟩
 | (i, x) :: r, vs, h => by
  simp only[List.map_cons,Zy]at h
  split at h
  ·rename_i v vs' h1 h2
   simp only[Option.some.injEq]at h
   subst h
   obtain⟨l,h3,h4,h5⟩:=Q2f h2
   exact⟨(i,v)::l,by simp only[Xs,h1,h3],by simp[h4],by simp[h5]⟩
  ·cases h

section
variable {c:Cx} {Q:Exit→Act→World→Prop} {m:Mode} {F:ak} {H:aj} {r:List bT} {g:Option (Option Tmp × Bool)} {ns:Bool} {d:Tmp} {ty t t':TypeId} {x y:Operand}

theorem Yf {i:Nat} (hd:Qw c.n (some d)=true:=by exact rfl) (hg:Qi F g=some true:=by exact rfl) (hx:ev F x=some (.int .i64 i):=by exact rfl) (hy:ev F y=some (.int .i64 1):=by exact rfl) (hb:1≤i∧i<9223372036854775808:=by omega)
  (h:JO c Q m r ((d,.int .i64 ((i-1:Nat):Int))::F) H):JO c Q m (⟨some d,.binOp .sub t x y t',ty,g,.bg,ns⟩::r) F H:=WQ (j:=1) hd hg hx hy hb h
theorem Q7e {i:Nat} (hd:Qw c.n (some d)=true:=by exact rfl) (hg:Qi F g=some true:=by exact rfl) (hx:ev F x=some (.int .i64 i):=by exact rfl) (hy:ev F y=some (.int .i64 2):=by exact rfl) (hb:2≤i∧i<9223372036854775808:=by omega)
  (h:JO c Q m r ((d,.int .i64 ((i-2:Nat):Int))::F) H):JO c Q m (⟨some d,.binOp .sub t x y t',ty,g,.bg,ns⟩::r) F H:=WQ (j:=2) hd hg hx hy hb h
theorem Wy {e:TypeId} {sz bytes n:Nat} {zc:Array Value} {parts:Array (Nat × Operand)} {vs cl:List Value} [dh c.P t e] [TE c.P e sz bytes zc] (hd:Qw c.n (some d)=true) (hg:Qi F g=some true) (hl:m.live=true)
  (hp:Zy F (parts.toList.map (·.2))=some vs) (hi:parts.toList.map (·.1)=List.range n) (hs:∀ v∈vs,v.cells.size=sz) (hf:flat vs=cl) (hn:n*sz≤1000) (hn0:n*sz≠0)
  (h:∀ b,JO c Q m r ((d,(.slice (some ⟨b,0,none⟩) n n))::F) ((b,.cells ⟨cl⟩ e)::H)):JO c Q m (⟨some d,.buildSlice t n parts,ty,g,.alloc,ns⟩::r) F H:=by
 obtain⟨l,h1,h2,h3⟩:=Q2f hp
 have hln:l.length=n:=by
  have:=congrArg List.length h2
  rw[hi]at this
  simpa using this
 obtain⟨cs',h4,h5⟩:=Qf9 sz l vs 0 (Zb zc (n*sz)) h3 (by rw[h2,hi,hln,List.range_eq_range']) hs (by simp[Zb,hln])
 have h6:cs'=⟨cl⟩:=by apply Array.ext';rw[h5, ← hf];simp
 subst h6
 exact Zr hd hg hl h1 oq hn0 h4 h

theorem QH {e:TypeId} {bytes n:Nat} {zc:Array Value} {parts:Array (Nat × Operand)} {vs:List Value} [dh c.P t e] [TE c.P e 1 bytes zc] (hd:Qw c.n (some d)=true:=by exact rfl) (hg:Qi F g=some true:=by exact rfl) (hl:m.live=true:=by exact rfl)
  (hp:Zy F (parts.toList.map (·.2))=some vs:=by exact rfl) (hi:parts.toList.map (·.1)=List.range n:=by exact rfl) (ho:ones vs:=by(repeat first|exact trivial|refine⟨rfl,?_⟩)) (hn:n*1≤1000:=by decide) (hn0:n*1≠0:=by decide)
  (h:∀ b,JO c Q m r ((d,(.slice (some ⟨b,0,none⟩) n n))::F) ((b,.cells ⟨vs⟩ e)::H)):JO c Q m (⟨some d,.buildSlice t n parts,ty,g,.alloc,ns⟩::r) F H :=
 Wy hd hg hl hp hi (Q3w ho).2 (Q3w ho).1 hn hn0 h

theorem Q60 {A:Option Addr} {len cap:Nat} {e:TypeId} [dh c.P t e] (hd:Qw c.n (some d)=true:=by exact rfl) (hg:Qi F g=some true:=by exact rfl) (hx:ev F x=some (.slice A len cap):=by exact rfl) (hy:ev F y=some (.slice none 0 0):=by exact rfl) (h:JO c Q m r ((d,(.bool A.isNone))::F) H) :
  JO c Q m (⟨some d,.binOp .eql t x y t',ty,g,.bg,ns⟩::r) F H :=
 ZE hd hg (fun a w fr=>by
  simp only[execOp,fr.ev hx,fr.ev hy,binOp]
  have hs:eqGuard .eql t x y (.slice A len cap) (.slice none 0 0)=pure ():=rfl
  simp only[hs,Sem.run_bind,Sem.run_pure,Result.andThen_ok,run_equal_slice_nil w t e A len cap (dh.und (P:=c.P) (t:=t))]) h

end

theorem ZH (b n:Nat) (xs:List Nat) (vs:List Value) (hv:vs=xs.map nv) (hn:xs.length=n) (h:n≤1000):bH [(b,.cells ⟨vs⟩ 3)] (.slice (some ⟨b,0,none⟩) n n) n xs:=by
 subst hv
 have:=aH.mk' (e:=3) (sz:=1) (n:=n) (b:=b) (cs:=⟨xs.map nv⟩) (by simp[hn]) (by simp only[maxLen];omega)
 exact this


abbrev yv (n:Nat):Value:=.int .u8 (n:Int)

def WU (w:World) (v:Value) (n:Nat) (xs:List Nat):Prop:=jc w 1 v n (xs.map uv)
def RdU (c:Cx) (N:aj) (v:Value) (n:Nat) (xs:List Nat):Prop:=Rd c N 1 v n (xs.map uv)
def aZ (N:aj) (v:Value) (n:Nat) (xs:List Nat):Prop:=aH 126 1 N v n (xs.map uv)
theorem WU.len {w:World} {v:Value} {n:Nat} {xs:List Nat} (h:WU w v n xs):xs.length=n:=by simpa using h.1
theorem RdU.len {c:Cx} {N:aj} {v:Value} {n:Nat} {xs:List Nat} (h:RdU c N v n xs):xs.length=n:=by simpa using h.1
theorem aZ.len {N:aj} {v:Value} {n:Nat} {xs:List Nat} (h:aZ N v n xs):xs.length=n:=by simpa using h.1
theorem WU.mono {w w':World} {v:Value} {n:Nat} {xs:List Nat} (h:WU w v n xs) (hk:Kp [] w w'):WU w' v n xs:=jc.mono h hk
theorem WU.rd {c:Cx} {v:Value} {n:Nat} {xs:List Nat} (h:WU c.w0 v n xs) (hM:c.M=[]) (N:aj):RdU c N v n xs:=jc.rd h hM N
theorem RdU.at {c:Cx} {N H:aj} {w:World} {v:Value} {n:Nat} {xs:List Nat} (h:RdU c N v n xs) (hk:Kp c.M c.w0 w) (hs:aG H w) (hN:HSub N H):WU w v n xs:=Rd.at h hk hs hN
theorem aZ.rd {c:Cx} {N:aj} {v:Value} {n:Nat} {xs:List Nat} (h:aZ N v n xs):RdU c N v n xs:=aH.rd h
theorem aZ.new {N:aj} {v:Value} {n:Nat} {xs:List Nat} {w w':World} (h:aZ N v n xs) (hn:New N w w'):WU w' v n xs:=New.rd (c:=⟨Tryz.prog,0,w,[],by simp⟩) h hn
theorem aZ.form {N:aj} {v:Value} {n:Nat} {xs:List Nat} (h:aZ N v n xs):∃ A cap,v=.slice A n cap:=by
 obtain⟨_,⟨rfl,rfl,rfl⟩|⟨b,cap,cur,rfl,_⟩⟩:=h
 ·exact⟨_,_,rfl⟩
 ·exact⟨_,_,rfl⟩
theorem WU.form {w:World} {v:Value} {n:Nat} {xs:List Nat} (h:WU w v n xs):∃ A cap,v=.slice A n cap:=by
 obtain⟨_,A,cap,rfl,_⟩:=h
 exact⟨_,_,rfl⟩
theorem aZ.nil:aZ [] (.slice none 0 0) 0 []:=aH.nil _ 1
section
variable {c:Cx} {Q:Exit→Act→World→Prop} {m:Mode} {F:ak} {H:aj} {r:List bT} {g:Option (Option Tmp × Bool)} {ns:Bool} {d:Tmp} {ty t t':TypeId} {x y:Operand} {N:aj} {n:Nat} {v:Value}
theorem QW {e:TypeId} {xs:List Nat} [dh c.P t e] (hd:Qw c.n (some d)=true:=by exact rfl) (hg:Qi F g=some true:=by exact rfl) (hx:ev F x=some v:=by exact rfl) (hv:RdU c N v n xs:=by(first|assumption|exact WU.rd (by assumption) rfl []|exact aZ.rd (by assumption)))
  (h:JO c Q m r ((d,.int .i64 n)::F) H):JO c Q m (⟨some d,.call ⟨.builtin .len,#[x],#[t]⟩,ty,g,.bg,ns⟩::r) F H:=Xy hd hg hx hv h
theorem Zd {e:TypeId} {xs:List Nat} {j:Nat} {k:IntKind} [dh c.P t e] [dS c.P e 1] (hd:Qw c.n (some d)=true:=by exact rfl) (hg:Qi F g=some true:=by exact rfl) (hx:ev F x=some v:=by exact rfl) (hy:ev F y=some (.int k j):=by exact rfl) (hv:RdU c N v n xs:=by(first|assumption|exact WU.rd (by assumption) rfl []|exact aZ.rd (by assumption))) (hj:j<n:=by(first|assumption|omega))
  (h:JO c Q m r ((d,.pointer (some (dK v j)))::F) H):JO c Q m (⟨some d,.indexAddr t x y,ty,g,.bg,ns⟩::r) F H:=X5 hd hg hx hy hv hj h
theorem Yr {xs:List Nat} {i:Nat} [T1 c.P t] (hd:Qw c.n (some d)=true:=by exact rfl) (hg:Qi F g=some true:=by exact rfl) (hx:ev F x=some (.pointer (some (dK v i))):=by exact rfl) (hl:m.live=true:=by exact rfl) (hv:RdU c N v n xs:=by(first|assumption|exact WU.rd (by assumption) rfl []|exact aZ.rd (by assumption))) (hN:HSub N (m.src H):=by exact Qb) (hi:i<n:=by(first|assumption|omega))
  (h:JO c Q m r ((d,uv (xs.getD i 0))::F) H):JO c Q m (⟨some d,.load t x,ty,g,.ld,ns⟩::r) F H :=
 Q1q hd hg hx hl hv hN (by rw[List.getElem?_map,XB (d:=0) (by have:=hv.len;omega)];rfl) h
theorem Xw {A B:aj} {i u:Nat} {xs:List Nat} [T1 c.P t] (hO:aZ N v n xs) (hH:H=A++(N++B)) (hg:Qi F g=some true) (hm:m.aO ns r) (hx:ev F x=some (.pointer (some (dK v i)))) (hy:ev F y=some (uv u))
  (hi:i<n) (h:∀ N',aZ N' v n (xs.set i u)→JO c Q m.spent r F (A++(N'++B))):JO c Q m (⟨none,.store t x y,ty,g,.seq,ns⟩::r) F H :=
 Q1o hO hH hg hm hx hy rfl rfl oq (fun N' h'=>h N' (by unfold aZ;rw[List.map_set];exact h'))
theorem Y0 (b n:Nat) (hn:n≤maxLen):aZ [(b,.cells (Zb #[(.int .u64 0)] (n*1)) 126)] (.slice (some ⟨b,0,none⟩) n n) n (tab n fun _=>0):=by
 have h:=aH.mk' (e:=126) (sz:=1) (n:=n) (b:=b) (cs:=Zb #[(.int .u64 0)] (n*1)) (by rw[iH];simp) hn
 rw[iH]at h ⊢
 have e:(Array.replicate (n*1) (.int .u64 0)).toList=(tab n fun _=>0).map uv:=by
  apply List.ext_getElem?
  intro i
  simp only[Array.toList_replicate,List.getElem?_map,List.getElem?_replicate,Nat.mul_one]
  by_cases hi:i<n
  ·rw[if_pos hi,Q03 hi];rfl
  ·rw[if_neg hi,List.getElem?_eq_none (by simp;omega)];rfl
 rw[e]at h
 exact h
theorem Qed {A B N2:aj} {v2:Value} {k:Nat} {xs ys:List Nat} [dh c.P t 126] [TE c.P 126 1 8 #[(.int .u64 0)]] (hO:aZ N v n xs) (h2:RdU c N2 v2 k ys) (eH:HSub N2 H) (hH:H=A++(N++B)) (hm:m.aO ns r) (hd:Qw c.n (some d)=true) (hg:Qi F g=some true) (hx:ev F x=some v) (hy:ev F y=some v2)
  (hb:n+k≤17000000000000) (h:∀ v' N',aZ N' v' (n+k) (xs++ys)→JO c Q m.spent r ((d,v')::F) (A++(N'++B))) :
  JO c Q m (⟨some d,.call ⟨.builtin .append,#[x,y],#[t,t]⟩,ty,g,.seq,ns⟩::r) F H :=
 X6 (e:=126) (sz:=1) (bytes:=8) (zc:=#[(.int .u64 0)]) (xs:=xs.map uv) (news:=ys.map uv) (n:=n) (mm:=k) rfl hO h2 eH hH hm hd hg hx hy (fun u hu=>by obtain⟨a,_,rfl⟩:=List.mem_map.1 hu;rfl) (by simp only[maxLen];omega) oq (fun v' N' h'=>h v' N' (by unfold aZ;rw[Vj];exact h'))
end

theorem YA (b n:Nat) (xs:List Nat) (vs:List Value) (hv:vs=xs.map uv) (hn:xs.length=n) (h:n≤1000):aZ [(b,.cells ⟨vs⟩ 126)] (.slice (some ⟨b,0,none⟩) n n) n xs:=by
 subst hv
 have:=aH.mk' (e:=126) (sz:=1) (n:=n) (b:=b) (cs:=⟨xs.map uv⟩) (by simp[hn]) (by simp only[maxLen];omega)
 exact this
def ZJ (xs:List Nat) (rest:List Value):Array Value:=⟨xs.map uv++rest⟩
theorem Q1n (xs:List Nat) (rest:List Value):(ZJ xs rest).size=xs.length+rest.length:=by simp[ZJ]
theorem aZ.named {N:aj} {v:Value} {n:Nat} {xs:List Nat} (h:aZ N v n xs) (hn:0<n):∃ b cap rest,v=.slice (some ⟨b,0,none⟩) n cap∧N=[(b,.cells (ZJ xs rest) 126 (0,0))]∧n≤cap∧rest.length=cap-n∧cap≤maxLen:=by
 obtain⟨hl,⟨rfl,rfl,rfl⟩|⟨b,cap,cur,rfl,rfl,h2,h3,h4,h5⟩⟩:=h
 ·omega
 ·refine⟨b,cap,cur.toList.drop n,rfl,?_,h2,by simp[h4],h3⟩
  have:cur=ZJ xs (cur.toList.drop n):=by
   apply Array.ext'
   show cur.toList=xs.map uv++cur.toList.drop n
   rw[Nat.mul_one]at h5
   rw[← h5,List.take_append_drop]
  rw[← this]
theorem Q2g {b cap n:Nat} {xs:List Nat} {rest:List Value} (hl:xs.length=n) (hn:n≤cap) (hr:rest.length=cap-n) (hc:cap≤maxLen):aZ [(b,.cells (ZJ xs rest) 126 (0,0))] (.slice (some ⟨b,0,none⟩) n cap) n xs:=by
 refine⟨by simp[hl],.inr ⟨b,cap,_,rfl,rfl,hn,hc,by rw[Q1n];omega,?_⟩⟩
 show (xs.map uv++rest).take (n*1)=xs.map uv
 rw[Nat.mul_one,List.take_append_of_le_length (by simp[hl])]
 exact Vd (by simp[hl])

def WY (w:World) (v:Value) (n:Nat) (xs:List Nat):Prop:=jc w 1 v n (xs.map yv)
def RdY (c:Cx) (N:aj) (v:Value) (n:Nat) (xs:List Nat):Prop:=Rd c N 1 v n (xs.map yv)
def dU (N:aj) (v:Value) (n:Nat) (xs:List Nat):Prop:=aH 5 1 N v n (xs.map yv)
theorem WY.len {w:World} {v:Value} {n:Nat} {xs:List Nat} (h:WY w v n xs):xs.length=n:=by simpa using h.1
theorem RdY.len {c:Cx} {N:aj} {v:Value} {n:Nat} {xs:List Nat} (h:RdY c N v n xs):xs.length=n:=by simpa using h.1
theorem dU.len {N:aj} {v:Value} {n:Nat} {xs:List Nat} (h:dU N v n xs):xs.length=n:=by simpa using h.1
theorem WY.mono {w w':World} {v:Value} {n:Nat} {xs:List Nat} (h:WY w v n xs) (hk:Kp [] w w'):WY w' v n xs:=jc.mono h hk
theorem WY.rd {c:Cx} {v:Value} {n:Nat} {xs:List Nat} (h:WY c.w0 v n xs) (hM:c.M=[]) (N:aj):RdY c N v n xs:=jc.rd h hM N
theorem RdY.at {c:Cx} {N H:aj} {w:World} {v:Value} {n:Nat} {xs:List Nat} (h:RdY c N v n xs) (hk:Kp c.M c.w0 w) (hs:aG H w) (hN:HSub N H):WY w v n xs:=Rd.at h hk hs hN
theorem dU.rd {c:Cx} {N:aj} {v:Value} {n:Nat} {xs:List Nat} (h:dU N v n xs):RdY c N v n xs:=aH.rd h
theorem dU.new {N:aj} {v:Value} {n:Nat} {xs:List Nat} {w w':World} (h:dU N v n xs) (hn:New N w w'):WY w' v n xs:=New.rd (c:=⟨Tryz.prog,0,w,[],by simp⟩) h hn
theorem dU.form {N:aj} {v:Value} {n:Nat} {xs:List Nat} (h:dU N v n xs):∃ A cap,v=.slice A n cap:=by
 obtain⟨_,⟨rfl,rfl,rfl⟩|⟨b,cap,cur,rfl,_⟩⟩:=h
 ·exact⟨_,_,rfl⟩
 ·exact⟨_,_,rfl⟩
theorem dU.nil:dU [] (.slice none 0 0) 0 []:=aH.nil _ 1
section
variable {c:Cx} {Q:Exit→Act→World→Prop} {m:Mode} {F:ak} {H:aj} {r:List bT} {g:Option (Option Tmp × Bool)} {ns:Bool} {d:Tmp} {ty t t':TypeId} {x y:Operand} {N:aj} {n:Nat} {v:Value}
theorem Q7j {e:TypeId} {xs:List Nat} {j:Nat} {k:IntKind} [dh c.P t e] [dS c.P e 1] (hd:Qw c.n (some d)=true:=by exact rfl) (hg:Qi F g=some true:=by exact rfl) (hx:ev F x=some v:=by exact rfl) (hy:ev F y=some (.int k j):=by exact rfl) (hv:RdY c N v n xs:=by(first|assumption|exact WY.rd (by assumption) rfl []|exact dU.rd (by assumption))) (hj:j<n:=by(first|assumption|omega))
  (h:JO c Q m r ((d,.pointer (some (dK v j)))::F) H):JO c Q m (⟨some d,.indexAddr t x y,ty,g,.bg,ns⟩::r) F H:=X5 hd hg hx hy hv hj h
theorem Qky {xs:List Nat} {i:Nat} [T1 c.P t] (hd:Qw c.n (some d)=true) (hg:Qi F g=some true) (hx:ev F x=some (.pointer (some (dK v i)))) (hl:m.live=true) (hv:RdY c N v n xs) (hN:HSub N (m.src H)) (hi:i<n)
  (h:JO c Q m r ((d,yv (xs.getD i 0))::F) H):JO c Q m (⟨some d,.load t x,ty,g,.ld,ns⟩::r) F H :=
 Q1q hd hg hx hl hv hN (by rw[List.getElem?_map,XB (d:=0) (by have:=hv.len;omega)];rfl) h
theorem Qnm {A B:aj} {i u:Nat} {xs:List Nat} [T1 c.P t] (hO:dU N v n xs) (hH:H=A++(N++B)) (hg:Qi F g=some true) (hm:m.aO ns r) (hx:ev F x=some (.pointer (some (dK v i)))) (hy:ev F y=some (yv u))
  (hi:i<n) (h:∀ N',dU N' v n (xs.set i u)→JO c Q m.spent r F (A++(N'++B))):JO c Q m (⟨none,.store t x y,ty,g,.seq,ns⟩::r) F H :=
 Q1o hO hH hg hm hx hy rfl rfl oq (fun N' h'=>h N' (by unfold dU;rw[List.map_set];exact h'))
theorem Qcc (b n:Nat) (hn:n≤maxLen):dU [(b,.cells (Zb #[(.int .u8 0)] (n*1)) 5)] (.slice (some ⟨b,0,none⟩) n n) n (tab n fun _=>0):=by
 have h:=aH.mk' (e:=5) (sz:=1) (n:=n) (b:=b) (cs:=Zb #[(.int .u8 0)] (n*1)) (by rw[iH];simp) hn
 rw[iH]at h ⊢
 have e:(Array.replicate (n*1) (.int .u8 0)).toList=(tab n fun _=>0).map yv:=by
  apply List.ext_getElem?
  intro i
  simp only[Array.toList_replicate,List.getElem?_map,List.getElem?_replicate,Nat.mul_one]
  by_cases hi:i<n
  ·rw[if_pos hi,Q03 hi];rfl
  ·rw[if_neg hi,List.getElem?_eq_none (by simp;omega)];rfl
 rw[e]at h
 exact h
theorem Xz {A B N2:aj} {v2:Value} {k:Nat} {xs ys:List Nat} [dh c.P t 5] [TE c.P 5 1 1 #[(.int .u8 0)]] (hO:dU N v n xs) (h2:RdY c N2 v2 k ys) (eH:HSub N2 H) (hH:H=A++(N++B)) (hm:m.aO ns r) (hd:Qw c.n (some d)=true) (hg:Qi F g=some true) (hx:ev F x=some v) (hy:ev F y=some v2)
  (hb:n+k≤66000000000000) (h:∀ v' N',dU N' v' (n+k) (xs++ys)→JO c Q m.spent r ((d,v')::F) (A++(N'++B))) :
  JO c Q m (⟨some d,.call ⟨.builtin .append,#[x,y],#[t,t]⟩,ty,g,.seq,ns⟩::r) F H :=
 X6 (e:=5) (sz:=1) (bytes:=1) (zc:=#[(.int .u8 0)]) (xs:=xs.map yv) (news:=ys.map yv) (n:=n) (mm:=k) rfl hO h2 eH hH hm hd hg hx hy (fun u hu=>by obtain⟨a,_,rfl⟩:=List.mem_map.1 hu;rfl) (by simp only[maxLen];omega) oq (fun v' N' h'=>h v' N' (by unfold dU;rw[Vj];exact h'))
end

theorem Xh (b n:Nat) (xs:List Nat) (vs:List Value) (hv:vs=xs.map yv) (hn:xs.length=n) (h:n≤1000):dU [(b,.cells ⟨vs⟩ 5)] (.slice (some ⟨b,0,none⟩) n n) n xs:=by
 subst hv
 have:=aH.mk' (e:=5) (sz:=1) (n:=n) (b:=b) (cs:=⟨xs.map yv⟩) (by simp[hn]) (by simp only[maxLen];omega)
 exact this
def ZR (xs:List Nat) (rest:List Value):Array Value:=⟨xs.map yv++rest⟩
theorem Q4z (xs:List Nat) (rest:List Value):(ZR xs rest).size=xs.length+rest.length:=by simp[ZR]

abbrev sv (l:List UInt8):Value:=.string ⟨l.toArray⟩
def bf (l:List UInt8):List Nat:=l.map UInt8.toNat
theorem Xt (l:List UInt8):(bf l).length=l.length:=by simp[bf]
theorem Q4g {l:List UInt8} {i:Nat}:(bf l).getD i 0<256:=by
 simp only[bf,List.getD,List.getElem?_map]
 cases l[i]? with
 | none=>decide
 | some b=>exact UInt8.toNat_lt b
theorem Q9f {a b:List UInt8} (h:bf a=bf b):a=b:=by
 unfold bf at h
 exact(List.map_inj_right (fun x y e=>UInt8.toNat.inj e)).1 h

class dL (P:Program) (t:TypeId):Prop where
 und:P.underlying t=some .string

theorem Xn (l:List UInt8):(ByteArray.mk l.toArray).size=l.length:=by simp[ByteArray.size]
theorem Wh (l:List UInt8):(ByteArray.mk l.toArray).toList=l:=by
 simp

section
variable {c:Cx} {Q:Exit→Act→World→Prop} {m:Mode} {F:ak} {H:aj} {r:List bT} {g:Option (Option Tmp × Bool)} {ns:Bool} {d:Tmp} {ty t t':TypeId} {x y:Operand} {l l':List UInt8}

theorem Zu [dL c.P t] (hd:Qw c.n (some d)=true:=by exact rfl) (hg:Qi F g=some true:=by exact rfl) (hx:ev F x=some (sv l):=by exact rfl)
  (h:JO c Q m r ((d,.int .i64 l.length)::F) H):JO c Q m (⟨some d,.call ⟨.builtin .len,#[x],#[t]⟩,ty,g,.bg,ns⟩::r) F H :=
 ZE hd hg (fun a w fr=>by
  simp[execOp,resolve,invoke,builtin,fr.ev hx,run_len_string w t ty _ (dL.und (P:=c.P)),goInt,Xn]) h

theorem YG {k:IntKind} {j:Nat} [dL c.P t] (hd:Qw c.n (some d)=true:=by exact rfl) (hg:Qi F g=some true:=by exact rfl) (hx:ev F x=some (sv l):=by exact rfl) (hy:ev F y=some (.int k j):=by exact rfl) (hj:j<l.length:=by(first|assumption|omega))
  (h:JO c Q m r ((d,yv ((bf l).getD j 0))::F) H):JO c Q m (⟨some d,.index t x y,ty,g,.bg,ns⟩::r) F H :=
 ZE hd hg (fun a w fr=>by
  have h1:(0:Int)≤j∧(j:Int)<(ByteArray.mk l.toArray).size:=by rw[Xn];omega
  have h2:(bf l).getD j 0=l[j].toNat:=by simp[bf,List.getD,hj]
  simp only[execOp,fr.ev hx,fr.ev hy,Sem.run_bind,run_index_string w t _ k j (dL.und (P:=c.P)),h1,and_self,dite_true,Result.andThen_ok,Sem.run_pure,h2]
  rfl) h

theorem Qea [dL c.P t] (hd:Qw c.n (some d)=true:=by exact rfl) (hg:Qi F g=some true:=by exact rfl) (hx:ev F x=some (sv l):=by exact rfl) (hy:ev F y=some (sv l'):=by exact rfl) (h:JO c Q m r ((d,.bool (decide (l=l')))::F) H) :
  JO c Q m (⟨some d,.binOp .eql t x y t',ty,g,.bg,ns⟩::r) F H :=
 ZE hd hg (fun a w fr=>by
  simp[execOp,fr.ev hx,fr.ev hy,eqGuard,binOp_string_eql,Wh]
  by_cases h:l=l'<;>simp[h]) h
theorem Ya [dL c.P t] (hd:Qw c.n (some d)=true:=by exact rfl) (hg:Qi F g=some true:=by exact rfl) (hx:ev F x=some (sv l):=by exact rfl) (hy:ev F y=some (sv l'):=by exact rfl) (h:JO c Q m r ((d,.bool (decide (l≠l')))::F) H) :
  JO c Q m (⟨some d,.binOp .neq t x y t',ty,g,.bg,ns⟩::r) F H :=
 ZE hd hg (fun a w fr=>by
  simp[execOp,fr.ev hx,fr.ev hy,eqGuard,binOp_string_neq,Wh]
  by_cases h:l=l'<;>simp[h]) h
theorem WS [dL c.P t] (hd:Qw c.n (some d)=true:=by exact rfl) (hg:Qi F g=some true:=by exact rfl) (hx:ev F x=some (sv l):=by exact rfl) (hy:ev F y=some (sv l'):=by exact rfl) (hb:l.length+l'.length≤9223372036854775807:=by(first|assumption|omega)) (h:JO c Q m r ((d,sv (l++l'))::F) H) :
  JO c Q m (⟨some d,.binOp .add t x y t',ty,g,.bg,ns⟩::r) F H :=
 ZE hd hg (fun a w fr=>by
  simp only[execOp,fr.ev hx,fr.ev hy,eqGuard,binOp_string_add,Sem.run_bind,Sem.run_pure,Result.andThen_ok,Bool.not_false,if_true]
  rw[run_string_add_sum w _ _ (by simp only[Xn];omega),ByteArray.mk_append_mk]
  rfl) h
theorem Ql0 {k:IntKind} {i:Nat} {lo:Operand} [dL c.P t] (hd:Qw c.n (some d)=true) (hg:Qi F g=some true) (hx:ev F x=some (sv l)) (hy:ev F lo=some (.int k i)) (hi:i≤l.length)
  (h:JO c Q m r ((d,sv (l.drop i))::F) H):JO c Q m (⟨some d,.slice t x (some lo) none none,ty,g,.bg,ns⟩::r) F H :=
 ZE hd hg (fun a w fr=>by
  have h1:(0:Int)≤i:=by omega
  have h2:(i:Int)≤(l.length:Int):=by omega
  simp only[execOp,fr.ev hx,Option.map_some,Option.map_none,fr.ev hy,Sem.run_bind,run_sliceAt_string w t _ _ _ _ (dL.und (P:=c.P)),run_slice_string_from_if w t _ k i (dL.und (P:=c.P)),h1,Xn,h2,and_self,if_true,Result.andThen_ok,Sem.run_pure,Int.toNat_natCast,ByteArray.extract_mk]
  try rw[Vd aA]) h
theorem Qnk {k:IntKind} {j:Nat} {hi:Operand} [dL c.P t] (hd:Qw c.n (some d)=true) (hg:Qi F g=some true) (hx:ev F x=some (sv l)) (hy:ev F hi=some (.int k j)) (hj:j≤l.length)
  (h:JO c Q m r ((d,sv (l.take j))::F) H):JO c Q m (⟨some d,.slice t x none (some hi) none,ty,g,.bg,ns⟩::r) F H :=
 ZE hd hg (fun a w fr=>by
  have h1:(0:Int)≤j:=by omega
  have h2:(j:Int)≤(l.length:Int):=by omega
  simp only[execOp,fr.ev hx,Option.map_some,Option.map_none,fr.ev hy,Sem.run_bind,run_sliceAt_string w t _ _ _ _ (dL.und (P:=c.P)),run_slice_string_to_if w t _ k j (dL.und (P:=c.P)),h1,Xn,h2,and_self,if_true,Result.andThen_ok,Sem.run_pure,Int.toNat_natCast,ByteArray.extract_mk,List.drop_zero,Nat.sub_zero]) h
end

section
variable {c:Cx} {Q:Exit→Act→World→Prop} {m:Mode} {F:ak} {H:aj} {r:List bT} {g:Option (Option Tmp × Bool)} {ns:Bool} {d:Tmp} {ty t t':TypeId} {x y:Operand}

theorem Qgc {xs:List Nat} (h:∀ u∈xs,u<256):bf (xs.map UInt8.ofNat)=xs:=by
 unfold bf
 rw[List.map_map]
 conv=>rhs;rw[← List.map_id xs]
 refine List.map_congr_left fun u hu=>?_
 have:=h u hu
 simp[Function.comp]
 omega

theorem Q4k {P:Program} (w:World) (src dst e:TypeId) (cap:Nat) (hs:P.underlying src=some (.slice e)) (he:P.underlying e=some (.int .u8)) (hd:P.underlying dst=some .string) :
  (convert src dst (.slice none 0 cap)).run P w=.ok (sv []) w:=by
 rw[run_convert_bytes_string w src dst e none 0 cap hs he hd]
 simp[Conv.bytesToString]
 rfl

theorem Q09 {N:aj} {v:Value} {n:Nat} {xs:List Nat} {e:TypeId} [dh c.P t e] [TI c.P e .u8] [dL c.P t'] (hxs:∀ u∈xs,u<256) (hv:RdY c N v n xs) (hN:HSub N H) (hm:m.dR ns r) (hd:Qw c.n (some d)=true) (hg:Qi F g=some true) (hx:ev F x=some v)
  (h:∀ l,bf l=xs→JO c Q m r ((d,sv l)::F) H):JO c Q m (⟨some d,.convert t t' x,ty,g,.seq,ns⟩::r) F H:=by
 refine Qnp (v:=sv (xs.map UInt8.ofNat)) hm hd hg (fun a w fr hs=>?_) (h _ (Qgc hxs))
 have hlen:=hv.len
 obtain⟨_,A,cap,rfl,_,hrd⟩:=hv
 rcases Nat.eq_zero_or_pos n with h0|h0
 ·subst h0
  have hx0:xs=[]:=List.eq_nil_of_length_eq_zero hlen
  subst hx0
  cases A with
  | none =>
   simp only[execOp,fr.ev hx,Sem.run_bind,Q4k w t t' e cap dh.und TI.und dL.und,Result.andThen_ok,Sem.run_pure]
   rfl
  | some ad =>
   have h1:=run_convert_bytes_back (P:=c.P) w t t' e ad cap [] dh.und TI.und dL.und (fun j hj=>by simp at hj)
   simp only[List.length_nil]at h1
   simp only[execOp,fr.ev hx,Sem.run_bind,h1,Result.andThen_ok,Sem.run_pure]
   rfl
 ·obtain⟨⟨b,o,rfl⟩,hcell⟩:=hrd h0
  have h1:=run_convert_bytes_back (P:=c.P) w t t' e ⟨b,o,none⟩ cap (xs.map UInt8.ofNat) dh.und TI.und dL.und (fun j hj=>by
   have hj':j<xs.length:=by simpa using hj
   have h2:=hcell w ⟨hs.1,hN.aV hs.2⟩ j (yv xs[j]) (by simp[hj'])
   rw[ZD]
   have h3:=hxs xs[j] (List.getElem_mem hj')
   simp only[dK]at h2
   rw[h2]
   simp only[List.getElem_map]
   congr 2
   simp
   omega)
  have h4:(xs.map UInt8.ofNat).length=n:=by simpa using hlen
  rw[h4]at h1
  simp only[execOp,fr.ev hx,Sem.run_bind,h1,Result.andThen_ok,Sem.run_pure]
end


def nrm (l:List Nat):List Nat:=match l with
 | []=>[]
 | x::r=>match nrm r with
  | []=>if x=0 then [] else [x]
  | y::s=>x::y::s

theorem Q3y (l:List Nat):nrm (l++[0])=nrm l:=by
 induction l with
 | nil=>rfl
 | cons x r ih=>simp only[Vg,nrm,ih]
theorem Qam (l:List Nat) {x:Nat} (hx:x≠0):nrm (l++[x])=l++[x]:=by
 induction l with
 | nil=>simp[nrm,hx]
 | cons y r ih =>
  rw[Vg,nrm,ih]
  cases r<;>rfl

def val (b:Nat):List Nat→Nat
 | []=>0
 | x::r=>x+b*val b r
theorem Zo (b:Nat) (l:List Nat):val b (nrm l)=val b l:=by
 induction l with
 | nil=>rfl
 | cons x r ih =>
  rw[nrm,val]
  cases h:nrm r with
  | nil =>
   rw[h]at ih
   have:val b r=0:=ih.symm
   rw[this]
   by_cases hx:x=0
   ·simp[hx,val]
   ·simp[hx,val]
  | cons y s=>rw[h]at ih;simp only[val]at ih ⊢;rw[← ih]
theorem YX (b:Nat) (l r:List Nat):val b (l++r)=val b l+b ^ l.length*val b r:=by
 induction l with
 | nil=>simp[val]
 | cons x l ih =>
  simp only[Vg,val,ih,List.length_cons,V9,Vm]
  rw[Va (b ^ l.length) b,Vk]
  omega


section
variable {c:Cx} {Q:Exit→Act→World→Prop} {m:Mode} {F:ak} {H:aj} {r:List bT} {g:Option (Option Tmp × Bool)} {ns:Bool} {d:Tmp} {ty t t':TypeId} {x y:Operand}
theorem Q7k {e:TypeId} {sz b o len cap j:Nat} {hi:Operand} [dh c.P t e] [dS c.P e sz] (hd:Qw c.n (some d)=true) (hg:Qi F g=some true) (hx:ev F x=some (.slice (some ⟨b,o,none⟩) len cap)) (hhi:ev F hi=some (nv j)) (hj:j≤len) (hlc:len≤cap)
  (h:JO c Q m r ((d,(.slice (some ⟨b,o,none⟩) j cap))::F) H):JO c Q m (⟨some d,.slice t x none (some hi) none,ty,g,.bg,ns⟩::r) F H :=
 ZE hd hg (fun a w fr=>by
  have e2:(0:Int)≤j∧(j:Int)≤cap:=by omega
  have e3:(if cap=0 then some (⟨b,o,none⟩:Addr) else some ((⟨b,o,none⟩:Addr).add (0*sz)))=some ⟨b,o,none⟩:=by
   split
   ·rfl
   ·simp[ZD]
  simp only[execOp,fr.ev hx,Option.map_some,fr.ev hhi,Option.map_none,Instr.sliceAt,Sem.run_bind,run_underlying (dh.und (P:=c.P) (t:=t)),Result.andThen_ok,Instr.slice,Instr.sliceBounds,
   Instr.sliceBound,asIntOf,Sem.run_pure,e2,and_self,if_true,Int.toNat_natCast,dS.size (e:=e) (n:=sz),if_false,Nat.sub_zero,e3]) h
end

theorem Q2v {xs:List Nat} {k:Nat} (hk:k≤xs.length) (h:∀ i,k≤i→i<xs.length→xs.getD i 0=0) (h0:0<k→xs.getD (k-1) 0≠0):nrm xs=xs.take k:=by
 have key:∀ d,k+d≤xs.length→nrm (xs.take (k+d))=xs.take k:=fun d=>by
  induction d with
  | zero =>
   intro _
   rcases Nat.eq_zero_or_pos k with h1|h1
   ·subst h1;rfl
   ·have e:xs.take k=xs.take (k-1)++[xs.getD (k-1) 0]:=by
     have h2:xs[k-1]?=some (xs.getD (k-1) 0):=XB (d:=0) oq
     have h3:=List.take_add_one (l:=xs) (i:=k-1)
     rw[show k-1+1=k by omega,h2]at h3
     exact h3
    rw[Vp,e]
    exact Qam _ (h0 h1)
  | succ d ih =>
   intro hd
   have e:xs.take (k+(d+1))=xs.take (k+d)++[0]:=by
    have h2:xs[k+d]?=some 0:=by rw[XB (d:=0) oq,h (k+d) oq oq]
    rw[← Nat.add_assoc,List.take_add_one,h2];rfl
   rw[e,Q3y]
   exact ih oq
 have:=key (xs.length-k) oq
 rw[show k+(xs.length-k)=xs.length by omega,List.take_length]at this
 exact this

theorem YR (w:World) (A:Option Addr) (n cap:Nat) (xs:List Nat) (hv:WU w (.slice A n cap) n xs) (hn:n≤17000000000000) :
  Calls Tryz.prog 138 #[.slice A n cap] w (aQ fun v w'=>Kp [] w w'∧∃ k,k≤n∧v=.slice A k cap∧nrm xs=xs.take k):=by
 have hlen:=hv.len
 refine Qa [] [] aA [] Tryz.func138 rfl mixed (by kernel_rfl) Tryz.ntmps138 Tryz.results138 rfl ⟨by simp,by simp⟩ aA ?_
 simp only[toS,Qe,Qx,Qo,Qr,ay,Ql,Qy,aB]
 repeat' first|apply jS|apply jO|apply jN|apply jT|refine Q0 ?_|apply jB
 refine Qn (ι:=Nat) ⟨fun k=>[(0,.slice A k cap)],fun _=>[],fun k=>k≤n∧∀ i,k≤i→i<n→xs.getD i 0=0,fun k=>k⟩ n ⟨V7 _,fun i a b=>by omega⟩ aC QE (fun k hk=>?_)
 obtain⟨hkn,hz⟩:=hk
 dsimp only at hkn hz ⊢
 have hrow:WU w (.slice A k cap) k (xs.take k):=by
  obtain⟨h1,A',cap',h2,h3,h4⟩:=hv
  simp only[Value.slice.injEq]at h2
  obtain⟨rfl,_,rfl⟩:=h2
  refine⟨by simp;omega,A,cap,rfl,by omega,fun h0=>⟨(h4 oq).1,fun j u hu=>?_⟩⟩
  obtain⟨⟨b,o,rfl⟩,h5⟩:=h4 oq
  refine h5 j u ?_
  rw[List.map_take,List.getElem?_take]at hu
  split at hu
  ·exact hu
  ·cases hu
 have hcap:k≤cap:=by
  obtain⟨_,_,_,h2,h3,_⟩:=hrow
  simp only[Value.slice.injEq]at h2
  obtain⟨_,_,rfl⟩:=h2
  exact h3
 have hget:0<k→(xs.take k).getD (k-1) 0=xs.getD (k-1) 0:=fun h=>by
  simp only[List.getD,List.getElem?_take,if_pos (show k-1<k by omega)]
 by_cases hk0:0<k
 ·have hg:=hget hk0
  have hA:∃ b o,A=some ⟨b,o,none⟩:=by
   obtain⟨_,_,_,h2,_,h4⟩:=hrow
   simp only[Value.slice.injEq]at h2
   obtain⟨rfl,_,rfl⟩:=h2
   exact(h4 hk0).1
  by_cases hx0:xs.getD (k-1) 0=0
  ·repeat' first|apply jS|apply jO|apply jN|apply jT|refine Q1 ?_|refine ZC (h:=?_)|refine Yf (h:=?_)|refine Qp ?_|refine Zd (h:=?_)|refine Yr (h:=?_)|(refine QU (h1:=?_) (h2:=?_)<;>intro hc<;>try omega)|(refine Zm (h1:=?_) (h2:=?_)<;>intro hc<;>try omega)|apply jK|refine Q5 rfl ?_|apply jB
   obtain⟨b,o,rfl⟩:=hA
   refine Q7k rfl rfl rfl rfl oq hcap ?_
   repeat' first|apply jN|refine Q0 ?_|apply jW
   exact Q8 (k-1) ⟨by omega,fun i a b=>by
    by_cases e:i=k-1
    ·subst e;exact hx0
    ·exact hz i oq b⟩ aW aC QE
  ·repeat' first|apply jS|apply jO|apply jN|apply jT|refine Q1 ?_|refine Q0 ?_|refine ZC (h:=?_)|refine Yf (h:=?_)|refine Qp ?_|refine Zd (h:=?_)|refine Yr (h:=?_)|(refine QU (h1:=?_) (h2:=?_)<;>intro hc<;>try omega)|(refine Zm (h1:=?_) (h2:=?_)<;>intro hc<;>try omega)|apply jU|apply jE|apply jR|refine Q4 rfl ?_|apply Qc
   exact Qj rfl (fun a w' st=>⟨st.kp,k,hkn,rfl,Q2v oq (fun i a b=>hz i a oq) (fun _=>hx0)⟩)
 ·repeat' first|apply jS|apply jO|apply jN|apply jT|refine Q1 ?_|refine Q0 ?_|refine ZC (h:=?_)|refine Qq ?_|(refine QU (h1:=?_) (h2:=?_)<;>intro hc<;>try omega)|apply jU|apply jE|refine Q4 rfl ?_|apply Qc|refine QA ?_|apply jR
  exact Qj rfl (fun a w' st=>⟨st.kp,k,hkn,rfl,Q2v oq (fun i a b=>hz i a oq) (fun h=>absurd h hk0)⟩)

theorem Q01 (w:World) (A:Option Addr) (n cap:Nat) (xs:List Nat) (hv:WN w (.slice A n cap) n xs) (hn:n≤17000000000000) :
  Calls Tryz.prog 146 #[.slice A n cap] w (aQ fun v w'=>Kp [] w w'∧∃ k,k≤n∧v=.slice A k cap∧nrm xs=xs.take k):=by
 have hlen:=hv.len
 refine Qa [] [] aA [] Tryz.func146 rfl mixed (by kernel_rfl) Tryz.ntmps146 Tryz.results146 rfl ⟨by simp,by simp⟩ aA ?_
 simp only[toS,Qe,Qx,Qo,Qr,ay,Ql,Qy,aB]
 repeat' first|apply jS|apply jO|apply jN|apply jT|refine Q0 ?_|apply jB
 refine Qn (ι:=Nat) ⟨fun k=>[(0,.slice A k cap)],fun _=>[],fun k=>k≤n∧∀ i,k≤i→i<n→xs.getD i 0=0,fun k=>k⟩ n ⟨V7 _,fun i a b=>by omega⟩ aC QE (fun k hk=>?_)
 obtain⟨hkn,hz⟩:=hk
 dsimp only at hkn hz ⊢
 have hrow:WN w (.slice A k cap) k (xs.take k):=by
  obtain⟨h1,A',cap',h2,h3,h4⟩:=hv
  simp only[Value.slice.injEq]at h2
  obtain⟨rfl,_,rfl⟩:=h2
  refine⟨by simp;omega,A,cap,rfl,by omega,fun h0=>⟨(h4 oq).1,fun j u hu=>?_⟩⟩
  obtain⟨⟨b,o,rfl⟩,h5⟩:=h4 oq
  refine h5 j u ?_
  rw[List.map_take,List.getElem?_take]at hu
  split at hu
  ·exact hu
  ·cases hu
 have hcap:k≤cap:=by
  obtain⟨_,_,_,h2,h3,_⟩:=hrow
  simp only[Value.slice.injEq]at h2
  obtain⟨_,_,rfl⟩:=h2
  exact h3
 have hget:0<k→(xs.take k).getD (k-1) 0=xs.getD (k-1) 0:=fun h=>by
  simp only[List.getD,List.getElem?_take,if_pos (show k-1<k by omega)]
 by_cases hk0:0<k
 ·have hg:=hget hk0
  have hA:∃ b o,A=some ⟨b,o,none⟩:=by
   obtain⟨_,_,_,h2,_,h4⟩:=hrow
   simp only[Value.slice.injEq]at h2
   obtain⟨rfl,_,rfl⟩:=h2
   exact(h4 hk0).1
  by_cases hx0:xs.getD (k-1) 0=0
  ·repeat' first|apply jS|apply jO|apply jN|apply jT|refine Q1 ?_|refine ZT (h:=?_)|refine Xp (h:=?_)|refine ZC (h:=?_)|refine Yf (h:=?_)|refine Qp ?_|(refine QU (h1:=?_) (h2:=?_)<;>intro hc<;>try omega)|(refine Zm (h1:=?_) (h2:=?_)<;>intro hc<;>try omega)|apply jK|refine Q5 rfl ?_|apply jB
   obtain⟨b,o,rfl⟩:=hA
   refine Q7k rfl rfl rfl rfl oq hcap ?_
   repeat' first|apply jN|refine Q0 ?_|apply jW
   exact Q8 (k-1) ⟨by omega,fun i a b=>by
    by_cases e:i=k-1
    ·subst e;exact hx0
    ·exact hz i oq b⟩ aW aC QE
  ·repeat' first|apply jS|apply jO|apply jN|apply jT|refine Q1 ?_|refine Q0 ?_|refine ZT (h:=?_)|refine Xp (h:=?_)|refine ZC (h:=?_)|refine Yf (h:=?_)|refine Qp ?_|(refine QU (h1:=?_) (h2:=?_)<;>intro hc<;>try omega)|(refine Zm (h1:=?_) (h2:=?_)<;>intro hc<;>try omega)|apply jU|apply jE|apply jR|refine Q4 rfl ?_|apply Qc
   exact Qj rfl (fun a w' st=>⟨st.kp,k,hkn,rfl,Q2v oq (fun i a b=>hz i a oq) (fun _=>hx0)⟩)
 ·repeat' first|apply jS|apply jO|apply jN|apply jT|refine Q1 ?_|refine Q0 ?_|refine ZC (h:=?_)|refine Qq ?_|(refine QU (h1:=?_) (h2:=?_)<;>intro hc<;>try omega)|apply jU|apply jE|refine Q4 rfl ?_|apply Qc|refine QA ?_|apply jR
  exact Qj rfl (fun a w' st=>⟨st.kp,k,hkn,rfl,Q2v oq (fun i a b=>hz i a oq) (fun h=>absurd h hk0)⟩)


structure dA (b:Nat) (l:List Nat):Prop where
 lt:∀ x∈l,x<b
 nrm:nrm l=l

theorem Q64 {x:Nat} {l:List Nat} (h:nrm (x::l)=x::l):nrm l=l:=by
 rw[nrm]at h
 cases hn:nrm l with
 | nil =>
  rw[hn]at h
  by_cases hx:x=0
  ·rw[if_pos hx]at h;cases h
  ·rw[if_neg hx]at h;simpa using h
 | cons y s =>
  rw[hn]at h
  simpa using h
theorem Xq {l:List Nat}:∀ x∈nrm l,x∈l:=by
 induction l with
 | nil=>intro x h;exact h
 | cons y r ih =>
  intro x h
  rw[nrm]at h
  cases hn:nrm r with
  | nil =>
   rw[hn]at h
   by_cases hy:y=0
   ·rw[if_pos hy]at h;cases h
   ·rw[if_neg hy]at h;simp at h;simp[h]
  | cons z s =>
   rw[hn]at h
   rcases List.mem_cons.1 h with rfl|h
   ·simp
   ·exact Vc _ (ih x (by rw[hn];exact h))
theorem Qep (l:List Nat):nrm (nrm l)=nrm l:=by
 induction l with
 | nil=>rfl
 | cons x r ih =>
  rw[nrm]
  cases hn:nrm r with
  | nil =>
   by_cases hx:x=0
   ·simp[hx,nrm]
   ·simp[hx,nrm]
  | cons y s =>
   rw[hn]at ih
   show nrm (x::y::s)=x::y::s
   rw[nrm,ih]
theorem dA.of {b:Nat} {l:List Nat} (h:∀ x∈l,x<b):dA b (Go.Proofs.YtbofgpenopcfaaaGreatDoor.nrm l):=⟨fun x hx=>h x (Xq x hx),Qep l⟩
theorem dA.tail {b x:Nat} {l:List Nat} (h:dA b (x::l)):dA b l:=⟨fun y hy=>h.lt y (Vc _ hy),Q64 h.nrm⟩
theorem dA.nil (b:Nat):dA b []:=⟨fun x h=>(by cases h),rfl⟩

theorem Q3a {b:Nat} (hb:0<b):∀ {l:List Nat},Go.Proofs.YtbofgpenopcfaaaGreatDoor.nrm l=l→l≠[]→0<val b l
 | [],_,h=>absurd rfl h
 | x :: l, h, _ => by
  rw[val]
  by_cases hl:l=[]
  ·subst hl
   have hx:x≠0:=fun e=>by subst e;simp[Go.Proofs.YtbofgpenopcfaaaGreatDoor.nrm]at h
   omega
  ·have:=Nat.mul_pos hb (Q3a hb (Q64 h) hl)
   omega

theorem dA.inj {b:Nat}:∀ {l r:List Nat},dA b l→dA b r→val b l=val b r→l=r
 | [],[],_,_,_=>rfl
 | [],y::r,_,hr,h=>by
  have hb:0<b:=V5 (V8 _) (hr.lt y aA)
  have:=Q3a hb hr.nrm aA
  rw[← h]at this
  exact absurd this (Nat.lt_irrefl 0)
 | x::l,[],hl,_,h=>by
  have hb:0<b:=V5 (V8 _) (hl.lt x aA)
  have:=Q3a hb hl.nrm aA
  rw[h]at this
  exact absurd this (Nat.lt_irrefl 0)
 | x :: l, y :: r, hl, hr, h => by
  have hx:=hl.lt x aA
  have hy:=hr.lt y aA
  rw[val,val]at h
  have h1:x=y:=by
   have:=congrArg (· % b) h
   simpa [Nat.add_mul_mod_self_left,Nat.mod_eq_of_lt hx,Nat.mod_eq_of_lt hy] using this
  have h2:val b l=val b r:=by
   have:=congrArg (· / b) h
   have hb:0<b:=by omega
   simpa [Nat.add_mul_div_left _ _ hb,Nat.div_eq_of_lt hx,Nat.div_eq_of_lt hy] using this
  rw[h1,dA.inj hl.tail hr.tail h2]

theorem Yi {b:Nat}:∀ {l:List Nat},(∀ x∈l,x<b)→val b l<b ^ l.length
 | [],_=>by simp[val]
 | x::l,h=>by
  have h1:=h x aA
  have h2:=Yi (l:=l) fun y hy=>h y (Vc _ hy)
  rw[val,List.length_cons,V9,Va (b ^ l.length) b]
  have h3:b*(val b l+1)≤b*b ^ l.length:=V3 _ h2
  rw[Vm]at h3
  omega
theorem Q4r {b:Nat} (hb:0<b) {l:List Nat} (h:Go.Proofs.YtbofgpenopcfaaaGreatDoor.nrm l=l) (hl:l≠[]):b ^ (l.length-1)≤val b l:=by
 induction l with
 | nil=>exact absurd rfl hl
 | cons x l ih =>
  by_cases h0:l=[]
  ·subst h0
   have:=Q3a hb h aA
   show b ^ 0≤_
   rw[Nat.pow_zero];exact this
  ·have h1:=ih (Q64 h) h0
   have hp:0<l.length:=List.length_pos_iff.2 h0
   rw[val,List.length_cons,Nat.add_sub_cancel]
   have h2:b ^ l.length=b*b ^ (l.length-1):=by
    conv=>lhs;rw[show l.length=l.length-1+1 by omega,V9,Va]
   rw[h2]
   have:=V3 b h1
   omega


abbrev W32:Nat:=4294967296

theorem QJ {b:Nat} (l:List Nat) (i:Nat):val b (l.take (i+1))=val b (l.take i)+b ^ i*l.getD i 0:=by
 rw[List.take_add_one]
 by_cases h:i<l.length
 ·rw[XB (d:=0) h,YX]
  simp only[Option.toList_some,val,Nat.mul_zero,Vp,List.length_take,Nat.min_eq_left (Nat.le_of_lt h)]
 ·rw[List.getElem?_eq_none oq]
  simp[List.getD,List.getElem?_eq_none (show l.length≤i by omega)]
theorem Xd {l:List Nat} {i u:Nat}:(l.set i u).take i=l.take i:=by
 rw[List.take_set_of_le (V7 _)]
theorem QP {l:List Nat} {i u:Nat} (h:i<l.length):(l.set i u).getD i 0=u:=by
 simp[List.getD,h]
theorem QD {b:Nat} (hb:0<b) {l:List Nat} (h:∀ x∈l,x<b) (i:Nat):l.getD i 0<b:=by
 by_cases hi:i<l.length
 ·exact h _ (QV hi)
 ·simp only[List.getD,List.getElem?_eq_none (show l.length≤i by omega),Option.getD_none];exact hb

end Go.Proofs.YtbofgpenopcfaaaGreatDoor

