import Derived.Test.YtdehklhdjbkneaaDoorMa
import Derived.Test.YtdehklhdjbkneaaDoorProg
import Derived.KernelRfl
import Derived.Laws.AppendOwn
import Derived.Laws.Cover3
import Derived.Laws.CopyRow
import Derived.Laws.Bits64b
import Derived.Laws.Strings
import Derived.Laws.Strings2
import Derived.Laws.Strings3
import Derived.Laws.Concat
import Derived.Laws.Slices
import Derived.Laws.IdiomStrings
/- Instances: the types, the fields and the functions of this translation, by their numbers. Made by program (genT.py). -/
namespace Go.Proofs.YtdehklhdjbkneaaDoor
open Go
set_option linter.unusedSimpArgs false
set_option linter.unusedVariables false

instance : T1 Tryd.prog 0 := T1.mk' Tryd.underlying0 rfl (by kernel_rfl)
instance : T1 Tryd.prog 1 := T1.mk' Tryd.underlying1 rfl (by kernel_rfl)
instance : TZ0 Tryd.prog 1 (#[.nilFunc]) := TZ0.mk' (z := .nilFunc) (by kernel_rfl)
instance : TE Tryd.prog 1 1 8 (#[.nilFunc]) := TE.mk' (z := .nilFunc) (by kernel_rfl)
instance : TSz Tryd.prog 1 1 := TSz.mk' (by kernel_rfl)
instance : T1 Tryd.prog 2 := T1.mk' Tryd.underlying2 rfl (by kernel_rfl)
instance : TZ0 Tryd.prog 2 (#[.int .i64 0]) := TZ0.mk' (z := .int .i64 0) (by kernel_rfl)
instance : TE Tryd.prog 2 1 8 (#[.int .i64 0]) := TE.mk' (z := .int .i64 0) (by kernel_rfl)
instance : TSz Tryd.prog 2 1 := TSz.mk' (by kernel_rfl)
instance : T1 Tryd.prog 3 := T1.mk' Tryd.underlying3 rfl (by kernel_rfl)
instance : TZ0 Tryd.prog 3 (#[.int .i64 0]) := TZ0.mk' (z := .int .i64 0) (by kernel_rfl)
instance : TE Tryd.prog 3 1 8 (#[.int .i64 0]) := TE.mk' (z := .int .i64 0) (by kernel_rfl)
instance : TSz Tryd.prog 3 1 := TSz.mk' (by kernel_rfl)
instance : T1 Tryd.prog 4 := T1.mk' Tryd.underlying4 rfl (by kernel_rfl)
instance : TZ0 Tryd.prog 4 (#[.bool false]) := TZ0.mk' (z := .bool false) (by kernel_rfl)
instance : TE Tryd.prog 4 1 1 (#[.bool false]) := TE.mk' (z := .bool false) (by kernel_rfl)
instance : TSz Tryd.prog 4 1 := TSz.mk' (by kernel_rfl)
instance : TB Tryd.prog 4 := ⟨Tryd.underlying4⟩
instance : T1 Tryd.prog 5 := T1.mk' Tryd.underlying5 rfl (by kernel_rfl)
instance : TZ0 Tryd.prog 5 (#[.int .u8 0]) := TZ0.mk' (z := .int .u8 0) (by kernel_rfl)
instance : TE Tryd.prog 5 1 1 (#[.int .u8 0]) := TE.mk' (z := .int .u8 0) (by kernel_rfl)
instance : TSz Tryd.prog 5 1 := TSz.mk' (by kernel_rfl)
instance : T1 Tryd.prog 6 := T1.mk' Tryd.underlying6 rfl (by kernel_rfl)
instance : TZ0 Tryd.prog 6 (#[.int .u8 0]) := TZ0.mk' (z := .int .u8 0) (by kernel_rfl)
instance : TE Tryd.prog 6 1 1 (#[.int .u8 0]) := TE.mk' (z := .int .u8 0) (by kernel_rfl)
instance : TSz Tryd.prog 6 1 := TSz.mk' (by kernel_rfl)
instance : TN Tryd.prog 7 4 := TN.mk' Tryd.underlying7 rfl (by kernel_rfl)
instance : TSt Tryd.prog 7 (#[.int .i64 0, .int .i64 0, .bool false, .int .u8 0]) #[(0, 1), (1, 1), (2, 1), (3, 1)] := TSt.mk' (z := .agg #[.int .i64 0, .int .i64 0, .bool false, .int .u8 0]) Tryd.underlying7 (by kernel_rfl) (by kernel_rfl)
instance : TZ0 Tryd.prog 7 (#[.int .i64 0, .int .i64 0, .bool false, .int .u8 0]) := TZ0.mk' (z := .agg #[.int .i64 0, .int .i64 0, .bool false, .int .u8 0]) (by kernel_rfl)
instance : TE Tryd.prog 7 4 24 (#[.int .i64 0, .int .i64 0, .bool false, .int .u8 0]) := TE.mk' (z := .agg #[.int .i64 0, .int .i64 0, .bool false, .int .u8 0]) (by kernel_rfl)
instance : TSz Tryd.prog 7 4 := TSz.mk' (by kernel_rfl)
instance : FA Tryd.prog 7 0 0 := FA.mk' (f := 0) Tryd.underlying7 rfl (by kernel_rfl)
instance : FA Tryd.prog 7 1 1 := FA.mk' (f := 1) Tryd.underlying7 rfl (by kernel_rfl)
instance : FA Tryd.prog 7 2 2 := FA.mk' (f := 2) Tryd.underlying7 rfl (by kernel_rfl)
instance : FA Tryd.prog 7 3 3 := FA.mk' (f := 3) Tryd.underlying7 rfl (by kernel_rfl)
instance : TN Tryd.prog 8 4 := TN.mk' Tryd.underlying8 rfl (by kernel_rfl)
instance : TSt Tryd.prog 8 (#[.int .i64 0, .int .i64 0, .bool false, .int .u8 0]) #[(0, 1), (1, 1), (2, 1), (3, 1)] := TSt.mk' (z := .agg #[.int .i64 0, .int .i64 0, .bool false, .int .u8 0]) Tryd.underlying8 (by kernel_rfl) (by kernel_rfl)
instance : TZ0 Tryd.prog 8 (#[.int .i64 0, .int .i64 0, .bool false, .int .u8 0]) := TZ0.mk' (z := .agg #[.int .i64 0, .int .i64 0, .bool false, .int .u8 0]) (by kernel_rfl)
instance : TE Tryd.prog 8 4 24 (#[.int .i64 0, .int .i64 0, .bool false, .int .u8 0]) := TE.mk' (z := .agg #[.int .i64 0, .int .i64 0, .bool false, .int .u8 0]) (by kernel_rfl)
instance : TSz Tryd.prog 8 4 := TSz.mk' (by kernel_rfl)
instance : FA Tryd.prog 8 0 0 := FA.mk' (f := 0) Tryd.underlying8 rfl (by kernel_rfl)
instance : FA Tryd.prog 8 1 1 := FA.mk' (f := 1) Tryd.underlying8 rfl (by kernel_rfl)
instance : FA Tryd.prog 8 2 2 := FA.mk' (f := 2) Tryd.underlying8 rfl (by kernel_rfl)
instance : FA Tryd.prog 8 3 3 := FA.mk' (f := 3) Tryd.underlying8 rfl (by kernel_rfl)
instance : T1 Tryd.prog 9 := T1.mk' Tryd.underlying9 rfl (by kernel_rfl)
instance : TZ0 Tryd.prog 9 (#[.string ⟨#[]⟩]) := TZ0.mk' (z := .string ⟨#[]⟩) (by kernel_rfl)
instance : TE Tryd.prog 9 1 16 (#[.string ⟨#[]⟩]) := TE.mk' (z := .string ⟨#[]⟩) (by kernel_rfl)
instance : TSz Tryd.prog 9 1 := TSz.mk' (by kernel_rfl)
instance : T1 Tryd.prog 10 := T1.mk' Tryd.underlying10 rfl (by kernel_rfl)
instance : TZ0 Tryd.prog 10 (#[.string ⟨#[]⟩]) := TZ0.mk' (z := .string ⟨#[]⟩) (by kernel_rfl)
instance : TE Tryd.prog 10 1 16 (#[.string ⟨#[]⟩]) := TE.mk' (z := .string ⟨#[]⟩) (by kernel_rfl)
instance : TSz Tryd.prog 10 1 := TSz.mk' (by kernel_rfl)
instance : T1 Tryd.prog 11 := T1.mk' Tryd.underlying11 rfl (by kernel_rfl)
instance : TZ0 Tryd.prog 11 (#[.string ⟨#[]⟩]) := TZ0.mk' (z := .string ⟨#[]⟩) (by kernel_rfl)
instance : TE Tryd.prog 11 1 16 (#[.string ⟨#[]⟩]) := TE.mk' (z := .string ⟨#[]⟩) (by kernel_rfl)
instance : TSz Tryd.prog 11 1 := TSz.mk' (by kernel_rfl)
instance : T1 Tryd.prog 12 := T1.mk' Tryd.underlying12 rfl (by kernel_rfl)
instance : TZ0 Tryd.prog 12 (#[.int .u64 0]) := TZ0.mk' (z := .int .u64 0) (by kernel_rfl)
instance : TE Tryd.prog 12 1 8 (#[.int .u64 0]) := TE.mk' (z := .int .u64 0) (by kernel_rfl)
instance : TSz Tryd.prog 12 1 := TSz.mk' (by kernel_rfl)
instance : TN Tryd.prog 13 2 := TN.mk' Tryd.underlying13 rfl (by kernel_rfl)
instance : TSt Tryd.prog 13 (#[.string ⟨#[]⟩, .int .u64 0]) #[(0, 1), (1, 1)] := TSt.mk' (z := .agg #[.string ⟨#[]⟩, .int .u64 0]) Tryd.underlying13 (by kernel_rfl) (by kernel_rfl)
instance : TZ0 Tryd.prog 13 (#[.string ⟨#[]⟩, .int .u64 0]) := TZ0.mk' (z := .agg #[.string ⟨#[]⟩, .int .u64 0]) (by kernel_rfl)
instance : TE Tryd.prog 13 2 24 (#[.string ⟨#[]⟩, .int .u64 0]) := TE.mk' (z := .agg #[.string ⟨#[]⟩, .int .u64 0]) (by kernel_rfl)
instance : TSz Tryd.prog 13 2 := TSz.mk' (by kernel_rfl)
instance : FA Tryd.prog 13 0 0 := FA.mk' (f := 0) Tryd.underlying13 rfl (by kernel_rfl)
instance : FA Tryd.prog 13 1 1 := FA.mk' (f := 1) Tryd.underlying13 rfl (by kernel_rfl)
instance : TN Tryd.prog 14 2 := TN.mk' Tryd.underlying14 rfl (by kernel_rfl)
instance : TSt Tryd.prog 14 (#[.string ⟨#[]⟩, .int .u64 0]) #[(0, 1), (1, 1)] := TSt.mk' (z := .agg #[.string ⟨#[]⟩, .int .u64 0]) Tryd.underlying14 (by kernel_rfl) (by kernel_rfl)
instance : TZ0 Tryd.prog 14 (#[.string ⟨#[]⟩, .int .u64 0]) := TZ0.mk' (z := .agg #[.string ⟨#[]⟩, .int .u64 0]) (by kernel_rfl)
instance : TE Tryd.prog 14 2 24 (#[.string ⟨#[]⟩, .int .u64 0]) := TE.mk' (z := .agg #[.string ⟨#[]⟩, .int .u64 0]) (by kernel_rfl)
instance : TSz Tryd.prog 14 2 := TSz.mk' (by kernel_rfl)
instance : FA Tryd.prog 14 0 0 := FA.mk' (f := 0) Tryd.underlying14 rfl (by kernel_rfl)
instance : FA Tryd.prog 14 1 1 := FA.mk' (f := 1) Tryd.underlying14 rfl (by kernel_rfl)
instance : T1 Tryd.prog 15 := T1.mk' Tryd.underlying15 rfl (by kernel_rfl)
instance : TZ0 Tryd.prog 15 (#[.pointer none]) := TZ0.mk' (z := .pointer none) (by kernel_rfl)
instance : TE Tryd.prog 15 1 8 (#[.pointer none]) := TE.mk' (z := .pointer none) (by kernel_rfl)
instance : TSz Tryd.prog 15 1 := TSz.mk' (by kernel_rfl)
instance : T1 Tryd.prog 16 := T1.mk' Tryd.underlying16 rfl (by kernel_rfl)
instance : TZ0 Tryd.prog 16 (#[.pointer none]) := TZ0.mk' (z := .pointer none) (by kernel_rfl)
instance : TE Tryd.prog 16 1 8 (#[.pointer none]) := TE.mk' (z := .pointer none) (by kernel_rfl)
instance : TSz Tryd.prog 16 1 := TSz.mk' (by kernel_rfl)
instance : T1 Tryd.prog 17 := T1.mk' Tryd.underlying17 rfl (by kernel_rfl)
instance : TZ0 Tryd.prog 17 (#[.pointer none]) := TZ0.mk' (z := .pointer none) (by kernel_rfl)
instance : TE Tryd.prog 17 1 8 (#[.pointer none]) := TE.mk' (z := .pointer none) (by kernel_rfl)
instance : TSz Tryd.prog 17 1 := TSz.mk' (by kernel_rfl)
instance : TN Tryd.prog 18 1 := TN.mk' Tryd.underlying18 rfl (by kernel_rfl)
instance : TSt Tryd.prog 18 (#[.pointer none]) #[(0, 1)] := TSt.mk' (z := .agg #[.pointer none]) Tryd.underlying18 (by kernel_rfl) (by kernel_rfl)
instance : TZ0 Tryd.prog 18 (#[.pointer none]) := TZ0.mk' (z := .agg #[.pointer none]) (by kernel_rfl)
instance : TE Tryd.prog 18 1 8 (#[.pointer none]) := TE.mk' (z := .agg #[.pointer none]) (by kernel_rfl)
instance : TSz Tryd.prog 18 1 := TSz.mk' (by kernel_rfl)
instance : FA Tryd.prog 18 0 0 := FA.mk' (f := 0) Tryd.underlying18 rfl (by kernel_rfl)
instance : TN Tryd.prog 19 1 := TN.mk' Tryd.underlying19 rfl (by kernel_rfl)
instance : TSt Tryd.prog 19 (#[.pointer none]) #[(0, 1)] := TSt.mk' (z := .agg #[.pointer none]) Tryd.underlying19 (by kernel_rfl) (by kernel_rfl)
instance : TZ0 Tryd.prog 19 (#[.pointer none]) := TZ0.mk' (z := .agg #[.pointer none]) (by kernel_rfl)
instance : TE Tryd.prog 19 1 8 (#[.pointer none]) := TE.mk' (z := .agg #[.pointer none]) (by kernel_rfl)
instance : TSz Tryd.prog 19 1 := TSz.mk' (by kernel_rfl)
instance : FA Tryd.prog 19 0 0 := FA.mk' (f := 0) Tryd.underlying19 rfl (by kernel_rfl)
instance : TZ0 Tryd.prog 20 (#[.nilIface]) := TZ0.mk' (z := .nilIface) (by kernel_rfl)
instance : TE Tryd.prog 20 1 16 (#[.nilIface]) := TE.mk' (z := .nilIface) (by kernel_rfl)
instance : TSz Tryd.prog 20 1 := TSz.mk' (by kernel_rfl)
instance : T1 Tryd.prog 21 := T1.mk' Tryd.underlying21 rfl (by kernel_rfl)
instance : TZ0 Tryd.prog 21 (#[.int .i32 0]) := TZ0.mk' (z := .int .i32 0) (by kernel_rfl)
instance : TE Tryd.prog 21 1 4 (#[.int .i32 0]) := TE.mk' (z := .int .i32 0) (by kernel_rfl)
instance : TSz Tryd.prog 21 1 := TSz.mk' (by kernel_rfl)
instance : T1 Tryd.prog 22 := T1.mk' Tryd.underlying22 rfl (by kernel_rfl)
instance : TZ0 Tryd.prog 22 (#[.slice none 0 0]) := TZ0.mk' (z := .slice none 0 0) (by kernel_rfl)
instance : TE Tryd.prog 22 1 24 (#[.slice none 0 0]) := TE.mk' (z := .slice none 0 0) (by kernel_rfl)
instance : TSz Tryd.prog 22 1 := TSz.mk' (by kernel_rfl)
instance : TSl Tryd.prog 22 5 := ⟨Tryd.underlying22⟩
instance : TN Tryd.prog 23 3 := TN.mk' Tryd.underlying23 rfl (by kernel_rfl)
instance : TSt Tryd.prog 23 (#[.bool false, .slice none 0 0, .int .i64 0]) #[(0, 1), (1, 1), (2, 1)] := TSt.mk' (z := .agg #[.bool false, .slice none 0 0, .int .i64 0]) Tryd.underlying23 (by kernel_rfl) (by kernel_rfl)
instance : TZ0 Tryd.prog 23 (#[.bool false, .slice none 0 0, .int .i64 0]) := TZ0.mk' (z := .agg #[.bool false, .slice none 0 0, .int .i64 0]) (by kernel_rfl)
instance : TE Tryd.prog 23 3 40 (#[.bool false, .slice none 0 0, .int .i64 0]) := TE.mk' (z := .agg #[.bool false, .slice none 0 0, .int .i64 0]) (by kernel_rfl)
instance : TSz Tryd.prog 23 3 := TSz.mk' (by kernel_rfl)
instance : FA Tryd.prog 23 0 0 := FA.mk' (f := 0) Tryd.underlying23 rfl (by kernel_rfl)
instance : FA Tryd.prog 23 1 1 := FA.mk' (f := 1) Tryd.underlying23 rfl (by kernel_rfl)
instance : FA Tryd.prog 23 2 2 := FA.mk' (f := 2) Tryd.underlying23 rfl (by kernel_rfl)
instance : TN Tryd.prog 24 3 := TN.mk' Tryd.underlying24 rfl (by kernel_rfl)
instance : TSt Tryd.prog 24 (#[.bool false, .slice none 0 0, .int .i64 0]) #[(0, 1), (1, 1), (2, 1)] := TSt.mk' (z := .agg #[.bool false, .slice none 0 0, .int .i64 0]) Tryd.underlying24 (by kernel_rfl) (by kernel_rfl)
instance : TZ0 Tryd.prog 24 (#[.bool false, .slice none 0 0, .int .i64 0]) := TZ0.mk' (z := .agg #[.bool false, .slice none 0 0, .int .i64 0]) (by kernel_rfl)
instance : TE Tryd.prog 24 3 40 (#[.bool false, .slice none 0 0, .int .i64 0]) := TE.mk' (z := .agg #[.bool false, .slice none 0 0, .int .i64 0]) (by kernel_rfl)
instance : TSz Tryd.prog 24 3 := TSz.mk' (by kernel_rfl)
instance : FA Tryd.prog 24 0 0 := FA.mk' (f := 0) Tryd.underlying24 rfl (by kernel_rfl)
instance : FA Tryd.prog 24 1 1 := FA.mk' (f := 1) Tryd.underlying24 rfl (by kernel_rfl)
instance : FA Tryd.prog 24 2 2 := FA.mk' (f := 2) Tryd.underlying24 rfl (by kernel_rfl)
instance : T1 Tryd.prog 25 := T1.mk' Tryd.underlying25 rfl (by kernel_rfl)
instance : TZ0 Tryd.prog 25 (#[.nilFunc]) := TZ0.mk' (z := .nilFunc) (by kernel_rfl)
instance : TE Tryd.prog 25 1 8 (#[.nilFunc]) := TE.mk' (z := .nilFunc) (by kernel_rfl)
instance : TSz Tryd.prog 25 1 := TSz.mk' (by kernel_rfl)
instance : TN Tryd.prog 26 2 := TN.mk' Tryd.underlying26 rfl (by kernel_rfl)
instance : TSt Tryd.prog 26 (#[.bool false, .string ⟨#[]⟩]) #[(0, 1), (1, 1)] := TSt.mk' (z := .agg #[.bool false, .string ⟨#[]⟩]) Tryd.underlying26 (by kernel_rfl) (by kernel_rfl)
instance : TZ0 Tryd.prog 26 (#[.bool false, .string ⟨#[]⟩]) := TZ0.mk' (z := .agg #[.bool false, .string ⟨#[]⟩]) (by kernel_rfl)
instance : TE Tryd.prog 26 2 24 (#[.bool false, .string ⟨#[]⟩]) := TE.mk' (z := .agg #[.bool false, .string ⟨#[]⟩]) (by kernel_rfl)
instance : TSz Tryd.prog 26 2 := TSz.mk' (by kernel_rfl)
instance : FA Tryd.prog 26 0 0 := FA.mk' (f := 0) Tryd.underlying26 rfl (by kernel_rfl)
instance : FA Tryd.prog 26 1 1 := FA.mk' (f := 1) Tryd.underlying26 rfl (by kernel_rfl)
instance : TN Tryd.prog 27 2 := TN.mk' Tryd.underlying27 rfl (by kernel_rfl)
instance : TSt Tryd.prog 27 (#[.bool false, .string ⟨#[]⟩]) #[(0, 1), (1, 1)] := TSt.mk' (z := .agg #[.bool false, .string ⟨#[]⟩]) Tryd.underlying27 (by kernel_rfl) (by kernel_rfl)
instance : TZ0 Tryd.prog 27 (#[.bool false, .string ⟨#[]⟩]) := TZ0.mk' (z := .agg #[.bool false, .string ⟨#[]⟩]) (by kernel_rfl)
instance : TE Tryd.prog 27 2 24 (#[.bool false, .string ⟨#[]⟩]) := TE.mk' (z := .agg #[.bool false, .string ⟨#[]⟩]) (by kernel_rfl)
instance : TSz Tryd.prog 27 2 := TSz.mk' (by kernel_rfl)
instance : FA Tryd.prog 27 0 0 := FA.mk' (f := 0) Tryd.underlying27 rfl (by kernel_rfl)
instance : FA Tryd.prog 27 1 1 := FA.mk' (f := 1) Tryd.underlying27 rfl (by kernel_rfl)
instance : T1 Tryd.prog 28 := T1.mk' Tryd.underlying28 rfl (by kernel_rfl)
instance : TZ0 Tryd.prog 28 (#[.nilFunc]) := TZ0.mk' (z := .nilFunc) (by kernel_rfl)
instance : TE Tryd.prog 28 1 8 (#[.nilFunc]) := TE.mk' (z := .nilFunc) (by kernel_rfl)
instance : TSz Tryd.prog 28 1 := TSz.mk' (by kernel_rfl)
instance : T1 Tryd.prog 29 := T1.mk' Tryd.underlying29 rfl (by kernel_rfl)
instance : TZ0 Tryd.prog 29 (#[.nilFunc]) := TZ0.mk' (z := .nilFunc) (by kernel_rfl)
instance : TE Tryd.prog 29 1 8 (#[.nilFunc]) := TE.mk' (z := .nilFunc) (by kernel_rfl)
instance : TSz Tryd.prog 29 1 := TSz.mk' (by kernel_rfl)
instance : T1 Tryd.prog 30 := T1.mk' Tryd.underlying30 rfl (by kernel_rfl)
instance : TZ0 Tryd.prog 30 (#[.nilFunc]) := TZ0.mk' (z := .nilFunc) (by kernel_rfl)
instance : TE Tryd.prog 30 1 8 (#[.nilFunc]) := TE.mk' (z := .nilFunc) (by kernel_rfl)
instance : TSz Tryd.prog 30 1 := TSz.mk' (by kernel_rfl)
instance : T1 Tryd.prog 31 := T1.mk' Tryd.underlying31 rfl (by kernel_rfl)
instance : TZ0 Tryd.prog 31 (#[.nilFunc]) := TZ0.mk' (z := .nilFunc) (by kernel_rfl)
instance : TE Tryd.prog 31 1 8 (#[.nilFunc]) := TE.mk' (z := .nilFunc) (by kernel_rfl)
instance : TSz Tryd.prog 31 1 := TSz.mk' (by kernel_rfl)
instance : T1 Tryd.prog 32 := T1.mk' Tryd.underlying32 rfl (by kernel_rfl)
instance : TZ0 Tryd.prog 32 (#[.nilFunc]) := TZ0.mk' (z := .nilFunc) (by kernel_rfl)
instance : TE Tryd.prog 32 1 8 (#[.nilFunc]) := TE.mk' (z := .nilFunc) (by kernel_rfl)
instance : TSz Tryd.prog 32 1 := TSz.mk' (by kernel_rfl)
instance : TN Tryd.prog 33 4 := TN.mk' Tryd.underlying33 rfl (by kernel_rfl)
instance : TZ0 Tryd.prog 33 (#[.bool false, .string ⟨#[]⟩, .bool false, .string ⟨#[]⟩]) := TZ0.mk' (z := .agg #[.bool false, .string ⟨#[]⟩, .bool false, .string ⟨#[]⟩]) (by kernel_rfl)
instance : TE Tryd.prog 33 4 48 (#[.bool false, .string ⟨#[]⟩, .bool false, .string ⟨#[]⟩]) := TE.mk' (z := .agg #[.bool false, .string ⟨#[]⟩, .bool false, .string ⟨#[]⟩]) (by kernel_rfl)
instance : TSz Tryd.prog 33 4 := TSz.mk' (by kernel_rfl)
instance : TAr Tryd.prog 33 2 27 := ⟨Tryd.underlying33⟩
instance : TN Tryd.prog 34 8 := TN.mk' Tryd.underlying34 rfl (by kernel_rfl)
instance : TZ0 Tryd.prog 34 (#[.bool false, .string ⟨#[]⟩, .bool false, .string ⟨#[]⟩, .bool false, .string ⟨#[]⟩, .bool false, .string ⟨#[]⟩]) := TZ0.mk' (z := .agg #[.bool false, .string ⟨#[]⟩, .bool false, .string ⟨#[]⟩, .bool false, .string ⟨#[]⟩, .bool false, .string ⟨#[]⟩]) (by kernel_rfl)
instance : TE Tryd.prog 34 8 96 (#[.bool false, .string ⟨#[]⟩, .bool false, .string ⟨#[]⟩, .bool false, .string ⟨#[]⟩, .bool false, .string ⟨#[]⟩]) := TE.mk' (z := .agg #[.bool false, .string ⟨#[]⟩, .bool false, .string ⟨#[]⟩, .bool false, .string ⟨#[]⟩, .bool false, .string ⟨#[]⟩]) (by kernel_rfl)
instance : TSz Tryd.prog 34 8 := TSz.mk' (by kernel_rfl)
instance : TAr Tryd.prog 34 2 33 := ⟨Tryd.underlying34⟩
instance : T1 Tryd.prog 35 := T1.mk' Tryd.underlying35 rfl (by kernel_rfl)
instance : T1 Tryd.prog 36 := T1.mk' Tryd.underlying36 rfl (by kernel_rfl)
instance : TZ0 Tryd.prog 36 (#[.nilFunc]) := TZ0.mk' (z := .nilFunc) (by kernel_rfl)
instance : TE Tryd.prog 36 1 8 (#[.nilFunc]) := TE.mk' (z := .nilFunc) (by kernel_rfl)
instance : TSz Tryd.prog 36 1 := TSz.mk' (by kernel_rfl)
instance : T1 Tryd.prog 37 := T1.mk' Tryd.underlying37 rfl (by kernel_rfl)
instance : T1 Tryd.prog 38 := T1.mk' Tryd.underlying38 rfl (by kernel_rfl)
instance : TZ0 Tryd.prog 38 (#[.nilFunc]) := TZ0.mk' (z := .nilFunc) (by kernel_rfl)
instance : TE Tryd.prog 38 1 8 (#[.nilFunc]) := TE.mk' (z := .nilFunc) (by kernel_rfl)
instance : TSz Tryd.prog 38 1 := TSz.mk' (by kernel_rfl)
instance : T1 Tryd.prog 39 := T1.mk' Tryd.underlying39 rfl (by kernel_rfl)
instance : TZ0 Tryd.prog 39 (#[.nilFunc]) := TZ0.mk' (z := .nilFunc) (by kernel_rfl)
instance : TE Tryd.prog 39 1 8 (#[.nilFunc]) := TE.mk' (z := .nilFunc) (by kernel_rfl)
instance : TSz Tryd.prog 39 1 := TSz.mk' (by kernel_rfl)
instance : TN Tryd.prog 40 5 := TN.mk' Tryd.underlying40 rfl (by kernel_rfl)
instance : TZ0 Tryd.prog 40 (#[.string ⟨#[]⟩, .string ⟨#[]⟩, .string ⟨#[]⟩, .string ⟨#[]⟩, .string ⟨#[]⟩]) := TZ0.mk' (z := .agg #[.string ⟨#[]⟩, .string ⟨#[]⟩, .string ⟨#[]⟩, .string ⟨#[]⟩, .string ⟨#[]⟩]) (by kernel_rfl)
instance : TE Tryd.prog 40 5 80 (#[.string ⟨#[]⟩, .string ⟨#[]⟩, .string ⟨#[]⟩, .string ⟨#[]⟩, .string ⟨#[]⟩]) := TE.mk' (z := .agg #[.string ⟨#[]⟩, .string ⟨#[]⟩, .string ⟨#[]⟩, .string ⟨#[]⟩, .string ⟨#[]⟩]) (by kernel_rfl)
instance : TSz Tryd.prog 40 5 := TSz.mk' (by kernel_rfl)
instance : TAr Tryd.prog 40 5 9 := ⟨Tryd.underlying40⟩
instance : T1 Tryd.prog 41 := T1.mk' Tryd.underlying41 rfl (by kernel_rfl)
instance : T1 Tryd.prog 42 := T1.mk' Tryd.underlying42 rfl (by kernel_rfl)
instance : TZ0 Tryd.prog 42 (#[.nilFunc]) := TZ0.mk' (z := .nilFunc) (by kernel_rfl)
instance : TE Tryd.prog 42 1 8 (#[.nilFunc]) := TE.mk' (z := .nilFunc) (by kernel_rfl)
instance : TSz Tryd.prog 42 1 := TSz.mk' (by kernel_rfl)
instance : T1 Tryd.prog 43 := T1.mk' Tryd.underlying43 rfl (by kernel_rfl)
instance : TZ0 Tryd.prog 43 (#[.nilFunc]) := TZ0.mk' (z := .nilFunc) (by kernel_rfl)
instance : TE Tryd.prog 43 1 8 (#[.nilFunc]) := TE.mk' (z := .nilFunc) (by kernel_rfl)
instance : TSz Tryd.prog 43 1 := TSz.mk' (by kernel_rfl)
instance : T1 Tryd.prog 44 := T1.mk' Tryd.underlying44 rfl (by kernel_rfl)
instance : TZ0 Tryd.prog 44 (#[.nilFunc]) := TZ0.mk' (z := .nilFunc) (by kernel_rfl)
instance : TE Tryd.prog 44 1 8 (#[.nilFunc]) := TE.mk' (z := .nilFunc) (by kernel_rfl)
instance : TSz Tryd.prog 44 1 := TSz.mk' (by kernel_rfl)
instance : T1 Tryd.prog 45 := T1.mk' Tryd.underlying45 rfl (by kernel_rfl)
instance : TZ0 Tryd.prog 45 (#[.nilFunc]) := TZ0.mk' (z := .nilFunc) (by kernel_rfl)
instance : TE Tryd.prog 45 1 8 (#[.nilFunc]) := TE.mk' (z := .nilFunc) (by kernel_rfl)
instance : TSz Tryd.prog 45 1 := TSz.mk' (by kernel_rfl)
instance : T1 Tryd.prog 46 := T1.mk' Tryd.underlying46 rfl (by kernel_rfl)
instance : TZ0 Tryd.prog 46 (#[.nilFunc]) := TZ0.mk' (z := .nilFunc) (by kernel_rfl)
instance : TE Tryd.prog 46 1 8 (#[.nilFunc]) := TE.mk' (z := .nilFunc) (by kernel_rfl)
instance : TSz Tryd.prog 46 1 := TSz.mk' (by kernel_rfl)
instance : T1 Tryd.prog 47 := T1.mk' Tryd.underlying47 rfl (by kernel_rfl)
instance : T1 Tryd.prog 48 := T1.mk' Tryd.underlying48 rfl (by kernel_rfl)
instance : TZ0 Tryd.prog 48 (#[.nilFunc]) := TZ0.mk' (z := .nilFunc) (by kernel_rfl)
instance : TE Tryd.prog 48 1 8 (#[.nilFunc]) := TE.mk' (z := .nilFunc) (by kernel_rfl)
instance : TSz Tryd.prog 48 1 := TSz.mk' (by kernel_rfl)
instance : T1 Tryd.prog 49 := T1.mk' Tryd.underlying49 rfl (by kernel_rfl)
instance : TZ0 Tryd.prog 49 (#[.nilFunc]) := TZ0.mk' (z := .nilFunc) (by kernel_rfl)
instance : TE Tryd.prog 49 1 8 (#[.nilFunc]) := TE.mk' (z := .nilFunc) (by kernel_rfl)
instance : TSz Tryd.prog 49 1 := TSz.mk' (by kernel_rfl)
instance : T1 Tryd.prog 50 := T1.mk' Tryd.underlying50 rfl (by kernel_rfl)
instance : TZ0 Tryd.prog 50 (#[.nilFunc]) := TZ0.mk' (z := .nilFunc) (by kernel_rfl)
instance : TE Tryd.prog 50 1 8 (#[.nilFunc]) := TE.mk' (z := .nilFunc) (by kernel_rfl)
instance : TSz Tryd.prog 50 1 := TSz.mk' (by kernel_rfl)
instance : T1 Tryd.prog 51 := T1.mk' Tryd.underlying51 rfl (by kernel_rfl)
instance : TZ0 Tryd.prog 51 (#[.nilFunc]) := TZ0.mk' (z := .nilFunc) (by kernel_rfl)
instance : TE Tryd.prog 51 1 8 (#[.nilFunc]) := TE.mk' (z := .nilFunc) (by kernel_rfl)
instance : TSz Tryd.prog 51 1 := TSz.mk' (by kernel_rfl)
instance : T1 Tryd.prog 52 := T1.mk' Tryd.underlying52 rfl (by kernel_rfl)
instance : TZ0 Tryd.prog 52 (#[.nilFunc]) := TZ0.mk' (z := .nilFunc) (by kernel_rfl)
instance : TE Tryd.prog 52 1 8 (#[.nilFunc]) := TE.mk' (z := .nilFunc) (by kernel_rfl)
instance : TSz Tryd.prog 52 1 := TSz.mk' (by kernel_rfl)
instance : T1 Tryd.prog 53 := T1.mk' Tryd.underlying53 rfl (by kernel_rfl)
instance : TZ0 Tryd.prog 53 (#[.nilFunc]) := TZ0.mk' (z := .nilFunc) (by kernel_rfl)
instance : TE Tryd.prog 53 1 8 (#[.nilFunc]) := TE.mk' (z := .nilFunc) (by kernel_rfl)
instance : TSz Tryd.prog 53 1 := TSz.mk' (by kernel_rfl)
instance : T1 Tryd.prog 54 := T1.mk' Tryd.underlying54 rfl (by kernel_rfl)
instance : TZ0 Tryd.prog 54 (#[.nilFunc]) := TZ0.mk' (z := .nilFunc) (by kernel_rfl)
instance : TE Tryd.prog 54 1 8 (#[.nilFunc]) := TE.mk' (z := .nilFunc) (by kernel_rfl)
instance : TSz Tryd.prog 54 1 := TSz.mk' (by kernel_rfl)
instance : T1 Tryd.prog 55 := T1.mk' Tryd.underlying55 rfl (by kernel_rfl)
instance : TZ0 Tryd.prog 55 (#[.nilFunc]) := TZ0.mk' (z := .nilFunc) (by kernel_rfl)
instance : TE Tryd.prog 55 1 8 (#[.nilFunc]) := TE.mk' (z := .nilFunc) (by kernel_rfl)
instance : TSz Tryd.prog 55 1 := TSz.mk' (by kernel_rfl)
instance : T1 Tryd.prog 56 := T1.mk' Tryd.underlying56 rfl (by kernel_rfl)
instance : TZ0 Tryd.prog 56 (#[.slice none 0 0]) := TZ0.mk' (z := .slice none 0 0) (by kernel_rfl)
instance : TE Tryd.prog 56 1 24 (#[.slice none 0 0]) := TE.mk' (z := .slice none 0 0) (by kernel_rfl)
instance : TSz Tryd.prog 56 1 := TSz.mk' (by kernel_rfl)
instance : TSl Tryd.prog 56 68 := ⟨Tryd.underlying56⟩
instance : T1 Tryd.prog 57 := T1.mk' Tryd.underlying57 rfl (by kernel_rfl)
instance : TZ0 Tryd.prog 57 (#[.slice none 0 0]) := TZ0.mk' (z := .slice none 0 0) (by kernel_rfl)
instance : TE Tryd.prog 57 1 24 (#[.slice none 0 0]) := TE.mk' (z := .slice none 0 0) (by kernel_rfl)
instance : TSz Tryd.prog 57 1 := TSz.mk' (by kernel_rfl)
instance : TSl Tryd.prog 57 68 := ⟨Tryd.underlying57⟩
instance : T1 Tryd.prog 58 := T1.mk' Tryd.underlying58 rfl (by kernel_rfl)
instance : TZ0 Tryd.prog 58 (#[.nilFunc]) := TZ0.mk' (z := .nilFunc) (by kernel_rfl)
instance : TE Tryd.prog 58 1 8 (#[.nilFunc]) := TE.mk' (z := .nilFunc) (by kernel_rfl)
instance : TSz Tryd.prog 58 1 := TSz.mk' (by kernel_rfl)
instance : T1 Tryd.prog 59 := T1.mk' Tryd.underlying59 rfl (by kernel_rfl)
instance : TZ0 Tryd.prog 59 (#[.nilFunc]) := TZ0.mk' (z := .nilFunc) (by kernel_rfl)
instance : TE Tryd.prog 59 1 8 (#[.nilFunc]) := TE.mk' (z := .nilFunc) (by kernel_rfl)
instance : TSz Tryd.prog 59 1 := TSz.mk' (by kernel_rfl)
instance : T1 Tryd.prog 60 := T1.mk' Tryd.underlying60 rfl (by kernel_rfl)
instance : TZ0 Tryd.prog 60 (#[.nilFunc]) := TZ0.mk' (z := .nilFunc) (by kernel_rfl)
instance : TE Tryd.prog 60 1 8 (#[.nilFunc]) := TE.mk' (z := .nilFunc) (by kernel_rfl)
instance : TSz Tryd.prog 60 1 := TSz.mk' (by kernel_rfl)
instance : T1 Tryd.prog 61 := T1.mk' Tryd.underlying61 rfl (by kernel_rfl)
instance : TZ0 Tryd.prog 61 (#[.nilFunc]) := TZ0.mk' (z := .nilFunc) (by kernel_rfl)
instance : TE Tryd.prog 61 1 8 (#[.nilFunc]) := TE.mk' (z := .nilFunc) (by kernel_rfl)
instance : TSz Tryd.prog 61 1 := TSz.mk' (by kernel_rfl)
instance : T1 Tryd.prog 62 := T1.mk' Tryd.underlying62 rfl (by kernel_rfl)
instance : TZ0 Tryd.prog 62 (#[.slice none 0 0]) := TZ0.mk' (z := .slice none 0 0) (by kernel_rfl)
instance : TE Tryd.prog 62 1 24 (#[.slice none 0 0]) := TE.mk' (z := .slice none 0 0) (by kernel_rfl)
instance : TSz Tryd.prog 62 1 := TSz.mk' (by kernel_rfl)
instance : TSl Tryd.prog 62 3 := ⟨Tryd.underlying62⟩
instance : T1 Tryd.prog 63 := T1.mk' Tryd.underlying63 rfl (by kernel_rfl)
instance : TZ0 Tryd.prog 63 (#[.nilFunc]) := TZ0.mk' (z := .nilFunc) (by kernel_rfl)
instance : TE Tryd.prog 63 1 8 (#[.nilFunc]) := TE.mk' (z := .nilFunc) (by kernel_rfl)
instance : TSz Tryd.prog 63 1 := TSz.mk' (by kernel_rfl)
instance : T1 Tryd.prog 64 := T1.mk' Tryd.underlying64 rfl (by kernel_rfl)
instance : TZ0 Tryd.prog 64 (#[.nilFunc]) := TZ0.mk' (z := .nilFunc) (by kernel_rfl)
instance : TE Tryd.prog 64 1 8 (#[.nilFunc]) := TE.mk' (z := .nilFunc) (by kernel_rfl)
instance : TSz Tryd.prog 64 1 := TSz.mk' (by kernel_rfl)
instance : T1 Tryd.prog 65 := T1.mk' Tryd.underlying65 rfl (by kernel_rfl)
instance : TZ0 Tryd.prog 65 (#[.nilFunc]) := TZ0.mk' (z := .nilFunc) (by kernel_rfl)
instance : TE Tryd.prog 65 1 8 (#[.nilFunc]) := TE.mk' (z := .nilFunc) (by kernel_rfl)
instance : TSz Tryd.prog 65 1 := TSz.mk' (by kernel_rfl)
instance : T1 Tryd.prog 66 := T1.mk' Tryd.underlying66 rfl (by kernel_rfl)
instance : T1 Tryd.prog 67 := T1.mk' Tryd.underlying67 rfl (by kernel_rfl)
instance : TZ0 Tryd.prog 67 (#[.nilFunc]) := TZ0.mk' (z := .nilFunc) (by kernel_rfl)
instance : TE Tryd.prog 67 1 8 (#[.nilFunc]) := TE.mk' (z := .nilFunc) (by kernel_rfl)
instance : TSz Tryd.prog 67 1 := TSz.mk' (by kernel_rfl)
instance : T1 Tryd.prog 68 := T1.mk' Tryd.underlying68 rfl (by kernel_rfl)
instance : TZ0 Tryd.prog 68 (#[.int .u64 0]) := TZ0.mk' (z := .int .u64 0) (by kernel_rfl)
instance : TE Tryd.prog 68 1 8 (#[.int .u64 0]) := TE.mk' (z := .int .u64 0) (by kernel_rfl)
instance : TSz Tryd.prog 68 1 := TSz.mk' (by kernel_rfl)
instance : T1 Tryd.prog 69 := T1.mk' Tryd.underlying69 rfl (by kernel_rfl)
instance : TZ0 Tryd.prog 69 (#[.nilFunc]) := TZ0.mk' (z := .nilFunc) (by kernel_rfl)
instance : TE Tryd.prog 69 1 8 (#[.nilFunc]) := TE.mk' (z := .nilFunc) (by kernel_rfl)
instance : TSz Tryd.prog 69 1 := TSz.mk' (by kernel_rfl)
instance : T1 Tryd.prog 70 := T1.mk' Tryd.underlying70 rfl (by kernel_rfl)
instance : T1 Tryd.prog 71 := T1.mk' Tryd.underlying71 rfl (by kernel_rfl)
instance : TZ0 Tryd.prog 71 (#[.nilFunc]) := TZ0.mk' (z := .nilFunc) (by kernel_rfl)
instance : TE Tryd.prog 71 1 8 (#[.nilFunc]) := TE.mk' (z := .nilFunc) (by kernel_rfl)
instance : TSz Tryd.prog 71 1 := TSz.mk' (by kernel_rfl)
instance : T1 Tryd.prog 72 := T1.mk' Tryd.underlying72 rfl (by kernel_rfl)
instance : TZ0 Tryd.prog 72 (#[.nilFunc]) := TZ0.mk' (z := .nilFunc) (by kernel_rfl)
instance : TE Tryd.prog 72 1 8 (#[.nilFunc]) := TE.mk' (z := .nilFunc) (by kernel_rfl)
instance : TSz Tryd.prog 72 1 := TSz.mk' (by kernel_rfl)
instance : T1 Tryd.prog 73 := T1.mk' Tryd.underlying73 rfl (by kernel_rfl)
instance : TZ0 Tryd.prog 73 (#[.nilFunc]) := TZ0.mk' (z := .nilFunc) (by kernel_rfl)
instance : TE Tryd.prog 73 1 8 (#[.nilFunc]) := TE.mk' (z := .nilFunc) (by kernel_rfl)
instance : TSz Tryd.prog 73 1 := TSz.mk' (by kernel_rfl)
instance : T1 Tryd.prog 74 := T1.mk' Tryd.underlying74 rfl (by kernel_rfl)
instance : TZ0 Tryd.prog 74 (#[.nilFunc]) := TZ0.mk' (z := .nilFunc) (by kernel_rfl)
instance : TE Tryd.prog 74 1 8 (#[.nilFunc]) := TE.mk' (z := .nilFunc) (by kernel_rfl)
instance : TSz Tryd.prog 74 1 := TSz.mk' (by kernel_rfl)
instance : T1 Tryd.prog 75 := T1.mk' Tryd.underlying75 rfl (by kernel_rfl)
instance : TZ0 Tryd.prog 75 (#[.int .u64 0]) := TZ0.mk' (z := .int .u64 0) (by kernel_rfl)
instance : TE Tryd.prog 75 1 8 (#[.int .u64 0]) := TE.mk' (z := .int .u64 0) (by kernel_rfl)
instance : TSz Tryd.prog 75 1 := TSz.mk' (by kernel_rfl)
instance : T1 Tryd.prog 76 := T1.mk' Tryd.underlying76 rfl (by kernel_rfl)
instance : T1 Tryd.prog 77 := T1.mk' Tryd.underlying77 rfl (by kernel_rfl)
instance : TZ0 Tryd.prog 77 (#[.nilFunc]) := TZ0.mk' (z := .nilFunc) (by kernel_rfl)
instance : TE Tryd.prog 77 1 8 (#[.nilFunc]) := TE.mk' (z := .nilFunc) (by kernel_rfl)
instance : TSz Tryd.prog 77 1 := TSz.mk' (by kernel_rfl)
instance : T1 Tryd.prog 78 := T1.mk' Tryd.underlying78 rfl (by kernel_rfl)
instance : T1 Tryd.prog 79 := T1.mk' Tryd.underlying79 rfl (by kernel_rfl)
instance : TZ0 Tryd.prog 79 (#[.nilFunc]) := TZ0.mk' (z := .nilFunc) (by kernel_rfl)
instance : TE Tryd.prog 79 1 8 (#[.nilFunc]) := TE.mk' (z := .nilFunc) (by kernel_rfl)
instance : TSz Tryd.prog 79 1 := TSz.mk' (by kernel_rfl)
instance : T1 Tryd.prog 80 := T1.mk' Tryd.underlying80 rfl (by kernel_rfl)
instance : TZ0 Tryd.prog 80 (#[.nilFunc]) := TZ0.mk' (z := .nilFunc) (by kernel_rfl)
instance : TE Tryd.prog 80 1 8 (#[.nilFunc]) := TE.mk' (z := .nilFunc) (by kernel_rfl)
instance : TSz Tryd.prog 80 1 := TSz.mk' (by kernel_rfl)
instance : T1 Tryd.prog 81 := T1.mk' Tryd.underlying81 rfl (by kernel_rfl)
instance : TZ0 Tryd.prog 81 (#[.nilFunc]) := TZ0.mk' (z := .nilFunc) (by kernel_rfl)
instance : TE Tryd.prog 81 1 8 (#[.nilFunc]) := TE.mk' (z := .nilFunc) (by kernel_rfl)
instance : TSz Tryd.prog 81 1 := TSz.mk' (by kernel_rfl)
instance : T1 Tryd.prog 82 := T1.mk' Tryd.underlying82 rfl (by kernel_rfl)
instance : TZ0 Tryd.prog 82 (#[.nilFunc]) := TZ0.mk' (z := .nilFunc) (by kernel_rfl)
instance : TE Tryd.prog 82 1 8 (#[.nilFunc]) := TE.mk' (z := .nilFunc) (by kernel_rfl)
instance : TSz Tryd.prog 82 1 := TSz.mk' (by kernel_rfl)
instance : T1 Tryd.prog 83 := T1.mk' Tryd.underlying83 rfl (by kernel_rfl)
instance : TZ0 Tryd.prog 83 (#[.nilFunc]) := TZ0.mk' (z := .nilFunc) (by kernel_rfl)
instance : TE Tryd.prog 83 1 8 (#[.nilFunc]) := TE.mk' (z := .nilFunc) (by kernel_rfl)
instance : TSz Tryd.prog 83 1 := TSz.mk' (by kernel_rfl)
instance : T1 Tryd.prog 84 := T1.mk' Tryd.underlying84 rfl (by kernel_rfl)
instance : TZ0 Tryd.prog 84 (#[.nilFunc]) := TZ0.mk' (z := .nilFunc) (by kernel_rfl)
instance : TE Tryd.prog 84 1 8 (#[.nilFunc]) := TE.mk' (z := .nilFunc) (by kernel_rfl)
instance : TSz Tryd.prog 84 1 := TSz.mk' (by kernel_rfl)
instance : T1 Tryd.prog 85 := T1.mk' Tryd.underlying85 rfl (by kernel_rfl)
instance : TZ0 Tryd.prog 85 (#[.nilFunc]) := TZ0.mk' (z := .nilFunc) (by kernel_rfl)
instance : TE Tryd.prog 85 1 8 (#[.nilFunc]) := TE.mk' (z := .nilFunc) (by kernel_rfl)
instance : TSz Tryd.prog 85 1 := TSz.mk' (by kernel_rfl)
instance : T1 Tryd.prog 86 := T1.mk' Tryd.underlying86 rfl (by kernel_rfl)
instance : TZ0 Tryd.prog 86 (#[.nilFunc]) := TZ0.mk' (z := .nilFunc) (by kernel_rfl)
instance : TE Tryd.prog 86 1 8 (#[.nilFunc]) := TE.mk' (z := .nilFunc) (by kernel_rfl)
instance : TSz Tryd.prog 86 1 := TSz.mk' (by kernel_rfl)
instance : T1 Tryd.prog 87 := T1.mk' Tryd.underlying87 rfl (by kernel_rfl)
instance : TZ0 Tryd.prog 87 (#[.nilFunc]) := TZ0.mk' (z := .nilFunc) (by kernel_rfl)
instance : TE Tryd.prog 87 1 8 (#[.nilFunc]) := TE.mk' (z := .nilFunc) (by kernel_rfl)
instance : TSz Tryd.prog 87 1 := TSz.mk' (by kernel_rfl)
instance : T1 Tryd.prog 88 := T1.mk' Tryd.underlying88 rfl (by kernel_rfl)
instance : TZ0 Tryd.prog 88 (#[.nilFunc]) := TZ0.mk' (z := .nilFunc) (by kernel_rfl)
instance : TE Tryd.prog 88 1 8 (#[.nilFunc]) := TE.mk' (z := .nilFunc) (by kernel_rfl)
instance : TSz Tryd.prog 88 1 := TSz.mk' (by kernel_rfl)
instance : T1 Tryd.prog 89 := T1.mk' Tryd.underlying89 rfl (by kernel_rfl)
instance : TZ0 Tryd.prog 89 (#[.nilFunc]) := TZ0.mk' (z := .nilFunc) (by kernel_rfl)
instance : TE Tryd.prog 89 1 8 (#[.nilFunc]) := TE.mk' (z := .nilFunc) (by kernel_rfl)
instance : TSz Tryd.prog 89 1 := TSz.mk' (by kernel_rfl)
instance : TN Tryd.prog 90 256 := TN.mk' Tryd.underlying90 rfl (by kernel_rfl)
-- (too wide to be laid here)
-- (too wide to be laid here)
instance : TSz Tryd.prog 90 256 := TSz.mk' (by kernel_rfl)
instance : TAr Tryd.prog 90 256 4 := ⟨Tryd.underlying90⟩
instance : TN Tryd.prog 91 256 := TN.mk' Tryd.underlying91 rfl (by kernel_rfl)
-- (too wide to be laid here)
-- (too wide to be laid here)
instance : TSz Tryd.prog 91 256 := TSz.mk' (by kernel_rfl)
instance : TAr Tryd.prog 91 256 4 := ⟨Tryd.underlying91⟩
instance : T1 Tryd.prog 92 := T1.mk' Tryd.underlying92 rfl (by kernel_rfl)
instance : T1 Tryd.prog 93 := T1.mk' Tryd.underlying93 rfl (by kernel_rfl)
instance : TZ0 Tryd.prog 93 (#[.nilFunc]) := TZ0.mk' (z := .nilFunc) (by kernel_rfl)
instance : TE Tryd.prog 93 1 8 (#[.nilFunc]) := TE.mk' (z := .nilFunc) (by kernel_rfl)
instance : TSz Tryd.prog 93 1 := TSz.mk' (by kernel_rfl)
instance : T1 Tryd.prog 94 := T1.mk' Tryd.underlying94 rfl (by kernel_rfl)
instance : TZ0 Tryd.prog 94 (#[.nilFunc]) := TZ0.mk' (z := .nilFunc) (by kernel_rfl)
instance : TE Tryd.prog 94 1 8 (#[.nilFunc]) := TE.mk' (z := .nilFunc) (by kernel_rfl)
instance : TSz Tryd.prog 94 1 := TSz.mk' (by kernel_rfl)
instance : T1 Tryd.prog 95 := T1.mk' Tryd.underlying95 rfl (by kernel_rfl)
instance : TZ0 Tryd.prog 95 (#[.pointer none]) := TZ0.mk' (z := .pointer none) (by kernel_rfl)
instance : TE Tryd.prog 95 1 8 (#[.pointer none]) := TE.mk' (z := .pointer none) (by kernel_rfl)
instance : TSz Tryd.prog 95 1 := TSz.mk' (by kernel_rfl)
instance : T1 Tryd.prog 96 := T1.mk' Tryd.underlying96 rfl (by kernel_rfl)
instance : TZ0 Tryd.prog 96 (#[.nilFunc]) := TZ0.mk' (z := .nilFunc) (by kernel_rfl)
instance : TE Tryd.prog 96 1 8 (#[.nilFunc]) := TE.mk' (z := .nilFunc) (by kernel_rfl)
instance : TSz Tryd.prog 96 1 := TSz.mk' (by kernel_rfl)
instance : T1 Tryd.prog 97 := T1.mk' Tryd.underlying97 rfl (by kernel_rfl)
instance : TZ0 Tryd.prog 97 (#[.nilFunc]) := TZ0.mk' (z := .nilFunc) (by kernel_rfl)
instance : TE Tryd.prog 97 1 8 (#[.nilFunc]) := TE.mk' (z := .nilFunc) (by kernel_rfl)
instance : TSz Tryd.prog 97 1 := TSz.mk' (by kernel_rfl)
instance : T1 Tryd.prog 98 := T1.mk' Tryd.underlying98 rfl (by kernel_rfl)
instance : T1 Tryd.prog 99 := T1.mk' Tryd.underlying99 rfl (by kernel_rfl)
instance : TZ0 Tryd.prog 99 (#[.nilFunc]) := TZ0.mk' (z := .nilFunc) (by kernel_rfl)
instance : TE Tryd.prog 99 1 8 (#[.nilFunc]) := TE.mk' (z := .nilFunc) (by kernel_rfl)
instance : TSz Tryd.prog 99 1 := TSz.mk' (by kernel_rfl)
instance : T1 Tryd.prog 100 := T1.mk' Tryd.underlying100 rfl (by kernel_rfl)
instance : TZ0 Tryd.prog 100 (#[.nilFunc]) := TZ0.mk' (z := .nilFunc) (by kernel_rfl)
instance : TE Tryd.prog 100 1 8 (#[.nilFunc]) := TE.mk' (z := .nilFunc) (by kernel_rfl)
instance : TSz Tryd.prog 100 1 := TSz.mk' (by kernel_rfl)
instance : T1 Tryd.prog 101 := T1.mk' Tryd.underlying101 rfl (by kernel_rfl)
instance : TZ0 Tryd.prog 101 (#[.nilFunc]) := TZ0.mk' (z := .nilFunc) (by kernel_rfl)
instance : TE Tryd.prog 101 1 8 (#[.nilFunc]) := TE.mk' (z := .nilFunc) (by kernel_rfl)
instance : TSz Tryd.prog 101 1 := TSz.mk' (by kernel_rfl)
instance : TN Tryd.prog 102 256 := TN.mk' Tryd.underlying102 rfl (by kernel_rfl)
-- (too wide to be laid here)
-- (too wide to be laid here)
instance : TSz Tryd.prog 102 256 := TSz.mk' (by kernel_rfl)
instance : TAr Tryd.prog 102 256 5 := ⟨Tryd.underlying102⟩
instance : TN Tryd.prog 103 2 := TN.mk' Tryd.underlying103 rfl (by kernel_rfl)
instance : TSt Tryd.prog 103 (#[.int .u8 0, .int .u8 0]) #[(0, 1), (1, 1)] := TSt.mk' (z := .agg #[.int .u8 0, .int .u8 0]) Tryd.underlying103 (by kernel_rfl) (by kernel_rfl)
instance : TZ0 Tryd.prog 103 (#[.int .u8 0, .int .u8 0]) := TZ0.mk' (z := .agg #[.int .u8 0, .int .u8 0]) (by kernel_rfl)
instance : TE Tryd.prog 103 2 2 (#[.int .u8 0, .int .u8 0]) := TE.mk' (z := .agg #[.int .u8 0, .int .u8 0]) (by kernel_rfl)
instance : TSz Tryd.prog 103 2 := TSz.mk' (by kernel_rfl)
instance : FA Tryd.prog 103 0 0 := FA.mk' (f := 0) Tryd.underlying103 rfl (by kernel_rfl)
instance : FA Tryd.prog 103 1 1 := FA.mk' (f := 1) Tryd.underlying103 rfl (by kernel_rfl)
instance : TN Tryd.prog 104 2 := TN.mk' Tryd.underlying104 rfl (by kernel_rfl)
instance : TSt Tryd.prog 104 (#[.int .u8 0, .int .u8 0]) #[(0, 1), (1, 1)] := TSt.mk' (z := .agg #[.int .u8 0, .int .u8 0]) Tryd.underlying104 (by kernel_rfl) (by kernel_rfl)
instance : TZ0 Tryd.prog 104 (#[.int .u8 0, .int .u8 0]) := TZ0.mk' (z := .agg #[.int .u8 0, .int .u8 0]) (by kernel_rfl)
instance : TE Tryd.prog 104 2 2 (#[.int .u8 0, .int .u8 0]) := TE.mk' (z := .agg #[.int .u8 0, .int .u8 0]) (by kernel_rfl)
instance : TSz Tryd.prog 104 2 := TSz.mk' (by kernel_rfl)
instance : FA Tryd.prog 104 0 0 := FA.mk' (f := 0) Tryd.underlying104 rfl (by kernel_rfl)
instance : FA Tryd.prog 104 1 1 := FA.mk' (f := 1) Tryd.underlying104 rfl (by kernel_rfl)
instance : TN Tryd.prog 105 32 := TN.mk' Tryd.underlying105 rfl (by kernel_rfl)
instance : TZ0 Tryd.prog 105 (#[.int .u8 0, .int .u8 0, .int .u8 0, .int .u8 0, .int .u8 0, .int .u8 0, .int .u8 0, .int .u8 0, .int .u8 0, .int .u8 0, .int .u8 0, .int .u8 0, .int .u8 0, .int .u8 0, .int .u8 0, .int .u8 0, .int .u8 0, .int .u8 0, .int .u8 0, .int .u8 0, .int .u8 0, .int .u8 0, .int .u8 0, .int .u8 0, .int .u8 0, .int .u8 0, .int .u8 0, .int .u8 0, .int .u8 0, .int .u8 0, .int .u8 0, .int .u8 0]) := TZ0.mk' (z := .agg #[.int .u8 0, .int .u8 0, .int .u8 0, .int .u8 0, .int .u8 0, .int .u8 0, .int .u8 0, .int .u8 0, .int .u8 0, .int .u8 0, .int .u8 0, .int .u8 0, .int .u8 0, .int .u8 0, .int .u8 0, .int .u8 0, .int .u8 0, .int .u8 0, .int .u8 0, .int .u8 0, .int .u8 0, .int .u8 0, .int .u8 0, .int .u8 0, .int .u8 0, .int .u8 0, .int .u8 0, .int .u8 0, .int .u8 0, .int .u8 0, .int .u8 0, .int .u8 0]) (by kernel_rfl)
instance : TE Tryd.prog 105 32 32 (#[.int .u8 0, .int .u8 0, .int .u8 0, .int .u8 0, .int .u8 0, .int .u8 0, .int .u8 0, .int .u8 0, .int .u8 0, .int .u8 0, .int .u8 0, .int .u8 0, .int .u8 0, .int .u8 0, .int .u8 0, .int .u8 0, .int .u8 0, .int .u8 0, .int .u8 0, .int .u8 0, .int .u8 0, .int .u8 0, .int .u8 0, .int .u8 0, .int .u8 0, .int .u8 0, .int .u8 0, .int .u8 0, .int .u8 0, .int .u8 0, .int .u8 0, .int .u8 0]) := TE.mk' (z := .agg #[.int .u8 0, .int .u8 0, .int .u8 0, .int .u8 0, .int .u8 0, .int .u8 0, .int .u8 0, .int .u8 0, .int .u8 0, .int .u8 0, .int .u8 0, .int .u8 0, .int .u8 0, .int .u8 0, .int .u8 0, .int .u8 0, .int .u8 0, .int .u8 0, .int .u8 0, .int .u8 0, .int .u8 0, .int .u8 0, .int .u8 0, .int .u8 0, .int .u8 0, .int .u8 0, .int .u8 0, .int .u8 0, .int .u8 0, .int .u8 0, .int .u8 0, .int .u8 0]) (by kernel_rfl)
instance : TSz Tryd.prog 105 32 := TSz.mk' (by kernel_rfl)
instance : TAr Tryd.prog 105 16 104 := ⟨Tryd.underlying105⟩
instance : T1 Tryd.prog 106 := T1.mk' Tryd.underlying106 rfl (by kernel_rfl)
instance : TZ0 Tryd.prog 106 (#[.nilFunc]) := TZ0.mk' (z := .nilFunc) (by kernel_rfl)
instance : TE Tryd.prog 106 1 8 (#[.nilFunc]) := TE.mk' (z := .nilFunc) (by kernel_rfl)
instance : TSz Tryd.prog 106 1 := TSz.mk' (by kernel_rfl)
instance : T1 Tryd.prog 107 := T1.mk' Tryd.underlying107 rfl (by kernel_rfl)
instance : TZ0 Tryd.prog 107 (#[.nilFunc]) := TZ0.mk' (z := .nilFunc) (by kernel_rfl)
instance : TE Tryd.prog 107 1 8 (#[.nilFunc]) := TE.mk' (z := .nilFunc) (by kernel_rfl)
instance : TSz Tryd.prog 107 1 := TSz.mk' (by kernel_rfl)
instance : T1 Tryd.prog 108 := T1.mk' Tryd.underlying108 rfl (by kernel_rfl)
instance : TZ0 Tryd.prog 108 (#[.nilFunc]) := TZ0.mk' (z := .nilFunc) (by kernel_rfl)
instance : TE Tryd.prog 108 1 8 (#[.nilFunc]) := TE.mk' (z := .nilFunc) (by kernel_rfl)
instance : TSz Tryd.prog 108 1 := TSz.mk' (by kernel_rfl)
instance : T1 Tryd.prog 109 := T1.mk' Tryd.underlying109 rfl (by kernel_rfl)
instance : TZ0 Tryd.prog 109 (#[.nilFunc]) := TZ0.mk' (z := .nilFunc) (by kernel_rfl)
instance : TE Tryd.prog 109 1 8 (#[.nilFunc]) := TE.mk' (z := .nilFunc) (by kernel_rfl)
instance : TSz Tryd.prog 109 1 := TSz.mk' (by kernel_rfl)
instance : T1 Tryd.prog 110 := T1.mk' Tryd.underlying110 rfl (by kernel_rfl)
instance : TZ0 Tryd.prog 110 (#[.nilFunc]) := TZ0.mk' (z := .nilFunc) (by kernel_rfl)
instance : TE Tryd.prog 110 1 8 (#[.nilFunc]) := TE.mk' (z := .nilFunc) (by kernel_rfl)
instance : TSz Tryd.prog 110 1 := TSz.mk' (by kernel_rfl)
instance : TN Tryd.prog 111 4 := TN.mk' Tryd.underlying111 rfl (by kernel_rfl)
instance : TSt Tryd.prog 111 (#[.pointer none, .pointer none, .pointer none, .string ⟨#[]⟩]) #[(0, 1), (1, 1), (2, 1), (3, 1)] := TSt.mk' (z := .agg #[.pointer none, .pointer none, .pointer none, .string ⟨#[]⟩]) Tryd.underlying111 (by kernel_rfl) (by kernel_rfl)
instance : TZ0 Tryd.prog 111 (#[.pointer none, .pointer none, .pointer none, .string ⟨#[]⟩]) := TZ0.mk' (z := .agg #[.pointer none, .pointer none, .pointer none, .string ⟨#[]⟩]) (by kernel_rfl)
instance : TE Tryd.prog 111 4 40 (#[.pointer none, .pointer none, .pointer none, .string ⟨#[]⟩]) := TE.mk' (z := .agg #[.pointer none, .pointer none, .pointer none, .string ⟨#[]⟩]) (by kernel_rfl)
instance : TSz Tryd.prog 111 4 := TSz.mk' (by kernel_rfl)
instance : FA Tryd.prog 111 0 0 := FA.mk' (f := 0) Tryd.underlying111 rfl (by kernel_rfl)
instance : FA Tryd.prog 111 1 1 := FA.mk' (f := 1) Tryd.underlying111 rfl (by kernel_rfl)
instance : FA Tryd.prog 111 2 2 := FA.mk' (f := 2) Tryd.underlying111 rfl (by kernel_rfl)
instance : FA Tryd.prog 111 3 3 := FA.mk' (f := 3) Tryd.underlying111 rfl (by kernel_rfl)
instance : TN Tryd.prog 112 4 := TN.mk' Tryd.underlying112 rfl (by kernel_rfl)
instance : TSt Tryd.prog 112 (#[.pointer none, .pointer none, .pointer none, .string ⟨#[]⟩]) #[(0, 1), (1, 1), (2, 1), (3, 1)] := TSt.mk' (z := .agg #[.pointer none, .pointer none, .pointer none, .string ⟨#[]⟩]) Tryd.underlying112 (by kernel_rfl) (by kernel_rfl)
instance : TZ0 Tryd.prog 112 (#[.pointer none, .pointer none, .pointer none, .string ⟨#[]⟩]) := TZ0.mk' (z := .agg #[.pointer none, .pointer none, .pointer none, .string ⟨#[]⟩]) (by kernel_rfl)
instance : TE Tryd.prog 112 4 40 (#[.pointer none, .pointer none, .pointer none, .string ⟨#[]⟩]) := TE.mk' (z := .agg #[.pointer none, .pointer none, .pointer none, .string ⟨#[]⟩]) (by kernel_rfl)
instance : TSz Tryd.prog 112 4 := TSz.mk' (by kernel_rfl)
instance : FA Tryd.prog 112 0 0 := FA.mk' (f := 0) Tryd.underlying112 rfl (by kernel_rfl)
instance : FA Tryd.prog 112 1 1 := FA.mk' (f := 1) Tryd.underlying112 rfl (by kernel_rfl)
instance : FA Tryd.prog 112 2 2 := FA.mk' (f := 2) Tryd.underlying112 rfl (by kernel_rfl)
instance : FA Tryd.prog 112 3 3 := FA.mk' (f := 3) Tryd.underlying112 rfl (by kernel_rfl)
instance : TN Tryd.prog 113 0 := TN.mk' Tryd.underlying113 rfl (by kernel_rfl)
instance : TZ0 Tryd.prog 113 (#[]) := TZ0.mk' (z := .agg #[]) (by kernel_rfl)
instance : TE Tryd.prog 113 0 0 (#[]) := TE.mk' (z := .agg #[]) (by kernel_rfl)
instance : TSz Tryd.prog 113 0 := TSz.mk' (by kernel_rfl)
instance : TAr Tryd.prog 113 0 16 := ⟨Tryd.underlying113⟩
instance : TN Tryd.prog 114 0 := TN.mk' Tryd.underlying114 rfl (by kernel_rfl)
instance : TSt Tryd.prog 114 (#[]) #[(0, 0)] := TSt.mk' (z := .agg #[]) Tryd.underlying114 (by kernel_rfl) (by kernel_rfl)
instance : TZ0 Tryd.prog 114 (#[]) := TZ0.mk' (z := .agg #[]) (by kernel_rfl)
instance : TE Tryd.prog 114 0 0 (#[]) := TE.mk' (z := .agg #[]) (by kernel_rfl)
instance : TSz Tryd.prog 114 0 := TSz.mk' (by kernel_rfl)
instance : TN Tryd.prog 115 0 := TN.mk' Tryd.underlying115 rfl (by kernel_rfl)
instance : TSt Tryd.prog 115 (#[]) #[(0, 0)] := TSt.mk' (z := .agg #[]) Tryd.underlying115 (by kernel_rfl) (by kernel_rfl)
instance : TZ0 Tryd.prog 115 (#[]) := TZ0.mk' (z := .agg #[]) (by kernel_rfl)
instance : TE Tryd.prog 115 0 0 (#[]) := TE.mk' (z := .agg #[]) (by kernel_rfl)
instance : TSz Tryd.prog 115 0 := TSz.mk' (by kernel_rfl)
instance : T1 Tryd.prog 116 := T1.mk' Tryd.underlying116 rfl (by kernel_rfl)
instance : TZ0 Tryd.prog 116 (#[.nilFunc]) := TZ0.mk' (z := .nilFunc) (by kernel_rfl)
instance : TE Tryd.prog 116 1 8 (#[.nilFunc]) := TE.mk' (z := .nilFunc) (by kernel_rfl)
instance : TSz Tryd.prog 116 1 := TSz.mk' (by kernel_rfl)
instance : T1 Tryd.prog 117 := T1.mk' Tryd.underlying117 rfl (by kernel_rfl)
instance : TZ0 Tryd.prog 117 (#[.int .u32 0]) := TZ0.mk' (z := .int .u32 0) (by kernel_rfl)
instance : TE Tryd.prog 117 1 4 (#[.int .u32 0]) := TE.mk' (z := .int .u32 0) (by kernel_rfl)
instance : TSz Tryd.prog 117 1 := TSz.mk' (by kernel_rfl)
instance : T1 Tryd.prog 118 := T1.mk' Tryd.underlying118 rfl (by kernel_rfl)
instance : TZ0 Tryd.prog 118 (#[.int .u8 0]) := TZ0.mk' (z := .int .u8 0) (by kernel_rfl)
instance : TE Tryd.prog 118 1 1 (#[.int .u8 0]) := TE.mk' (z := .int .u8 0) (by kernel_rfl)
instance : TSz Tryd.prog 118 1 := TSz.mk' (by kernel_rfl)
instance : T1 Tryd.prog 119 := T1.mk' Tryd.underlying119 rfl (by kernel_rfl)
instance : TZ0 Tryd.prog 119 (#[.int .u8 0]) := TZ0.mk' (z := .int .u8 0) (by kernel_rfl)
instance : TE Tryd.prog 119 1 1 (#[.int .u8 0]) := TE.mk' (z := .int .u8 0) (by kernel_rfl)
instance : TSz Tryd.prog 119 1 := TSz.mk' (by kernel_rfl)
instance : T1 Tryd.prog 120 := T1.mk' Tryd.underlying120 rfl (by kernel_rfl)
instance : TZ0 Tryd.prog 120 (#[.nilFunc]) := TZ0.mk' (z := .nilFunc) (by kernel_rfl)
instance : TE Tryd.prog 120 1 8 (#[.nilFunc]) := TE.mk' (z := .nilFunc) (by kernel_rfl)
instance : TSz Tryd.prog 120 1 := TSz.mk' (by kernel_rfl)
instance : T1 Tryd.prog 121 := T1.mk' Tryd.underlying121 rfl (by kernel_rfl)
instance : TZ0 Tryd.prog 121 (#[.pointer none]) := TZ0.mk' (z := .pointer none) (by kernel_rfl)
instance : TE Tryd.prog 121 1 8 (#[.pointer none]) := TE.mk' (z := .pointer none) (by kernel_rfl)
instance : TSz Tryd.prog 121 1 := TSz.mk' (by kernel_rfl)
instance : T1 Tryd.prog 122 := T1.mk' Tryd.underlying122 rfl (by kernel_rfl)
instance : TZ0 Tryd.prog 122 (#[.int .i32 0]) := TZ0.mk' (z := .int .i32 0) (by kernel_rfl)
instance : TE Tryd.prog 122 1 4 (#[.int .i32 0]) := TE.mk' (z := .int .i32 0) (by kernel_rfl)
instance : TSz Tryd.prog 122 1 := TSz.mk' (by kernel_rfl)
instance : T1 Tryd.prog 123 := T1.mk' Tryd.underlying123 rfl (by kernel_rfl)
instance : TZ0 Tryd.prog 123 (#[.int .i32 0]) := TZ0.mk' (z := .int .i32 0) (by kernel_rfl)
instance : TE Tryd.prog 123 1 4 (#[.int .i32 0]) := TE.mk' (z := .int .i32 0) (by kernel_rfl)
instance : TSz Tryd.prog 123 1 := TSz.mk' (by kernel_rfl)
instance : TN Tryd.prog 124 11 := TN.mk' Tryd.underlying124 rfl (by kernel_rfl)
instance : TSt Tryd.prog 124 (#[.int .u64 0, .int .u64 0, .int .u32 0, .int .u8 0, .int .u8 0, .int .u8 0, .int .u8 0, .nilFunc, .pointer none, .int .i32 0, .int .i32 0]) #[(0, 1), (1, 1), (2, 1), (3, 1), (4, 1), (5, 1), (6, 1), (7, 1), (8, 1), (9, 1), (10, 1)] := TSt.mk' (z := .agg #[.int .u64 0, .int .u64 0, .int .u32 0, .int .u8 0, .int .u8 0, .int .u8 0, .int .u8 0, .nilFunc, .pointer none, .int .i32 0, .int .i32 0]) Tryd.underlying124 (by kernel_rfl) (by kernel_rfl)
instance : TZ0 Tryd.prog 124 (#[.int .u64 0, .int .u64 0, .int .u32 0, .int .u8 0, .int .u8 0, .int .u8 0, .int .u8 0, .nilFunc, .pointer none, .int .i32 0, .int .i32 0]) := TZ0.mk' (z := .agg #[.int .u64 0, .int .u64 0, .int .u32 0, .int .u8 0, .int .u8 0, .int .u8 0, .int .u8 0, .nilFunc, .pointer none, .int .i32 0, .int .i32 0]) (by kernel_rfl)
instance : TE Tryd.prog 124 11 48 (#[.int .u64 0, .int .u64 0, .int .u32 0, .int .u8 0, .int .u8 0, .int .u8 0, .int .u8 0, .nilFunc, .pointer none, .int .i32 0, .int .i32 0]) := TE.mk' (z := .agg #[.int .u64 0, .int .u64 0, .int .u32 0, .int .u8 0, .int .u8 0, .int .u8 0, .int .u8 0, .nilFunc, .pointer none, .int .i32 0, .int .i32 0]) (by kernel_rfl)
instance : TSz Tryd.prog 124 11 := TSz.mk' (by kernel_rfl)
instance : FA Tryd.prog 124 0 0 := FA.mk' (f := 0) Tryd.underlying124 rfl (by kernel_rfl)
instance : FA Tryd.prog 124 1 1 := FA.mk' (f := 1) Tryd.underlying124 rfl (by kernel_rfl)
instance : FA Tryd.prog 124 2 2 := FA.mk' (f := 2) Tryd.underlying124 rfl (by kernel_rfl)
instance : FA Tryd.prog 124 3 3 := FA.mk' (f := 3) Tryd.underlying124 rfl (by kernel_rfl)
instance : FA Tryd.prog 124 4 4 := FA.mk' (f := 4) Tryd.underlying124 rfl (by kernel_rfl)
instance : FA Tryd.prog 124 5 5 := FA.mk' (f := 5) Tryd.underlying124 rfl (by kernel_rfl)
instance : FA Tryd.prog 124 6 6 := FA.mk' (f := 6) Tryd.underlying124 rfl (by kernel_rfl)
instance : FA Tryd.prog 124 7 7 := FA.mk' (f := 7) Tryd.underlying124 rfl (by kernel_rfl)
instance : FA Tryd.prog 124 8 8 := FA.mk' (f := 8) Tryd.underlying124 rfl (by kernel_rfl)
instance : FA Tryd.prog 124 9 9 := FA.mk' (f := 9) Tryd.underlying124 rfl (by kernel_rfl)
instance : FA Tryd.prog 124 10 10 := FA.mk' (f := 10) Tryd.underlying124 rfl (by kernel_rfl)
instance : TN Tryd.prog 125 11 := TN.mk' Tryd.underlying125 rfl (by kernel_rfl)
instance : TSt Tryd.prog 125 (#[.int .u64 0, .int .u64 0, .int .u32 0, .int .u8 0, .int .u8 0, .int .u8 0, .int .u8 0, .nilFunc, .pointer none, .int .i32 0, .int .i32 0]) #[(0, 1), (1, 1), (2, 1), (3, 1), (4, 1), (5, 1), (6, 1), (7, 1), (8, 1), (9, 1), (10, 1)] := TSt.mk' (z := .agg #[.int .u64 0, .int .u64 0, .int .u32 0, .int .u8 0, .int .u8 0, .int .u8 0, .int .u8 0, .nilFunc, .pointer none, .int .i32 0, .int .i32 0]) Tryd.underlying125 (by kernel_rfl) (by kernel_rfl)
instance : TZ0 Tryd.prog 125 (#[.int .u64 0, .int .u64 0, .int .u32 0, .int .u8 0, .int .u8 0, .int .u8 0, .int .u8 0, .nilFunc, .pointer none, .int .i32 0, .int .i32 0]) := TZ0.mk' (z := .agg #[.int .u64 0, .int .u64 0, .int .u32 0, .int .u8 0, .int .u8 0, .int .u8 0, .int .u8 0, .nilFunc, .pointer none, .int .i32 0, .int .i32 0]) (by kernel_rfl)
instance : TE Tryd.prog 125 11 48 (#[.int .u64 0, .int .u64 0, .int .u32 0, .int .u8 0, .int .u8 0, .int .u8 0, .int .u8 0, .nilFunc, .pointer none, .int .i32 0, .int .i32 0]) := TE.mk' (z := .agg #[.int .u64 0, .int .u64 0, .int .u32 0, .int .u8 0, .int .u8 0, .int .u8 0, .int .u8 0, .nilFunc, .pointer none, .int .i32 0, .int .i32 0]) (by kernel_rfl)
instance : TSz Tryd.prog 125 11 := TSz.mk' (by kernel_rfl)
instance : FA Tryd.prog 125 0 0 := FA.mk' (f := 0) Tryd.underlying125 rfl (by kernel_rfl)
instance : FA Tryd.prog 125 1 1 := FA.mk' (f := 1) Tryd.underlying125 rfl (by kernel_rfl)
instance : FA Tryd.prog 125 2 2 := FA.mk' (f := 2) Tryd.underlying125 rfl (by kernel_rfl)
instance : FA Tryd.prog 125 3 3 := FA.mk' (f := 3) Tryd.underlying125 rfl (by kernel_rfl)
instance : FA Tryd.prog 125 4 4 := FA.mk' (f := 4) Tryd.underlying125 rfl (by kernel_rfl)
instance : FA Tryd.prog 125 5 5 := FA.mk' (f := 5) Tryd.underlying125 rfl (by kernel_rfl)
instance : FA Tryd.prog 125 6 6 := FA.mk' (f := 6) Tryd.underlying125 rfl (by kernel_rfl)
instance : FA Tryd.prog 125 7 7 := FA.mk' (f := 7) Tryd.underlying125 rfl (by kernel_rfl)
instance : FA Tryd.prog 125 8 8 := FA.mk' (f := 8) Tryd.underlying125 rfl (by kernel_rfl)
instance : FA Tryd.prog 125 9 9 := FA.mk' (f := 9) Tryd.underlying125 rfl (by kernel_rfl)
instance : FA Tryd.prog 125 10 10 := FA.mk' (f := 10) Tryd.underlying125 rfl (by kernel_rfl)
instance : T1 Tryd.prog 126 := T1.mk' Tryd.underlying126 rfl (by kernel_rfl)
instance : TZ0 Tryd.prog 126 (#[.pointer none]) := TZ0.mk' (z := .pointer none) (by kernel_rfl)
instance : TE Tryd.prog 126 1 8 (#[.pointer none]) := TE.mk' (z := .pointer none) (by kernel_rfl)
instance : TSz Tryd.prog 126 1 := TSz.mk' (by kernel_rfl)
instance : TF Tryd.prog 3 := TF.mk' Tryd.func3 (by kernel_rfl) rfl
instance : TF Tryd.prog 4 := TF.mk' Tryd.func4 (by kernel_rfl) rfl
instance : TF Tryd.prog 5 := TF.mk' Tryd.func5 (by kernel_rfl) rfl
instance : TF Tryd.prog 6 := TF.mk' Tryd.func6 (by kernel_rfl) rfl
instance : TF Tryd.prog 7 := TF.mk' Tryd.func7 (by kernel_rfl) rfl
instance : TF Tryd.prog 8 := TF.mk' Tryd.func8 (by kernel_rfl) rfl
instance : TF Tryd.prog 9 := TF.mk' Tryd.func9 (by kernel_rfl) rfl
instance : TF Tryd.prog 10 := TF.mk' Tryd.func10 (by kernel_rfl) rfl
instance : TF Tryd.prog 11 := TF.mk' Tryd.func11 (by kernel_rfl) rfl
instance : TF Tryd.prog 12 := TF.mk' Tryd.func12 (by kernel_rfl) rfl
instance : TF Tryd.prog 13 := TF.mk' Tryd.func13 (by kernel_rfl) rfl
instance : TF Tryd.prog 14 := TF.mk' Tryd.func14 (by kernel_rfl) rfl
instance : TF Tryd.prog 15 := TF.mk' Tryd.func15 (by kernel_rfl) rfl
instance : TF Tryd.prog 16 := TF.mk' Tryd.func16 (by kernel_rfl) rfl
instance : TF Tryd.prog 17 := TF.mk' Tryd.func17 (by kernel_rfl) rfl
instance : TF Tryd.prog 18 := TF.mk' Tryd.func18 (by kernel_rfl) rfl
instance : TF Tryd.prog 19 := TF.mk' Tryd.func19 (by kernel_rfl) rfl
instance : TF Tryd.prog 20 := TF.mk' Tryd.func20 (by kernel_rfl) rfl
instance : TF Tryd.prog 21 := TF.mk' Tryd.func21 (by kernel_rfl) rfl
instance : TF Tryd.prog 22 := TF.mk' Tryd.func22 (by kernel_rfl) rfl
instance : TF Tryd.prog 23 := TF.mk' Tryd.func23 (by kernel_rfl) rfl
instance : TF Tryd.prog 24 := TF.mk' Tryd.func24 (by kernel_rfl) rfl
instance : TF Tryd.prog 25 := TF.mk' Tryd.func25 (by kernel_rfl) rfl
instance : TF Tryd.prog 26 := TF.mk' Tryd.func26 (by kernel_rfl) rfl
instance : TF Tryd.prog 27 := TF.mk' Tryd.func27 (by kernel_rfl) rfl
instance : TF Tryd.prog 28 := TF.mk' Tryd.func28 (by kernel_rfl) rfl
instance : TF Tryd.prog 29 := TF.mk' Tryd.func29 (by kernel_rfl) rfl
instance : TF Tryd.prog 30 := TF.mk' Tryd.func30 (by kernel_rfl) rfl
instance : TF Tryd.prog 31 := TF.mk' Tryd.func31 (by kernel_rfl) rfl
instance : TF Tryd.prog 32 := TF.mk' Tryd.func32 (by kernel_rfl) rfl
instance : TF Tryd.prog 33 := TF.mk' Tryd.func33 (by kernel_rfl) rfl
instance : TF Tryd.prog 34 := TF.mk' Tryd.func34 (by kernel_rfl) rfl
instance : TF Tryd.prog 35 := TF.mk' Tryd.func35 (by kernel_rfl) rfl
instance : TF Tryd.prog 36 := TF.mk' Tryd.func36 (by kernel_rfl) rfl
instance : TF Tryd.prog 37 := TF.mk' Tryd.func37 (by kernel_rfl) rfl
instance : TF Tryd.prog 38 := TF.mk' Tryd.func38 (by kernel_rfl) rfl
instance : TF Tryd.prog 39 := TF.mk' Tryd.func39 (by kernel_rfl) rfl
instance : TF Tryd.prog 40 := TF.mk' Tryd.func40 (by kernel_rfl) rfl
instance : TF Tryd.prog 41 := TF.mk' Tryd.func41 (by kernel_rfl) rfl
instance : TF Tryd.prog 42 := TF.mk' Tryd.func42 (by kernel_rfl) rfl
instance : TF Tryd.prog 43 := TF.mk' Tryd.func43 (by kernel_rfl) rfl
instance : TF Tryd.prog 44 := TF.mk' Tryd.func44 (by kernel_rfl) rfl
instance : TF Tryd.prog 45 := TF.mk' Tryd.func45 (by kernel_rfl) rfl
instance : TF Tryd.prog 46 := TF.mk' Tryd.func46 (by kernel_rfl) rfl
instance : TF Tryd.prog 47 := TF.mk' Tryd.func47 (by kernel_rfl) rfl
instance : TF Tryd.prog 48 := TF.mk' Tryd.func48 (by kernel_rfl) rfl
instance : TF Tryd.prog 49 := TF.mk' Tryd.func49 (by kernel_rfl) rfl
instance : TF Tryd.prog 50 := TF.mk' Tryd.func50 (by kernel_rfl) rfl
instance : TF Tryd.prog 51 := TF.mk' Tryd.func51 (by kernel_rfl) rfl
instance : TF Tryd.prog 52 := TF.mk' Tryd.func52 (by kernel_rfl) rfl
instance : TF Tryd.prog 53 := TF.mk' Tryd.func53 (by kernel_rfl) rfl
instance : TF Tryd.prog 54 := TF.mk' Tryd.func54 (by kernel_rfl) rfl
instance : TF Tryd.prog 55 := TF.mk' Tryd.func55 (by kernel_rfl) rfl
instance : TF Tryd.prog 56 := TF.mk' Tryd.func56 (by kernel_rfl) rfl
instance : TF Tryd.prog 57 := TF.mk' Tryd.func57 (by kernel_rfl) rfl
instance : TF Tryd.prog 58 := TF.mk' Tryd.func58 (by kernel_rfl) rfl
instance : TF Tryd.prog 59 := TF.mk' Tryd.func59 (by kernel_rfl) rfl
instance : TF Tryd.prog 60 := TF.mk' Tryd.func60 (by kernel_rfl) rfl
instance : TF Tryd.prog 61 := TF.mk' Tryd.func61 (by kernel_rfl) rfl
instance : TF Tryd.prog 62 := TF.mk' Tryd.func62 (by kernel_rfl) rfl
instance : TF Tryd.prog 63 := TF.mk' Tryd.func63 (by kernel_rfl) rfl
instance : TF Tryd.prog 64 := TF.mk' Tryd.func64 (by kernel_rfl) rfl
instance : TF Tryd.prog 65 := TF.mk' Tryd.func65 (by kernel_rfl) rfl
instance : TF Tryd.prog 66 := TF.mk' Tryd.func66 (by kernel_rfl) rfl
instance : TF Tryd.prog 67 := TF.mk' Tryd.func67 (by kernel_rfl) rfl
instance : TF Tryd.prog 68 := TF.mk' Tryd.func68 (by kernel_rfl) rfl
instance : TF Tryd.prog 69 := TF.mk' Tryd.func69 (by kernel_rfl) rfl
instance : TF Tryd.prog 70 := TF.mk' Tryd.func70 (by kernel_rfl) rfl
instance : TF Tryd.prog 71 := TF.mk' Tryd.func71 (by kernel_rfl) rfl
instance : TF Tryd.prog 72 := TF.mk' Tryd.func72 (by kernel_rfl) rfl
instance : TF Tryd.prog 73 := TF.mk' Tryd.func73 (by kernel_rfl) rfl
instance : TF Tryd.prog 74 := TF.mk' Tryd.func74 (by kernel_rfl) rfl
instance : TF Tryd.prog 75 := TF.mk' Tryd.func75 (by kernel_rfl) rfl
instance : TF Tryd.prog 76 := TF.mk' Tryd.func76 (by kernel_rfl) rfl
instance : TF Tryd.prog 77 := TF.mk' Tryd.func77 (by kernel_rfl) rfl
instance : TF Tryd.prog 78 := TF.mk' Tryd.func78 (by kernel_rfl) rfl
instance : TF Tryd.prog 79 := TF.mk' Tryd.func79 (by kernel_rfl) rfl
instance : TF Tryd.prog 80 := TF.mk' Tryd.func80 (by kernel_rfl) rfl
instance : TF Tryd.prog 81 := TF.mk' Tryd.func81 (by kernel_rfl) rfl
instance : TF Tryd.prog 82 := TF.mk' Tryd.func82 (by kernel_rfl) rfl
instance : TF Tryd.prog 83 := TF.mk' Tryd.func83 (by kernel_rfl) rfl
instance : TF Tryd.prog 84 := TF.mk' Tryd.func84 (by kernel_rfl) rfl
instance : TF Tryd.prog 86 := TF.mk' Tryd.func86 (by kernel_rfl) rfl

theorem mixed : Tryd.prog.follows .mixedOrders = true := by kernel_rfl

end Go.Proofs.YtdehklhdjbkneaaDoor

/- The rules of the judgement, continued: closures, appends, calls that turn owned blocks; and slices as data. -/
namespace Go.Proofs.YtdehklhdjbkneaaDoor
open Go Go.RowKit
set_option linter.unusedSimpArgs false
set_option linter.unusedVariables false
set_option linter.unusedSectionVars false

section
variable {c : Cx} {Q : Exit → Act → World → Prop} {m : Mode} {F : SFrame} {H : SHeap} {r : List SOp} {g : Option (Option Tmp × Bool)} {ns : Bool} {d : Tmp} {ty t t' : TypeId} {x y : Operand}

theorem r_makeFunc {fn : Fn} {first captured : Array Operand} {vs us : List Value} (hd : dstOk c.n (some d) = true) (hg : guardF F g = some true) (hf : evArgs F first.toList = some vs) (hc : evArgs F captured.toList = some us)
    (h : JO c Q m r ((d, .func fn vs.toArray us.toArray) :: F) H) : JO c Q m (⟨some d, .makeFunc fn first captured, ty, g, .mov, ns⟩ :: r) F H :=
  r_mov hd hg (fun a w fr => by
    have h1 : first.map a.eval = vs.toArray := Array.ext' (by rw [Array.toList_map, evArgs_map fr hf])
    have h2 : captured.map a.eval = us.toArray := Array.ext' (by rw [Array.toList_map, evArgs_map fr hc])
    simp [execOp, Instr.makeFunc, h1, h2]) h

theorem call_core {f : FuncId} {vs : Array Value} {op : Op} {dd : Option Tmp} {R : World → Value → World → Prop} {a : Act} {w : World} (hs : match m with | .text => True | .draw Hs l => l = true → Hsat Hs w) (hm : m.mayCall ns r) (hd : dstOk c.n dd = true) (st : St c F H a w)
    (hrun : (execOp a.eval ⟨dd, op, ty, "", #[], none⟩).run c.P w = .ok (.enter f vs) w) (hc : Calls c.P f vs w (Ret fun v w' => Kp [] w w' ∧ R w v w'))
    (h : ∀ v w', Kp [] w w' → R w v w' → ∃ N, New N w w' ∧ JO c Q m r (putF F dd v) (H ++ N)) :
    Oper.wp c.P ⟨dd, op, ty, "", #[], none⟩ a w (fun a' w' =>
          Step c H w w' ∧ ∃ F' H' m', St c F' H' a' w' ∧ (∀ k ∈ keys H', k ∈ keys H ∨ k ∈ c.M ∨ w.heap.size ≤ k) ∧ m.after m' ns (noAllocs r) w' ∧ JL c (Q .normal) m' r F' H') (Only fun _ _ => False) := by
  unfold Oper.wp
  rw [hrun]
  refine Calls.mono hc fun e w' he => ?_
  cases e with
  | returned v =>
    obtain ⟨hk, hR⟩ := he
    obtain ⟨N, hn, hj⟩ := h v w' hk hR
    refine ⟨⟨hk.size, fun k hkk _ _ => hk.block k hkk (by simp)⟩, _, _, m, (st.new hk hn).put v hd, fun k hkk => ?_, Mode.after_call hk hs hm, hj.h⟩
    rw [keys, List.map_append] at hkk
    rcases List.mem_append.1 hkk with h | h
    · exact .inl h
    · obtain ⟨p, hp, rfl⟩ := List.mem_map.1 h
      exact .inr (.inr (hn.ge p hp))
  | panicked ch => exact he.elim
  | outgrown => exact he.elim

/-- A call of a function value that is known. -/
theorem r_callV {f : FuncId} {args : Array Operand} {ats : Array TypeId} {vs : List Value} {first cap : Array Value} {R : World → Value → World → Prop} [TF c.P f] (hm : m.mayCall ns r) (hd : dstOk c.n (some d) = true) (hg : guardF F g = some true)
    (hx : ev F x = some (.func (.func f) first cap)) (ha : evArgs F args.toList = some vs)
    (hc : ∀ w, Kp c.M c.w0 w → Hsat H w → Calls c.P f (first ++ vs.toArray ++ cap) w (Ret fun v w' => Kp [] w w' ∧ R w v w'))
    (h : ∀ w v w', Kp c.M c.w0 w → Hsat H w → Kp [] w w' → R w v w' → ∃ N, New N w w' ∧ JO c Q m r ((d, v) :: F) (H ++ N)) :
    JO c Q m (⟨some d, .call ⟨.value x, args, ats⟩, ty, g, .seq, ns⟩ :: r) F H := by
  refine ⟨⟨hd, .inr ⟨hg, fun a w st hs => ?_⟩⟩⟩
  have h1 : args.map a.eval = vs.toArray := Array.ext' (by rw [Array.toList_map, evArgs_map st.fr ha])
  have h0 : (resolve a.eval ⟨.value x, args, ats⟩ ty).run c.P w = .ok { target := .fn (.func f) cap, args := first ++ vs.toArray } w := by
    simp [resolve, h1, st.fr.ev hx, Deferred.ofValue]
  refine call_core hs hm hd st ?_ (hc w st.kp st.hs) (fun v w' => h w v w' st.kp st.hs)
  show (do let d ← resolve a.eval ⟨.value x, args, ats⟩ ty; invoke d.target d.args).run c.P w = _
  rw [Sem.run_bind, h0]
  simp only [Result.andThen_ok, invoke, TF.run]

theorem evArgs_run {f : FuncId} {args : Array Operand} {ats : Array TypeId} {vs : List Value} {a : Act} {w : World} {dd : Option Tmp} [TF c.P f] (fr : FrOK c.n F a) (ha : evArgs F args.toList = some vs) :
    (execOp a.eval ⟨dd, .call ⟨.value (.func f), args, ats⟩, ty, "", #[], none⟩).run c.P w = .ok (.enter f vs.toArray) w := by
  have h1 : args.map a.eval = vs.toArray := Array.ext' (by rw [Array.toList_map, evArgs_map fr ha])
  have h0 : (resolve a.eval ⟨.value (.func f), args, ats⟩ ty).run c.P w = .ok { target := .fn (.func f) #[], args := vs.toArray } w := by
    simp [resolve, h1, Act.eval, Deferred.ofValue]
  show (do let d ← resolve a.eval ⟨.value (.func f), args, ats⟩ ty; invoke d.target d.args).run c.P w = _
  rw [Sem.run_bind, h0]
  simp only [Result.andThen_ok, invoke, Array.append_empty, TF.run]

/-- A call that turns the owned block at place k, and may make new ones. -/
theorem r_callM {f : FuncId} {args : Array Operand} {ats : Array TypeId} {vs : List Value} {R : World → Value → World → Prop} [TF c.P f] (k : Nat) {b : Nat} {o : Obj} (hm : m.mayStore ns r) (hd : dstOk c.n (some d) = true) (hg : guardF F g = some true) (ha : evArgs F args.toList = some vs)
    (hb : H[k]? = some (b, o))
    (hc : ∀ w, Kp c.M c.w0 w → Hsat H w → Calls c.P f vs.toArray w (Ret fun v w' => Kp [b] w w' ∧ R w v w'))
    (h : ∀ w v w', Kp c.M c.w0 w → Hsat H w → Kp [b] w w' → R w v w' → ∃ N o', w'.heap[b]? = some o' ∧ New N w w' ∧ JO c Q m.spent r ((d, v) :: F) (H.set k (b, o') ++ N)) :
    JO c Q m (⟨some d, .call ⟨.value (.func f), args, ats⟩, ty, g, .seq, ns⟩ :: r) F H := by
  refine ⟨⟨hd, .inr ⟨hg, fun a w st hs => ?_⟩⟩⟩
  unfold Oper.wp SOp.oper
  rw [evArgs_run st.fr ha]
  refine Calls.mono (hc w st.kp st.hs) fun e w' he => ?_
  cases e with
  | panicked ch => exact he.elim
  | outgrown => exact he.elim
  | returned v =>
    obtain ⟨hk, hR⟩ := he
    obtain ⟨N, o', hb', hn, hj⟩ := h w v w' st.kp st.hs hk hR
    have hm' : (b, o) ∈ H := List.mem_of_getElem? hb
    have hne : ∀ p ∈ H.set k (b, o'), p = (b, o') ∨ (p ∈ H ∧ p.1 ≠ b) := fun p hp => by
      obtain ⟨i, hi⟩ := List.mem_iff_getElem?.1 hp
      rw [List.getElem?_set] at hi
      have hkl : k < H.length := (List.getElem?_eq_some_iff.1 hb).1
      by_cases hik : k = i
      · subst hik; simp only [hkl, if_true] at hi; exact .inl (Option.some.inj hi).symm
      · rw [if_neg hik] at hi
        refine .inr ⟨List.mem_of_getElem? hi, fun e => hik ?_⟩
        have e1 : (H.map (·.1))[k]? = some b := by simp [hb]
        have e2 : (H.map (·.1))[i]? = some b := by simp [hi, e]
        have hl := (List.getElem?_eq_some_iff.1 e1).1
        exact (List.getElem?_inj hl st.hs.nd).1 (e1.trans e2.symm)
    have hkeys : (H.set k (b, o')).map (·.1) = H.map (·.1) := by
      apply List.ext_getElem?
      intro i
      simp only [List.getElem?_map, List.getElem?_set]
      have hkl : k < H.length := (List.getElem?_eq_some_iff.1 hb).1
      by_cases hi : k = i
      · subst hi; simp only [hkl, if_true, hb, Option.map_some]
      · simp [hi]
    have hlt := st.hs.lt hm'
    refine ⟨⟨hk.size, fun j hj hjn _ => hk.block j hj (fun e => hjn (by simp at e; subst e; exact List.mem_map.2 ⟨_, hm', rfl⟩))⟩, _, _, m.spent, ⟨(st.fr.put v hd), ⟨hk.os.trans st.kp.os, hk.tape.trans st.kp.tape, hk.output.trans st.kp.output, Nat.le_trans st.kp.size hk.size, fun j hj hjm => ?_⟩, ⟨?_, fun p hp => ?_⟩, fun p hp => ?_⟩, fun j hj => ?_, Mode.after_spent hm, hj.h⟩
    · have : j ∉ [b] := fun e => by
        simp at e; subst e
        rcases st.wr _ hm' with h | h
        · have : c.w0.heap.size ≤ j := h
          omega
        · exact hjm h
      rw [hk.block j (Nat.lt_of_lt_of_le hj st.kp.size) this]; exact st.kp.block j hj hjm
    · rw [List.map_append, List.nodup_append, hkeys]
      refine ⟨st.hs.nd, hn.nd, fun a ha b hb hab => ?_⟩
      obtain ⟨p, hp, rfl⟩ := List.mem_map.1 ha
      obtain ⟨q, hq, rfl⟩ := List.mem_map.1 hb
      have h1 := hn.ge q hq
      have h2 := st.hs.lt hp
      omega
    · rcases List.mem_append.1 hp with hp | hp
      · rcases hne p hp with rfl | ⟨hp, hpb⟩
        · exact hb'
        · exact (hk.block p.1 (st.hs.lt hp) (by simpa using hpb)).trans (st.hs.blk p hp)
      · exact hn.blk p hp
    · rcases List.mem_append.1 hp with hp | hp
      · rcases hne p hp with rfl | ⟨hp, _⟩
        · exact st.wr (b, o) hm'
        · exact st.wr p hp
      · exact .inl (Nat.le_trans st.kp.size (hn.ge p hp))
    · rw [keys, List.map_append, hkeys] at hj
      rcases List.mem_append.1 hj with h | h
      · exact .inl h
      · obtain ⟨p, hp, rfl⟩ := List.mem_map.1 h
        exact .inr (.inr (hn.ge p hp))

/-! ### Slices that grow -/

/-- The slice value v (n elements of type e, sz cells each) owns the cells xs, in the blocks N (none, or one). -/
def OwnRow (e : TypeId) (sz : Nat) (N : SHeap) (v : Value) (n : Nat) (xs : List Value) : Prop :=
  xs.length = n * sz ∧
  ((v = .slice none 0 0 ∧ n = 0 ∧ N = []) ∨
   ∃ b cap cur, v = .slice (some ⟨b, 0, none⟩) n cap ∧ N = [(b, .cells cur e (0, 0))] ∧ n ≤ cap ∧ cap ≤ maxLen ∧ cur.size = cap * sz ∧ cur.toList.take (n * sz) = xs)

theorem OwnRow.nil (e : TypeId) (sz : Nat) : OwnRow e sz [] (.slice none 0 0) 0 [] := ⟨by simp, .inl ⟨rfl, rfl, rfl⟩⟩

theorem St.perm {H' : SHeap} {a : Act} {w : World} (st : St c F H a w) (hp : H.Perm H') : St c F H' a w :=
  ⟨st.fr, st.kp, ⟨(hp.map (·.1)).nodup_iff.1 st.hs.nd, fun p h => st.hs.blk p (hp.mem_iff.2 h)⟩, fun p h => st.wr p (hp.mem_iff.2 h)⟩


theorem run_append_row {P : Program} {w : World} {e t ty : TypeId} {i : TypeInfo} {z v : Value} {n mm cc : Nat} {xs news : List Value} {A : Option Addr} {N : SHeap} (ht : P.underlying t = some (.slice e)) (hi : P.info? e = some i) (hz : i.zero = some z)
    (hzs : z.cells.size = i.size) (hN : OwnRow e i.size N v n xs) (hb : ∀ p ∈ N, w.heap[p.1]? = some p.2) (hl : news.length = mm * i.size)
    (hnews : ∀ ad, A = some ad → ∀ j u, news[j]? = some u → w.cell? (ad.add j) = some u) (hA : 0 < mm → A.isSome = true) (h1 : ∀ u ∈ news, u.oneCell' = true) (h63 : n + mm ≤ maxLen) (hbytes : (n + mm) * i.bytes ≤ 140737488355328) :
    ∃ v' w' N', (Builtin.append_ #[t, t] ty #[v, .slice A mm cc]).run P w = .ok v' w' ∧ OwnRow e i.size N' v' (n + mm) (xs ++ news) ∧ (∀ p ∈ N', w'.heap[p.1]? = some p.2) ∧ (∀ k ∈ keys N', k ∈ keys N ∨ w.heap.size ≤ k) ∧
      (∀ k, k < w.heap.size → k ∉ keys N → w'.heap[k]? = w.heap[k]?) ∧ w.heap.size ≤ w'.heap.size ∧ w'.os = w.os ∧ w'.tape = w.tape ∧ w'.output = w.output := by
  obtain ⟨hxl, hN⟩ := hN
  by_cases hm0 : mm = 0
  · subst hm0
    have hn : news = [] := List.eq_nil_of_length_eq_zero (by simpa using hl)
    subst hn
    refine ⟨v, w, N, ?_, ⟨by simpa using hxl, by simpa using hN⟩, hb, fun k hk => .inl hk, fun _ _ _ => rfl, Nat.le_refl _, rfl, rfl, rfl⟩
    clear hnews hA h1 hbytes h63 hl hb hz hzs hxl
    rcases hN with ⟨rfl, rfl, rfl⟩ | ⟨b, cap, cur, rfl, rfl, h2, h3, h4, h5⟩
    · cases A <;> simp [Builtin.append_, run_underlying ht, sizeOf, typeInfo, hi, Builtin.lenOf, Builtin.firstCells, loadCells, loadCellsFrom]
    · clear h3 h4 h5
      cases A <;> simp [Builtin.append_, run_underlying ht, sizeOf, typeInfo, hi, Builtin.lenOf, Builtin.firstCells, loadCells, loadCellsFrom, storeCells, h2]
  · obtain ⟨ad, rfl⟩ := Option.isSome_iff_exists.1 (hA (by omega))
    have hnews := hnews ad rfl
    have hsmall : n + mm ≤ 9223372036854775807 := by simp only [maxLen] at h63; omega
    have hlen : (xs ++ news).length = (n + mm) * i.size := by rw [List.length_append, hxl, hl, Nat.add_mul]
    have grown : ∀ (old : Nat), old < n + mm → ∃ N', OwnRow e i.size N' (.slice (some ⟨w.heap.size, 0, none⟩) (n + mm) (grownCap w (n + mm) old e)) (n + mm) (xs ++ news) ∧
        (∀ p ∈ N', (w.drew.alloc (.cells (xs.toArray ++ news.toArray ++ Builtin.zeroCells z.cells (grownCap w (n + mm) old e - (n + mm))) e)).heap[p.1]? = some p.2) ∧ (∀ k ∈ keys N', k ∈ keys N ∨ w.heap.size ≤ k) := by
      intro old ho
      have hge := grownCap_ge w (n + mm) old e
      have hcm : grownCap w (n + mm) old e ≤ maxLen := grownCap_le_maxLen w (n + mm) old e h63
      refine ⟨[(w.heap.size, .cells (xs.toArray ++ news.toArray ++ Builtin.zeroCells z.cells (grownCap w (n + mm) old e - (n + mm))) e)], ⟨hlen, .inr ⟨w.heap.size, _, _, rfl, rfl, hge, hcm, ?_, ?_⟩⟩, ?_, ?_⟩
      · simp only [Array.size_append, List.size_toArray, size_zeroCells, hzs, hxl, hl, ← Nat.add_mul]
        congr 1
        omega
      · simp only [Array.toList_append, List.append_assoc]
        rw [← List.append_assoc, ← hlen]
        exact List.take_left
      · intro p hp
        cases List.mem_singleton.1 hp
        exact heap_alloc_new w.drew _
      · intro k hk
        simp [keys] at hk
        exact .inr (by omega)
    have gold : ∀ (o : Obj) (k : Nat), k < w.heap.size → k ∉ keys N → (w.drew.alloc o).heap[k]? = w.heap[k]? := fun o k hk _ => heap_alloc_old w.drew _ k hk
    have gsize : ∀ o : Obj, w.heap.size ≤ (w.drew.alloc o).heap.size := fun o => by show _ ≤ (w.heap.push o).size; simp
    rcases hN with ⟨rfl, rfl, rfl⟩ | ⟨b, cap, cur, rfl, rfl, h2, h3, h4, h5⟩
    · have hx : xs = [] := List.eq_nil_of_length_eq_zero (by simpa using hxl)
      subst hx
      have hr := run_append_nil (P := P) w t ty e i z ht hi hz ad mm cc news hl hnews (by omega) (by omega) (by have hb := hbytes; simp only [Nat.zero_add] at hb; omega)
      obtain ⟨N', g1, g2, g3⟩ := grown 0 (by omega)
      simp only [Nat.zero_add, List.nil_append, Array.empty_append] at g1 g2 ⊢
      exact ⟨_, _, N', hr, g1, g2, g3, gold _, gsize _, rfl, rfl, rfl⟩
    · have hg : w.heap[b]? = some (.cells cur e (0, 0)) := hb (b, _) (by simp)
      by_cases hroom : n + mm ≤ cap
      · have hfit : n * i.size + news.length ≤ cur.size := by rw [hl, h4, ← Nat.add_mul]; exact Nat.mul_le_mul_right _ hroom
        have hr := run_append_room (P := P) w t ty e i ht hi b n cap cur hg ad mm cc news hl hnews h1 hroom hfit
        refine ⟨_, _, [(b, .cells (cur.toList.take (n * i.size) ++ news ++ cur.toList.drop (n * i.size + news.length)).toArray e (0, 0))], hr, ⟨hlen, .inr ⟨b, cap, _, rfl, rfl, hroom, h3, ?_, ?_⟩⟩, ?_, ?_, ?_, by simp, rfl, rfl, rfl⟩
        · simp only [List.size_toArray, List.length_append, List.length_take, List.length_drop, Array.length_toList]
          omega
        · rw [h5, ← hlen]
          exact List.take_left
        · intro p hp
          cases List.mem_singleton.1 hp
          exact setRow_heap w b cur _ e _ hg
        · intro k hk
          exact .inl hk
        · intro k _ hk
          exact setRow_other w b k _ (fun e => hk (by simp [keys, e]))
      · have hadd : ∀ j, (⟨b, 0, none⟩ : Addr).add j = ⟨b, j, none⟩ := fun j => by unfold Addr.add; split <;> simp_all
        have holds : ∀ j u, xs[j]? = some u → w.cell? ((⟨b, 0, none⟩ : Addr).add j) = some u := fun j u hu => by
          rw [hadd, cell_of_row w b j cur e (0, 0) hg]
          rw [← h5, List.getElem?_take] at hu
          split at hu
          · simpa using hu
          · cases hu
        have hr := run_append_grow (P := P) w t ty e i z ht hi hz ⟨b, 0, none⟩ n cap xs hxl holds ad mm cc news hl hnews (by omega) (by omega) (growslice_fits (by omega) hbytes)
        obtain ⟨N', g1, g2, g3⟩ := grown cap (by omega)
        exact ⟨_, _, N', hr, g1, g2, g3, gold _, gsize _, rfl, rfl, rfl⟩

theorem OwnRow.nodup {e sz N v n xs} (h : OwnRow e sz N v n xs) : (N.map (·.1)).Nodup := by
  rcases h.2 with ⟨_, _, rfl⟩ | ⟨b, cap, cur, _, rfl, _⟩ <;> simp

/-- A step that turns the blocks N into N'. -/
theorem turn_step {H H0 N N' : SHeap} {a : Act} {w w' : World} (st : St c F H a w) (hH : H.Perm (H0 ++ N)) (hnd : (N'.map (·.1)).Nodup) (hb : ∀ p ∈ N', w'.heap[p.1]? = some p.2) (hk : ∀ k ∈ keys N', k ∈ keys N ∨ w.heap.size ≤ k)
    (ho : ∀ k, k < w.heap.size → k ∉ keys N → w'.heap[k]? = w.heap[k]?) (hsz : w.heap.size ≤ w'.heap.size) (h1 : w'.os = w.os) (h2 : w'.tape = w.tape) (h3 : w'.output = w.output) :
    St c F (H0 ++ N') a w' ∧ Step c H w w' ∧ (∀ k ∈ keys (H0 ++ N'), k ∈ keys H ∨ k ∈ c.M ∨ w.heap.size ≤ k) := by
  have st0 := st
  have st := st.perm hH
  have hN : ∀ k ∈ keys N, k ∈ keys H := fun k h => by
    obtain ⟨p, hp, rfl⟩ := List.mem_map.1 h
    exact List.mem_map.2 ⟨p, hH.mem_iff.2 (List.mem_append.2 (.inr hp)), rfl⟩
  have hH0 : ∀ k ∈ keys H0, k ∈ keys H := fun k h => by
    obtain ⟨p, hp, rfl⟩ := List.mem_map.1 h
    exact List.mem_map.2 ⟨p, hH.mem_iff.2 (List.mem_append.2 (.inl hp)), rfl⟩
  have hnod := st.hs.nd
  rw [List.map_append, List.nodup_append] at hnod
  have hlt0 : ∀ p ∈ H0, p.1 < w.heap.size := fun p hp => st.hs.lt (List.mem_append.2 (.inl hp))
  have hw : ∀ k ∈ keys N, c.w0.heap.size ≤ k ∨ k ∈ c.M := fun k h => by
    obtain ⟨p, hp, rfl⟩ := List.mem_map.1 h
    exact st.wr p (List.mem_append.2 (.inr hp))
  refine ⟨⟨st.fr, ⟨h1.trans st.kp.os, h2.trans st.kp.tape, h3.trans st.kp.output, Nat.le_trans st.kp.size hsz, fun k hk1 hkm => ?_⟩, ⟨?_, fun p hp => ?_⟩, fun p hp => ?_⟩, ⟨hsz, fun k hk1 hkn _ => ho k hk1 fun h => hkn (hN k h)⟩, fun k hk1 => ?_⟩
  · have : k ∉ keys N := fun h => by
      rcases hw k h with h | h
      · omega
      · exact hkm h
    rw [ho k (Nat.lt_of_lt_of_le hk1 st.kp.size) this]
    exact st.kp.block k hk1 hkm
  · rw [List.map_append, List.nodup_append]
    refine ⟨hnod.1, hnd, fun x hx y hy hxy => ?_⟩
    rcases hk y hy with h | h
    · exact hnod.2.2 x hx y h hxy
    · obtain ⟨p, hp, rfl⟩ := List.mem_map.1 hx
      have := hlt0 p hp
      omega
  · rcases List.mem_append.1 hp with hp | hp
    · have : p.1 ∉ keys N := fun h => hnod.2.2 p.1 (List.mem_map.2 ⟨p, hp, rfl⟩) p.1 h rfl
      rw [ho p.1 (hlt0 p hp) this]
      exact st.hs.blk p (List.mem_append.2 (.inl hp))
    · exact hb p hp
  · rcases List.mem_append.1 hp with hp | hp
    · exact st.wr p (List.mem_append.2 (.inl hp))
    · rcases hk p.1 (List.mem_map.2 ⟨p, hp, rfl⟩) with h | h
      · exact hw _ h
      · exact .inl (Nat.le_trans st.kp.size h)
  · rw [keys, List.map_append] at hk1
    rcases List.mem_append.1 hk1 with h | h
    · exact .inl (hH0 k h)
    · rcases hk k h with h | h
      · exact .inl (hN k h)
      · exact .inr (.inr h)

/-- 'out = append(out, src...)': out is nil or owned (the blocks N); the source's cells are 'news'. -/
theorem r_append {e : TypeId} {sz bytes : Nat} {zc : Array Value} {v : Value} {n mm cc : Nat} {xs news : List Value} {A : Option Addr} {N : SHeap} (H0 : SHeap) [TSl c.P t e] [TE c.P e sz bytes zc] (hzs : zc.size = sz)
    (hm : m.mayStore ns r) (hd : dstOk c.n (some d) = true) (hg : guardF F g = some true) (hx : ev F x = some v) (hy : ev F y = some (.slice A mm cc)) (hN : OwnRow e sz N v n xs) (hH : H.Perm (H0 ++ N))
    (hl : news.length = mm * sz) (hnews : ∀ w, Kp c.M c.w0 w → Hsat H w → ∀ ad, A = some ad → ∀ j u, news[j]? = some u → w.cell? (ad.add j) = some u) (hA : 0 < mm → A.isSome = true) (h1 : ∀ u ∈ news, u.oneCell' = true) (h63 : n + mm ≤ maxLen) (hbytes : (n + mm) * bytes ≤ 140737488355328)
    (h : ∀ v' N', OwnRow e sz N' v' (n + mm) (xs ++ news) → JO c Q m.spent r ((d, v') :: F) (H0 ++ N')) :
    JO c Q m (⟨some d, .call ⟨.builtin .append, #[x, y], #[t, t]⟩, ty, g, .seq, ns⟩ :: r) F H := by
  refine ⟨⟨hd, .inr ⟨hg, fun a w st _ => ?_⟩⟩⟩
  obtain ⟨i, z, hi, rfl, rfl, hz, rfl⟩ := TE.info (P := c.P) (e := e) (sz := sz) (bytes := bytes) (zc := zc)
  obtain ⟨v', w', N', hrun, hN', hb', hk', ho', hs', e1, e2, e3⟩ := run_append_row (P := c.P) (w := w) (ty := ty) (cc := cc) (TSl.und (P := c.P) (t := t)) hi hz hzs hN (fun p hp => st.hs.blk p (hH.mem_iff.2 (List.mem_append.2 (.inr hp)))) hl (hnews w st.kp st.hs) hA h1 h63 hbytes
  have hargs : (#[x, y] : Array Operand).map a.eval = #[v, .slice A mm cc] := by simp [st.fr.ev hx, st.fr.ev hy]
  have hexec : (execOp a.eval ⟨some d, .call ⟨.builtin .append, #[x, y], #[t, t]⟩, ty, "", #[], none⟩).run c.P w = .ok (.value v') w' := by
    show (do let d ← resolve a.eval ⟨.builtin .append, #[x, y], #[t, t]⟩ ty; invoke d.target d.args).run c.P w = _
    simp only [resolve, Sem.run_bind, Sem.run_pure, Result.andThen_ok, invoke, builtin, hargs]
    simp [hrun]
  unfold Oper.wp SOp.oper
  rw [hexec]
  obtain ⟨st', hstep, hkk⟩ := turn_step st hH hN'.nodup hb' hk' ho' hs' e1 e2 e3
  exact ⟨hstep, (d, v') :: F, H0 ++ N', m.spent, st'.put v' hd, hkk, Mode.after_spent hm, (h v' N' hN').h⟩

end
end Go.Proofs.YtdehklhdjbkneaaDoor

/- Slices as data: rows of cells that can be read, rows that are owned; their rules. -/
namespace Go.Proofs.YtdehklhdjbkneaaDoor
open Go Go.RowKit
set_option linter.unusedSimpArgs false
set_option linter.unusedVariables false
set_option linter.unusedSectionVars false

/-! ## Parts of a heap -/

/-- H' is a part of H. -/
def HSub (H' H : SHeap) : Prop := ∃ l, H.Perm (H' ++ l)

theorem HSub.nil (H : SHeap) : HSub [] H := ⟨H, by simp⟩
theorem HSub.refl (H : SHeap) : HSub H H := ⟨[], by simp⟩
theorem perm_eraseIdx {α : Type} : ∀ (l : List α) (k : Nat) (h : k < l.length), (l[k] :: l.eraseIdx k).Perm l
  | a :: l, 0, _ => by simp
  | a :: l, k + 1, h => by
    simp only [List.getElem_cons_succ, List.eraseIdx_cons_succ]
    exact (List.Perm.swap _ _ _).trans ((perm_eraseIdx l k (by simpa using h)).cons a)
theorem HSub.at {H r : SHeap} {p : Nat × Obj} (k : Nat) (hk : H[k]? = some p) (h : HSub r (H.eraseIdx k)) : HSub (p :: r) H := by
  obtain ⟨l, hl⟩ := h
  refine ⟨l, ?_⟩
  obtain ⟨h1, h2⟩ := List.getElem?_eq_some_iff.1 hk
  have : H.Perm (H[k] :: H.eraseIdx k) := (List.Perm.symm (perm_eraseIdx H k h1))
  rw [h2] at this
  exact this.trans (hl.cons p)
theorem HSub.sub {H' H : SHeap} (h : H'.Sublist H) : HSub H' H := by
  induction h with
  | slnil => exact HSub.nil _
  | cons a _ ih =>
    obtain ⟨l, hl⟩ := ih
    exact ⟨a :: l, (hl.cons a).trans List.perm_middle.symm⟩
  | cons_cons a _ ih =>
    obtain ⟨l, hl⟩ := ih
    exact ⟨l, by simpa using hl⟩
/-- The part N, then the rest. -/
theorem HSub.seg {A N B r : SHeap} (h : HSub r (A ++ B)) : HSub (N ++ r) (A ++ (N ++ B)) := by
  obtain ⟨l, hl⟩ := h
  refine ⟨l, ?_⟩
  have h1 : (A ++ (N ++ B)).Perm (N ++ (A ++ B)) := by
    rw [← List.append_assoc, ← List.append_assoc]
    exact List.perm_append_comm.append_right B
  rw [List.append_assoc]
  exact h1.trans (hl.append_left N)
theorem HSub.mem {H' H : SHeap} (h : HSub H' H) : ∀ p ∈ H', p ∈ H := fun p hp => by
  obtain ⟨l, hl⟩ := h
  exact hl.mem_iff.2 (List.mem_append.2 (.inl hp))
theorem HSub.trans {A B C : SHeap} (h : HSub A B) (k : HSub B C) : HSub A C := by
  obtain ⟨l, hl⟩ := h
  obtain ⟨m, hm⟩ := k
  exact ⟨l ++ m, hm.trans (by rw [← List.append_assoc]; exact hl.append_right m)⟩
theorem HSub.nodup {H' H : SHeap} (h : HSub H' H) (hn : (H.map (·.1)).Nodup) : (H'.map (·.1)).Nodup := by
  obtain ⟨l, hl⟩ := h
  have := (hl.map (·.1)).nodup_iff.1 hn
  rw [List.map_append, List.nodup_append] at this
  exact this.1
theorem HSub.hsat {H' H : SHeap} {w : World} (h : HSub H' H) (hs : Hsat H w) : Hsat H' w := hs.sub h.mem (h.nodup hs.nd)

section
variable {c : Cx} {Q : Exit → Act → World → Prop} {F : SFrame} {H : SHeap} {s : SCode}

theorem St.part {F' : SFrame} {H' : SHeap} {a : Act} {w : World} (h : St c F H a w) (hf : cov F F') (hh : HSub H' H) : St c F' H' a w :=
  ⟨⟨h.fr.defers, h.fr.size, fun i v hl => h.fr.fr i v (cov_look hf i v hl)⟩, h.kp, hh.hsat h.hs, fun p hp => h.wr p (hh.mem p hp)⟩

theorem JC.loopH {ι : Type} (I : LInv ι) (i0 : ι) (hp : I.p i0) (hf : cov F (I.F i0)) (hh : HSub (I.H i0) H)
    (round : ∀ i, I.p i → JC c (Exit.then (I.next c i) Q) s (I.F i) (I.H i)) : JC c Q (.loop s) F H := by
  refine ⟨fun a w st => ?_⟩
  refine ⟨fun n a w => ∃ i, I.p i ∧ I.m i = n ∧ St c (I.F i) (I.H i) a w, ⟨I.m i0, i0, hp, rfl, st.part hf hh⟩, ?_⟩
  rintro n a w ⟨i, hi, rfl, st⟩
  exact (round i hi).h a w st

theorem JX.roundH {ι : Type} {I : LInv ι} {i : ι} (j : ι) (hp : I.p j) (hm : I.m j < I.m i) (hf : cov F (I.F j)) (hh : HSub (I.H j) H) : JX c (Exit.then (I.next c i) Q) .normal F H :=
  ⟨fun _ _ st => ⟨I.m j, hm, j, hp, rfl, st.part hf hh⟩⟩

theorem JC.part {F' : SFrame} {H' : SHeap} (hf : cov F F') (hh : HSub H' H) (h : JC c Q s F' H') : JC c Q s F H := ⟨fun a w st => h.h a w (st.part hf hh)⟩
theorem JX.part {e : Exit} {F' : SFrame} {H' : SHeap} (hf : cov F F') (hh : HSub H' H) (h : JX c Q e F' H') : JX c Q e F H := ⟨fun a w st => h.h a w (st.part hf hh)⟩
end

theorem HSub.hd {p : Nat × Obj} {T : SHeap} : HSub [p] (p :: T) := HSub.at 0 rfl (HSub.nil _)
theorem HSub.in0 {N B : SHeap} : HSub N (N ++ B) := ⟨B, List.Perm.refl _⟩
theorem HSub.skip {N T : SHeap} {p : Nat × Obj} (h : HSub N T) : HSub N (p :: T) := h.trans (HSub.sub (List.sublist_cons_self _ _))
theorem HSub.skipN {N T M : SHeap} (h : HSub N T) : HSub N (M ++ T) := h.trans (HSub.sub (List.sublist_append_right _ _))

/-- A region that draws its order, of whose heap the part Hs stays as it is while it loads. -/
theorem JC.opsDs {c : Cx} {Q : Exit → Act → World → Prop} {F : SFrame} {H : SHeap} {l : List SOp} (Hs : SHeap) (hs : HSub Hs H) (h : JO c Q (.draw Hs true) l F H) : JC c Q (.opsD l) F H := ⟨fun _ _ st => ⟨F, H, Hs, st, hs.hsat st.hs, h.h⟩⟩

theorem at0 {α : Type} {a0 : α} {l : List α} : (a0 :: l)[0]? = some a0 := rfl
theorem at1 {α : Type} {a0 a1 : α} {l : List α} : (a0 :: a1 :: l)[1]? = some a1 := rfl
theorem at2 {α : Type} {a0 a1 a2 : α} {l : List α} : (a0 :: a1 :: a2 :: l)[2]? = some a2 := rfl
theorem at3 {α : Type} {a0 a1 a2 a3 : α} {l : List α} : (a0 :: a1 :: a2 :: a3 :: l)[3]? = some a3 := rfl
theorem at4 {α : Type} {a0 a1 a2 a3 a4 : α} {l : List α} : (a0 :: a1 :: a2 :: a3 :: a4 :: l)[4]? = some a4 := rfl
theorem at5 {α : Type} {a0 a1 a2 a3 a4 a5 : α} {l : List α} : (a0 :: a1 :: a2 :: a3 :: a4 :: a5 :: l)[5]? = some a5 := rfl
theorem at6 {α : Type} {a0 a1 a2 a3 a4 a5 a6 : α} {l : List α} : (a0 :: a1 :: a2 :: a3 :: a4 :: a5 :: a6 :: l)[6]? = some a6 := rfl
theorem at7 {α : Type} {a0 a1 a2 a3 a4 a5 a6 a7 : α} {l : List α} : (a0 :: a1 :: a2 :: a3 :: a4 :: a5 :: a6 :: a7 :: l)[7]? = some a7 := rfl
theorem at8 {α : Type} {a0 a1 a2 a3 a4 a5 a6 a7 a8 : α} {l : List α} : (a0 :: a1 :: a2 :: a3 :: a4 :: a5 :: a6 :: a7 :: a8 :: l)[8]? = some a8 := rfl
theorem at9 {α : Type} {a0 a1 a2 a3 a4 a5 a6 a7 a8 a9 : α} {l : List α} : (a0 :: a1 :: a2 :: a3 :: a4 :: a5 :: a6 :: a7 :: a8 :: a9 :: l)[9]? = some a9 := rfl

/-! ## Rows of cells -/

/-- Place j of a slice. -/
def vAt : Value → Nat → Addr
  | .slice (some a) _ _, j => ⟨a.block, a.off + j, none⟩
  | _, j => ⟨0, j, none⟩

@[simp] theorem vAt_lit (b o n k j : Nat) (s : Option _) : vAt (.slice (some ⟨b, o, s⟩) n k) j = ⟨b, o + j, none⟩ := rfl

/-- At w, the slice v (n elements of sz cells) reads as the cells cs. -/
def RdW (w : World) (sz : Nat) (v : Value) (n : Nat) (cs : List Value) : Prop :=
  cs.length = n * sz ∧ ∃ A cap, v = .slice A n cap ∧ n ≤ cap ∧ (0 < n → (∃ b o, A = some ⟨b, o, none⟩) ∧ ∀ j u, cs[j]? = some u → w.cell? (vAt v j) = some u)

/-- While the blocks N are what they are (and what was there at the start is), v reads as cs. -/
def Rd (c : Cx) (N : SHeap) (sz : Nat) (v : Value) (n : Nat) (cs : List Value) : Prop :=
  cs.length = n * sz ∧ ∃ A cap, v = .slice A n cap ∧ n ≤ cap ∧ (0 < n → (∃ b o, A = some ⟨b, o, none⟩) ∧ ∀ w, Src c N w → ∀ j u, cs[j]? = some u → w.cell? (vAt v j) = some u)

theorem RdW.mono {w w' : World} {sz n : Nat} {v : Value} {cs : List Value} (h : RdW w sz v n cs) (hk : Kp [] w w') : RdW w' sz v n cs := by
  obtain ⟨hl, A, cap, rfl, hn, h⟩ := h
  refine ⟨hl, A, cap, rfl, hn, fun h0 => ⟨(h h0).1, fun j u hu => ?_⟩⟩
  have := (h h0).2 j u hu
  have hb := hk.block _ (lt_of_cell this) (by simp)
  unfold World.cell? at this ⊢
  rw [hb]; exact this

/-- The data of an argument, in the callee. -/
theorem RdW.rd {c : Cx} {sz n : Nat} {v : Value} {cs : List Value} (h : RdW c.w0 sz v n cs) (hM : c.M = []) (N : SHeap) : Rd c N sz v n cs := by
  obtain ⟨hl, A, cap, rfl, hn, h⟩ := h
  refine ⟨hl, A, cap, rfl, hn, fun h0 => ⟨(h h0).1, fun w hw j u hu => ?_⟩⟩
  exact old_cell hw.1 ((h h0).2 j u hu) (by simp [hM])

theorem RdW.rdM {c : Cx} {sz n : Nat} {v : Value} {cs : List Value} (h : RdW c.w0 sz v n cs) (hM : 0 < n → (vAt v 0).block ∉ c.M) (N : SHeap) : Rd c N sz v n cs := by
  obtain ⟨hl, A, cap, rfl, hn, h⟩ := h
  refine ⟨hl, A, cap, rfl, hn, fun h0 => ⟨(h h0).1, fun w hw j u hu => ?_⟩⟩
  refine old_cell hw.1 ((h h0).2 j u hu) ?_
  obtain ⟨b, o, rfl⟩ := (h h0).1
  exact hM h0

theorem Src.part {c : Cx} {N H : SHeap} {w : World} (h : Src c H w) (hs : HSub N H) : Src c N w := ⟨h.1, hs.hsat h.2⟩

theorem Rd.at {c : Cx} {N H : SHeap} {w : World} {sz n : Nat} {v : Value} {cs : List Value} (h : Rd c N sz v n cs) (hk : Kp c.M c.w0 w) (hs : Hsat H w) (hN : HSub N H) : RdW w sz v n cs := by
  obtain ⟨hl, A, cap, rfl, hn, h⟩ := h
  exact ⟨hl, A, cap, rfl, hn, fun h0 => ⟨(h h0).1, fun j u hu => (h h0).2 w ⟨hk, hN.hsat hs⟩ j u hu⟩⟩

theorem Rd.up {c : Cx} {N N' : SHeap} {sz n : Nat} {v : Value} {cs : List Value} (h : Rd c N sz v n cs) (hN : HSub N N') : Rd c N' sz v n cs := by
  obtain ⟨hl, A, cap, rfl, hn, h⟩ := h
  exact ⟨hl, A, cap, rfl, hn, fun h0 => ⟨(h h0).1, fun w hw j u hu => (h h0).2 w (hw.part hN) j u hu⟩⟩

theorem OwnRow.rd {c : Cx} {e : TypeId} {N : SHeap} {sz n : Nat} {v : Value} {cs : List Value} (h : OwnRow e sz N v n cs) : Rd c N sz v n cs := by
  obtain ⟨hl, ⟨rfl, rfl, rfl⟩ | ⟨b, cap, cur, rfl, rfl, h2, h3, h4, h5⟩⟩ := h
  · exact ⟨hl, none, 0, rfl, Nat.le_refl _, fun h => by omega⟩
  · refine ⟨hl, _, cap, rfl, h2, fun h0 => ⟨⟨b, 0, rfl⟩, fun w hw j u hu => ?_⟩⟩
    rw [← h5, List.getElem?_take] at hu
    split at hu
    · simp only [vAt_lit, Nat.zero_add]
      exact cell_of_blk (hw.2.blk (b, .cells cur e (0, 0)) (List.mem_singleton.2 rfl)) (by simpa using hu)
    · cases hu

/-- A block that was made with these cells, as an owned row. -/
theorem OwnRow.mk' {e : TypeId} {sz n b : Nat} {cs : Array Value} (hl : cs.size = n * sz) (hn : n ≤ maxLen) : OwnRow e sz [(b, .cells cs e)] (.slice (some ⟨b, 0, none⟩) n n) n cs.toList :=
  ⟨by simpa using hl, .inr ⟨b, n, cs, rfl, rfl, Nat.le_refl _, hn, hl, by rw [List.take_of_length_le (by simp [hl])]⟩⟩

/-- The same for other cells in the block. -/
theorem OwnRow.blk {e : TypeId} {sz n b : Nat} {cs : Array Value} (hl : cs.size = n * sz) (hn : n ≤ maxLen) : OwnRow e sz [(b, .cells cs e (0, 0))] (.slice (some ⟨b, 0, none⟩) n n) n cs.toList := OwnRow.mk' hl hn

theorem New.rd {c : Cx} {e : TypeId} {N : SHeap} {sz n : Nat} {v : Value} {cs : List Value} {w w' : World} (h : OwnRow e sz N v n cs) (hn : New N w w') : RdW w' sz v n cs := by
  obtain ⟨hl, ⟨rfl, rfl, rfl⟩ | ⟨b, cap, cur, rfl, rfl, h2, h3, h4, h5⟩⟩ := h
  · exact ⟨hl, none, 0, rfl, Nat.le_refl _, fun h => by omega⟩
  · refine ⟨hl, _, cap, rfl, h2, fun h0 => ⟨⟨b, 0, rfl⟩, fun j u hu => ?_⟩⟩
    rw [← h5, List.getElem?_take] at hu
    split at hu
    · simp only [vAt_lit, Nat.zero_add]
      exact cell_of_blk (hn.blk (b, .cells cur e (0, 0)) (List.mem_singleton.2 rfl)) (by simpa using hu)
    · cases hu

/-- The blocks of a state's heap that are new since the start. -/
theorem St.newOf {c : Cx} {F : SFrame} {H N : SHeap} {a : Act} {w : World} (st : St c F H a w) (hM : c.M = []) (hN : HSub N H) : New N c.w0 w :=
  ⟨hN.nodup st.hs.nd, fun p hp =>
    (st.wr p (hN.mem p hp)).elim (fun h => h) (fun h => by rw [hM] at h; cases h), fun p hp => st.hs.blk p (hN.mem p hp)⟩
theorem St.newM {c : Cx} {F : SFrame} {H N : SHeap} {a : Act} {w : World} (st : St c F H a w) (hN : HSub N H) (hM : ∀ p ∈ N, p.1 ∉ c.M) : New N c.w0 w :=
  ⟨hN.nodup st.hs.nd, fun p hp =>
    (st.wr p (hN.mem p hp)).elim (fun h => h) (fun h => (hM p hp h).elim), fun p hp => st.hs.blk p (hN.mem p hp)⟩

section
variable {c : Cx} {Q : Exit → Act → World → Prop} {m : Mode} {F : SFrame} {H : SHeap} {r : List SOp} {g : Option (Option Tmp × Bool)} {ns : Bool} {d : Tmp} {ty t t' : TypeId} {x y : Operand}

theorem r_lenR {e : TypeId} {N : SHeap} {sz n : Nat} {v : Value} {cs : List Value} [TSl c.P t e] (hd : dstOk c.n (some d) = true) (hg : guardF F g = some true) (hx : ev F x = some v) (hv : Rd c N sz v n cs)
    (h : JO c Q m r ((d, .int .i64 n) :: F) H) : JO c Q m (⟨some d, .call ⟨.builtin .len, #[x], #[t]⟩, ty, g, .mov, ns⟩ :: r) F H := by
  obtain ⟨_, A, cap, rfl, _⟩ := hv
  exact r_len hd hg hx h

theorem r_idxR {e : TypeId} {N : SHeap} {sz n j : Nat} {v : Value} {cs : List Value} {k : IntKind} [TSl c.P t e] [TSz c.P e sz] (hd : dstOk c.n (some d) = true) (hg : guardF F g = some true) (hx : ev F x = some v) (hy : ev F y = some (.int k j)) (hv : Rd c N sz v n cs) (hj : j < n)
    (h : JO c Q m r ((d, .pointer (some (vAt v (j * sz)))) :: F) H) : JO c Q m (⟨some d, .indexAddr t x y, ty, g, .mov, ns⟩ :: r) F H := by
  obtain ⟨_, A, cap, rfl, _, hv⟩ := hv
  obtain ⟨⟨b, o, rfl⟩, _⟩ := hv (by omega)
  exact r_index hd hg hx (fun _ => rfl) hy hj h
theorem r_idxR1 {e : TypeId} {N : SHeap} {n j : Nat} {v : Value} {cs : List Value} {k : IntKind} [TSl c.P t e] [TSz c.P e 1] (hd : dstOk c.n (some d) = true) (hg : guardF F g = some true) (hx : ev F x = some v) (hy : ev F y = some (.int k j)) (hv : Rd c N 1 v n cs) (hj : j < n)
    (h : JO c Q m r ((d, .pointer (some (vAt v j))) :: F) H) : JO c Q m (⟨some d, .indexAddr t x y, ty, g, .mov, ns⟩ :: r) F H :=
  r_idxR hd hg hx hy hv hj (by rw [Nat.mul_one]; exact h)

theorem r_ldR {N : SHeap} {sz n i : Nat} {v u : Value} {cs : List Value} [T1 c.P t] (hd : dstOk c.n (some d) = true) (hg : guardF F g = some true) (hx : ev F x = some (.pointer (some (vAt v i)))) (hl : m.live = true) (hv : Rd c N sz v n cs) (hN : HSub N (m.src H)) (hu : cs[i]? = some u)
    (h : JO c Q m r ((d, u) :: F) H) : JO c Q m (⟨some d, .load t x, ty, g, .ld, ns⟩ :: r) F H := by
  refine r_ld hd hg hl (fun a w fr hs => ?_) h
  have hi := (List.getElem?_eq_some_iff.1 hu).1
  obtain ⟨hlen, A, cap, rfl, _, hv⟩ := hv
  have h0 : 0 < n := by
    rcases Nat.eq_zero_or_pos n with h | h
    · subst h; simp at hlen; simp [hlen] at hi
    · exact h
  have := (hv h0).2 w (hs.part hN) i u hu
  simp only [execOp, fr.ev hx, Sem.run_bind, run_load1 this, Result.andThen_ok, Sem.run_pure]

/-- An element of k cells. -/
theorem r_ldRN {N : SHeap} {sz n i k : Nat} {v : Value} {us : Array Value} {cs : List Value} [TN c.P t k] (hd : dstOk c.n (some d) = true) (hg : guardF F g = some true) (hx : ev F x = some (.pointer (some (vAt v i)))) (hl : m.live = true) (hv : Rd c N sz v n cs) (hN : HSub N (m.src H)) (h0 : 0 < n)
    (hk : us.size = k) (hu : ∀ j, j < k → cs[i + j]? = us[j]?) (h : JO c Q m r ((d, .agg us) :: F) H) : JO c Q m (⟨some d, .load t x, ty, g, .ld, ns⟩ :: r) F H := by
  refine r_ld hd hg hl (fun a w fr hs => ?_) h
  obtain ⟨hlen, A, cap, rfl, _, hv⟩ := hv
  obtain ⟨⟨b, o, rfl⟩, hv⟩ := hv h0
  have := run_loadN (P := c.P) (t := t) (n := k) (w := w) (b := b) (o := o + i) (vs := us) hk (fun j hj => by
    have hj' : j < us.size := by omega
    have h1 := hu j hj
    rw [Array.getElem?_eq_getElem hj'] at h1 ⊢
    have := hv w (hs.part hN) (i + j) _ h1
    simpa [Nat.add_assoc] using this)
  simp only [execOp, fr.ev hx, vAt_lit, Sem.run_bind, this, Result.andThen_ok, Sem.run_pure]

theorem r_sliceR {e : TypeId} {N : SHeap} {sz n l h' : Nat} {v : Value} {cs : List Value} {lo hi : Option Operand} {vl vh : Option Value} [TSl c.P t e] [TSz c.P e sz] (hd : dstOk c.n (some d) = true) (hg : guardF F g = some true)
    (hx : ev F x = some v) (hv : Rd c N sz v n cs)
    (hlo : (lo.bind (ev F)) = vl) (hlo' : lo.isSome = vl.isSome) (hl : vl = some (.int .i64 l) ∨ (vl = none ∧ l = 0)) (hhi : (hi.bind (ev F)) = vh) (hhi' : hi.isSome = vh.isSome) (hh : vh = some (.int .i64 h') ∨ (vh = none ∧ h' = n))
    (hlh : l ≤ h') (hhl : h' ≤ n)
    (h : ∀ v', Rd c N sz v' (h' - l) ((cs.drop (l * sz)).take ((h' - l) * sz)) → (∀ i, l < h' → vAt v' i = vAt v (l * sz + i)) → JO c Q m r ((d, v') :: F) H) : JO c Q m (⟨some d, .slice t x lo hi none, ty, g, .mov, ns⟩ :: r) F H := by
  obtain ⟨hlen, A, cap, rfl, hnc, hv⟩ := hv
  by_cases hn0 : 0 < n
  · obtain ⟨⟨b, o, rfl⟩, hv⟩ := hv hn0
    refine r_slice hd hg hx (fun _ => rfl) hlo hlo' hl hhi hhi' hh hlh hhl hnc fun A' hA' => h _ ⟨?_, A', _, rfl, by omega, fun h0 => ?_⟩ (fun i hi => ?_)
    · rw [List.length_take, List.length_drop, hlen, Nat.sub_mul]
      have h1 := Nat.mul_le_mul_right sz hhl
      have h2 := Nat.mul_le_mul_right sz hlh
      omega
    · have hA := hA' (by omega)
      subst hA
      refine ⟨⟨_, _, rfl⟩, fun w hw j u hu => ?_⟩
      rw [List.getElem?_take] at hu
      split at hu
      · rw [List.getElem?_drop] at hu
        have := hv w hw _ u hu
        simpa [Nat.add_assoc] using this
      · cases hu
    · have hA := hA' (by omega)
      subst hA
      simp [Nat.add_assoc]
  · have : n = 0 := by omega
    subst this
    refine r_slice (b := 0) (o := 0) hd hg hx (fun h => by omega) hlo hlo' hl hhi hhi' hh hlh hhl hnc fun A' hA' => h _ ⟨?_, A', _, rfl, by omega, fun h0 => by omega⟩ (fun i hi => by omega)
    have hl0 : h' - l = 0 := by omega
    rw [List.length_take, hl0]; simp

theorem OwnRow.set {e : TypeId} {N : SHeap} {sz n : Nat} {v : Value} {cs : List Value} (h : OwnRow e sz N v n cs) {i : Nat} (hi : i < n * sz) :
    ∃ b cap cur, v = .slice (some ⟨b, 0, none⟩) n cap ∧ N = [(b, .cells cur e (0, 0))] ∧ i < cur.size ∧ (∀ u, OwnRow e sz [(b, .cells (cur.setIfInBounds i u) e (0, 0))] v n (cs.set i u)) := by
  obtain ⟨hl, ⟨rfl, rfl, rfl⟩ | ⟨b, cap, cur, rfl, rfl, h2, h3, h4, h5⟩⟩ := h
  · omega
  · have hle := Nat.mul_le_mul_right sz h2
    refine ⟨b, cap, cur, rfl, rfl, by omega, fun u => ⟨by simpa using hl, .inr ⟨b, cap, _, rfl, rfl, h2, h3, by simpa using h4, ?_⟩⟩⟩
    rw [Array.toList_setIfInBounds, ← h5, List.take_set]

theorem r_stO {e : TypeId} {N A B : SHeap} {sz n i : Nat} {v u : Value} {cs : List Value} [T1 c.P t] (hO : OwnRow e sz N v n cs) (hH : H = A ++ (N ++ B)) (hg : guardF F g = some true) (hm : m.mayStore ns r) (hx : ev F x = some (.pointer (some (vAt v i)))) (hy : ev F y = some u)
    (hc : u.cells.toList = [u]) (hv : u.oneCell' = true) (hi : i < n * sz) (h : ∀ N', OwnRow e sz N' v n (cs.set i u) → JO c Q m.spent r F (A ++ (N' ++ B))) :
    JO c Q m (⟨none, .store t x y, ty, g, .seq, ns⟩ :: r) F H := by
  obtain ⟨b, cap, cur, rfl, rfl, h1, h2⟩ := hO.set hi
  subst hH
  simp only [vAt_lit, Nat.zero_add] at hx
  refine r_store A.length (b := b) (o := i) (cs := cur) (T := e) hg hm hx hy (by simp) hc hv h1 ?_
  have := h _ (h2 u)
  simpa using this

/-! ## Calls, with a place for the new blocks -/

theorem perm_mid (A N B : SHeap) : ((A ++ B) ++ N).Perm (A ++ (N ++ B)) := by
  rw [List.append_assoc]
  exact List.perm_append_comm.append_left A

theorem call_coreA {A B : SHeap} {f : FuncId} {vs : Array Value} {op : Op} {dd : Option Tmp} {R : World → Value → World → Prop} {a : Act} {w : World} (hH : H = A ++ B) (hs : match m with | .text => True | .draw Hs l => l = true → Hsat Hs w) (hm : m.mayCall ns r) (hd : dstOk c.n dd = true) (st : St c F H a w)
    (hrun : (execOp a.eval ⟨dd, op, ty, "", #[], none⟩).run c.P w = .ok (.enter f vs) w) (hc : Calls c.P f vs w (Ret fun v w' => Kp [] w w' ∧ R w v w'))
    (h : ∀ v w', Kp [] w w' → R w v w' → ∃ N, New N w w' ∧ JO c Q m r (putF F dd v) (A ++ (N ++ B))) :
    Oper.wp c.P ⟨dd, op, ty, "", #[], none⟩ a w (fun a' w' =>
          Step c H w w' ∧ ∃ F' H' m', St c F' H' a' w' ∧ (∀ k ∈ keys H', k ∈ keys H ∨ k ∈ c.M ∨ w.heap.size ≤ k) ∧ m.after m' ns (noAllocs r) w' ∧ JL c (Q .normal) m' r F' H') (Only fun _ _ => False) := by
  subst hH
  unfold Oper.wp
  rw [hrun]
  refine Calls.mono hc fun e w' he => ?_
  cases e with
  | returned v =>
    obtain ⟨hk, hR⟩ := he
    obtain ⟨N, hn, hj⟩ := h v w' hk hR
    refine ⟨⟨hk.size, fun k hkk _ _ => hk.block k hkk (by simp)⟩, _, _, m, ((st.new hk hn).perm (perm_mid A N B)).put v hd, fun k hkk => ?_, Mode.after_call hk hs hm, hj.h⟩
    obtain ⟨p, hp, rfl⟩ := List.mem_map.1 hkk
    rcases List.mem_append.1 hp with h | h
    · exact .inl (List.mem_map.2 ⟨p, List.mem_append.2 (.inl h), rfl⟩)
    · rcases List.mem_append.1 h with h | h
      · exact .inr (.inr (hn.ge p h))
      · exact .inl (List.mem_map.2 ⟨p, List.mem_append.2 (.inr h), rfl⟩)
  | panicked ch => exact he.elim
  | outgrown => exact he.elim

/-- A struct whose fields are all of one cell, all given in order. -/
theorem r_buildL {zc : Array Value} {places : Array (Nat × Nat)} {parts : Array (Nat × Operand)} {l : List (Nat × Value)} {vs : List Value} [TSt c.P t zc places] (hd : dstOk c.n (some d) = true) (hg : guardF F g = some true)
    (hp : evParts F parts.toList = some l) (hv : (if l.isEmpty then zc.toList else l.map (·.2)) = vs) (hc : Instr.fill (places[·]?) zc l = some vs.toArray) (h : JO c Q m r ((d, (.agg vs.toArray)) :: F) H) : JO c Q m (⟨some d, .build t parts, ty, g, .mov, ns⟩ :: r) F H :=
  r_build hd hg hp hc h

/-- A call by contract; the new blocks lie behind A. -/
theorem r_callA {A B : SHeap} {f : FuncId} {args : Array Operand} {ats : Array TypeId} {vs : List Value} {R : World → Value → World → Prop} [TF c.P f] (hH : H = A ++ B) (hm : m.mayCall ns r) (hd : dstOk c.n (some d) = true) (hg : guardF F g = some true) (ha : evArgs F args.toList = some vs)
    (hc : ∀ w, Kp c.M c.w0 w → Hsat H w → Calls c.P f vs.toArray w (Ret fun v w' => Kp [] w w' ∧ R w v w'))
    (h : ∀ w v w', Kp c.M c.w0 w → Hsat H w → Kp [] w w' → R w v w' → ∃ N, New N w w' ∧ JO c Q m r ((d, v) :: F) (A ++ (N ++ B))) :
    JO c Q m (⟨some d, .call ⟨.value (.func f), args, ats⟩, ty, g, .seq, ns⟩ :: r) F H :=
  ⟨⟨hd, .inr ⟨hg, fun a w st hs => call_coreA hH hs hm hd st (evArgs_run st.fr ha) (hc w st.kp st.hs) (fun v w' => h w v w' st.kp st.hs)⟩⟩⟩

/-- A call without new blocks to keep. -/
theorem r_call0 {f : FuncId} {args : Array Operand} {ats : Array TypeId} {vs : List Value} {R : World → Value → World → Prop} [TF c.P f] (hm : m.mayCall ns r) (hd : dstOk c.n (some d) = true) (hg : guardF F g = some true) (ha : evArgs F args.toList = some vs)
    (hc : ∀ w, Kp c.M c.w0 w → Hsat H w → Calls c.P f vs.toArray w (Ret fun v w' => Kp [] w w' ∧ R w v w'))
    (h : ∀ w v w', Kp c.M c.w0 w → Hsat H w → Kp [] w w' → R w v w' → JO c Q m r ((d, v) :: F) H) :
    JO c Q m (⟨some d, .call ⟨.value (.func f), args, ats⟩, ty, g, .seq, ns⟩ :: r) F H :=
  r_callA (A := []) (B := H) rfl hm hd hg ha hc fun w v w' h1 h2 h3 h4 => ⟨[], New.nil _ _, h w v w' h1 h2 h3 h4⟩

/-- A call of a known function value. -/
theorem r_callV0 {f : FuncId} {args : Array Operand} {ats : Array TypeId} {vs : List Value} {first cap : Array Value} {R : World → Value → World → Prop} [TF c.P f] (hm : m.mayCall ns r) (hd : dstOk c.n (some d) = true) (hg : guardF F g = some true)
    (hx : ev F x = some (.func (.func f) first cap)) (ha : evArgs F args.toList = some vs)
    (hc : ∀ w, Kp c.M c.w0 w → Hsat H w → Calls c.P f (first ++ vs.toArray ++ cap) w (Ret fun v w' => Kp [] w w' ∧ R w v w'))
    (h : ∀ w v w', Kp c.M c.w0 w → Hsat H w → Kp [] w w' → R w v w' → JO c Q m r ((d, v) :: F) H) :
    JO c Q m (⟨some d, .call ⟨.value x, args, ats⟩, ty, g, .seq, ns⟩ :: r) F H := by
  refine r_callV hm hd hg hx ha hc fun w v w' h1 h2 h3 h4 => ⟨[], New.nil _ _, ?_⟩
  rw [List.append_nil]
  exact h w v w' h1 h2 h3 h4

/-- A call that turns the blocks N, and makes no others that are kept. -/
theorem r_callO {A N B : SHeap} {f : FuncId} {args : Array Operand} {ats : Array TypeId} {vs : List Value} {R : World → Value → World → Prop} {dd : Option Tmp} [TF c.P f] (hH : H = A ++ (N ++ B)) (hm : m.mayStore ns r) (hd : dstOk c.n dd = true) (hg : guardF F g = some true) (ha : evArgs F args.toList = some vs)
    (hc : ∀ w, Kp c.M c.w0 w → Hsat H w → Calls c.P f vs.toArray w (Ret fun v w' => Kp (keys N) w w' ∧ R w v w'))
    (h : ∀ w v w', Kp c.M c.w0 w → Hsat H w → Kp (keys N) w w' → R w v w' → ∃ N', keys N' = keys N ∧ (∀ p ∈ N', w'.heap[p.1]? = some p.2) ∧ JO c Q m.spent r (putF F dd v) (A ++ (N' ++ B))) :
    JO c Q m (⟨dd, .call ⟨.value (.func f), args, ats⟩, ty, g, .seq, ns⟩ :: r) F H := by
  subst hH
  refine ⟨⟨hd, .inr ⟨hg, fun a w st hs => ?_⟩⟩⟩
  unfold Oper.wp SOp.oper
  rw [evArgs_run st.fr ha]
  refine Calls.mono (hc w st.kp st.hs) fun e w' he => ?_
  cases e with
  | panicked ch => exact he.elim
  | outgrown => exact he.elim
  | returned v =>
    obtain ⟨hk, hR⟩ := he
    obtain ⟨N', hkeys, hb, hj⟩ := h w v w' st.kp st.hs hk hR
    have hp : (A ++ (N ++ B)).Perm ((A ++ B) ++ N) := (perm_mid A N B).symm
    have hnd := (st.perm hp).hs.nd
    rw [List.map_append, List.nodup_append] at hnd
    obtain ⟨st', hstep, hkk⟩ := turn_step (N' := N') st hp (by have := hnd.2.1; unfold keys at hkeys; rw [hkeys]; exact this) hb (fun k hk' => .inl (hkeys ▸ hk')) (fun k h1 h2 => hk.block k h1 h2) hk.size hk.os hk.tape hk.output
    refine ⟨hstep, _, _, m.spent, (st'.perm (perm_mid A N' B)).put v hd, fun k hk' => hkk k ?_, Mode.after_spent hm, hj.h⟩
    obtain ⟨q, hq, rfl⟩ := List.mem_map.1 hk'
    exact List.mem_map.2 ⟨q, (perm_mid A N' B).mem_iff.2 hq, rfl⟩


/-- 'out = append(out, src...)': out is nil or owned (the blocks N); the source can be read. -/
theorem r_appendA {e : TypeId} {sz bytes : Nat} {zc : Array Value} {v v2 : Value} {n mm : Nat} {xs news : List Value} {A B N N2 : SHeap} [TSl c.P t e] [TE c.P e sz bytes zc] (hzs : zc.size = sz)
    (hN : OwnRow e sz N v n xs) (h2 : Rd c N2 sz v2 mm news) (hN2 : HSub N2 H) (hH : H = A ++ (N ++ B)) (hm : m.mayStore ns r) (hd : dstOk c.n (some d) = true) (hg : guardF F g = some true) (hx : ev F x = some v) (hy : ev F y = some v2)
    (h1 : ∀ u ∈ news, u.oneCell' = true) (h63 : n + mm ≤ maxLen) (hbytes : (n + mm) * bytes ≤ 140737488355328)
    (h : ∀ v' N', OwnRow e sz N' v' (n + mm) (xs ++ news) → JO c Q m.spent r ((d, v') :: F) (A ++ (N' ++ B))) :
    JO c Q m (⟨some d, .call ⟨.builtin .append, #[x, y], #[t, t]⟩, ty, g, .seq, ns⟩ :: r) F H := by
  subst hH
  refine ⟨⟨hd, .inr ⟨hg, fun a w st _ => ?_⟩⟩⟩
  obtain ⟨i, z, hi, rfl, rfl, hz, rfl⟩ := TE.info (P := c.P) (e := e) (sz := sz) (bytes := bytes) (zc := zc)
  obtain ⟨hl, A2, cc, rfl, _, hrd⟩ := h2
  have hp : (A ++ (N ++ B)).Perm ((A ++ B) ++ N) := (perm_mid A N B).symm
  obtain ⟨v', w', N', hrun, hN', hb', hk', ho', hs', e1, e2, e3⟩ := run_append_row (P := c.P) (w := w) (ty := ty) (cc := cc) (A := A2) (mm := mm) (TSl.und (P := c.P) (t := t)) hi hz hzs hN (fun p hp => st.hs.blk p (List.mem_append.2 (.inr (List.mem_append.2 (.inl hp))))) hl
    (fun ad had j u hu => by
      subst had
      have h0 : 0 < mm := by
        rcases Nat.eq_zero_or_pos mm with h | h
        · subst h; simp at hl; subst hl; cases hu
        · exact h
      obtain ⟨⟨b, o, hbo⟩, hcell⟩ := hrd h0
      cases hbo
      have := hcell w ⟨st.kp, hN2.hsat st.hs⟩ j u hu
      rw [add_none]
      exact this) (fun h0 => by obtain ⟨⟨b, o, rfl⟩, _⟩ := hrd h0; rfl) h1 h63 hbytes
  have hargs : (#[x, y] : Array Operand).map a.eval = #[v, .slice A2 mm cc] := by simp [st.fr.ev hx, st.fr.ev hy]
  have hexec : (execOp a.eval ⟨some d, .call ⟨.builtin .append, #[x, y], #[t, t]⟩, ty, "", #[], none⟩).run c.P w = .ok (.value v') w' := by
    show (do let d ← resolve a.eval ⟨.builtin .append, #[x, y], #[t, t]⟩ ty; invoke d.target d.args).run c.P w = _
    simp only [resolve, Sem.run_bind, Sem.run_pure, Result.andThen_ok, invoke, builtin, hargs]
    simp [hrun]
  unfold Oper.wp SOp.oper
  rw [hexec]
  obtain ⟨st', hstep, hkk⟩ := turn_step st hp hN'.nodup hb' hk' ho' hs' e1 e2 e3
  refine ⟨hstep, (d, v') :: F, A ++ (N' ++ B), m.spent, (st'.perm (perm_mid A N' B)).put v' hd, fun k hk => hkk k ?_, Mode.after_spent hm, (h v' N' hN').h⟩
  obtain ⟨q, hq, rfl⟩ := List.mem_map.1 hk
  exact List.mem_map.2 ⟨q, (perm_mid A N' B).mem_iff.2 hq, rfl⟩

/-- 'out = append(out, src...)': out is nil or owned (the blocks N); the source can be read. Loads may come behind it: they do not read N. -/
theorem r_appendL {e : TypeId} {sz bytes : Nat} {zc : Array Value} {v v2 : Value} {n mm : Nat} {xs news : List Value} {A B N N2 : SHeap} [TSl c.P t e] [TE c.P e sz bytes zc] (hzs : zc.size = sz)
    (hN : OwnRow e sz N v n xs) (h2 : Rd c N2 sz v2 mm news) {Hs : SHeap} (hN2 : HSub N2 H) (hH : H = A ++ (N ++ B)) (hHs : HSub Hs (A ++ B)) (hd : dstOk c.n (some d) = true) (hg : guardF F g = some true) (hx : ev F x = some v) (hy : ev F y = some v2)
    (h1 : ∀ u ∈ news, u.oneCell' = true) (h63 : n + mm ≤ maxLen) (hbytes : (n + mm) * bytes ≤ 140737488355328)
    (h : ∀ v' N', OwnRow e sz N' v' (n + mm) (xs ++ news) → JO c Q (.draw Hs true) r ((d, v') :: F) (A ++ (N' ++ B))) :
    JO c Q (.draw Hs true) (⟨some d, .call ⟨.builtin .append, #[x, y], #[t, t]⟩, ty, g, .seq, ns⟩ :: r) F H := by
  subst hH
  refine ⟨⟨hd, .inr ⟨hg, fun a w st hlive => ?_⟩⟩⟩
  obtain ⟨i, z, hi, rfl, rfl, hz, rfl⟩ := TE.info (P := c.P) (e := e) (sz := sz) (bytes := bytes) (zc := zc)
  obtain ⟨hl, A2, cc, rfl, _, hrd⟩ := h2
  have hp : (A ++ (N ++ B)).Perm ((A ++ B) ++ N) := (perm_mid A N B).symm
  obtain ⟨v', w', N', hrun, hN', hb', hk', ho', hs', e1, e2, e3⟩ := run_append_row (P := c.P) (w := w) (ty := ty) (cc := cc) (A := A2) (mm := mm) (TSl.und (P := c.P) (t := t)) hi hz hzs hN (fun p hp => st.hs.blk p (List.mem_append.2 (.inr (List.mem_append.2 (.inl hp))))) hl
    (fun ad had j u hu => by
      subst had
      have h0 : 0 < mm := by
        rcases Nat.eq_zero_or_pos mm with h | h
        · subst h; simp at hl; subst hl; cases hu
        · exact h
      obtain ⟨⟨b, o, hbo⟩, hcell⟩ := hrd h0
      cases hbo
      have := hcell w ⟨st.kp, hN2.hsat st.hs⟩ j u hu
      rw [add_none]
      exact this) (fun h0 => by obtain ⟨⟨b, o, rfl⟩, _⟩ := hrd h0; rfl) h1 h63 hbytes
  have hargs : (#[x, y] : Array Operand).map a.eval = #[v, .slice A2 mm cc] := by simp [st.fr.ev hx, st.fr.ev hy]
  have hexec : (execOp a.eval ⟨some d, .call ⟨.builtin .append, #[x, y], #[t, t]⟩, ty, "", #[], none⟩).run c.P w = .ok (.value v') w' := by
    show (do let d ← resolve a.eval ⟨.builtin .append, #[x, y], #[t, t]⟩ ty; invoke d.target d.args).run c.P w = _
    simp only [resolve, Sem.run_bind, Sem.run_pure, Result.andThen_ok, invoke, builtin, hargs]
    simp [hrun]
  unfold Oper.wp SOp.oper
  rw [hexec]
  obtain ⟨st', hstep, hkk⟩ := turn_step st hp hN'.nodup hb' hk' ho' hs' e1 e2 e3
  have hAB : Hsat (A ++ B) w' := ⟨by have := st'.hs.nd; rw [List.map_append, List.nodup_append] at this; exact this.1, fun p hp => st'.hs.blk p (List.mem_append.2 (.inl hp))⟩
  refine ⟨hstep, (d, v') :: F, A ++ (N' ++ B), .draw Hs true, (st'.perm (perm_mid A N' B)).put v' hd, fun k hk => hkk k ?_, ⟨rfl, fun _ => ⟨rfl, hHs.hsat hAB⟩, fun _ => rfl, .inl rfl⟩, (h v' N' hN').h⟩
  obtain ⟨q, hq, rfl⟩ := List.mem_map.1 hk
  exact List.mem_map.2 ⟨q, (perm_mid A N' B).mem_iff.2 hq, rfl⟩

end
end Go.Proofs.YtdehklhdjbkneaaDoor

/- Rows of ints. -/
namespace Go.Proofs.YtdehklhdjbkneaaDoor
open Go Go.RowKit
set_option linter.unusedSimpArgs false
set_option linter.unusedVariables false
set_option linter.unusedSectionVars false

abbrev iv (x : Int) : Value := .int .i64 x
abbrev nv (x : Nat) : Value := .int .i64 (x : Int)

/-- A table. -/
def tab {α : Type} (n : Nat) (g : Nat → α) : List α := (List.range n).map g

@[simp] theorem tab_len {α : Type} (n : Nat) (g : Nat → α) : (tab n g).length = n := by simp [tab]
theorem tab_get {α : Type} {n : Nat} {g : Nat → α} {i : Nat} (h : i < n) : (tab n g)[i]? = some (g i) := by simp [tab, h]
theorem tab_getD {α : Type} {n : Nat} {g : Nat → α} {i : Nat} {d : α} (h : i < n) : (tab n g).getD i d = g i := by simp [List.getD, tab_get h]
theorem tab_congr {α : Type} {n : Nat} {g g' : Nat → α} (h : ∀ i, i < n → g i = g' i) : tab n g = tab n g' := by
  apply List.map_congr_left
  intro i hi
  exact h i (List.mem_range.1 hi)
theorem tab_ext {α : Type} {n : Nat} {xs : List α} {g : Nat → α} (hl : xs.length = n) (h : ∀ i, i < n → xs[i]? = some (g i)) : xs = tab n g := by
  apply List.ext_getElem?
  intro i
  rcases Nat.lt_or_ge i n with hi | hi
  · rw [h i hi, tab_get hi]
  · rw [List.getElem?_eq_none (by omega), List.getElem?_eq_none (by simp; omega)]
theorem tab_of {α : Type} {n : Nat} {xs : List α} {d : α} (hl : xs.length = n) : tab n (fun i => xs.getD i d) = xs := by
  refine (tab_ext hl fun i hi => ?_).symm
  rw [List.getElem?_eq_getElem (by omega)]; simp [List.getD, List.getElem?_eq_getElem (show i < xs.length by omega)]
theorem tab_set {α : Type} {n : Nat} {g : Nat → α} {i : Nat} {x : α} : (tab n g).set i x = tab n (fun j => if j = i then x else g j) := by
  refine tab_ext (by simp) fun j hj => ?_
  rw [List.getElem?_set]
  by_cases h : i = j
  · subst h; simp [hj]
  · rw [if_neg h, tab_get hj, if_neg (fun e => h e.symm)]
theorem set_getD {α : Type} {xs : List α} {i j : Nat} {x d : α} (hi : i < xs.length) : (xs.set i x).getD j d = if j = i then x else xs.getD j d := by
  simp only [List.getD, List.getElem?_set]
  by_cases h : i = j
  · subst h; simp [hi]
  · rw [if_neg h, if_neg (fun e => h e.symm)]
theorem gD_lt {α : Type} {xs : List α} {i : Nat} {d : α} (h : i < xs.length) : xs[i]? = some (xs.getD i d) := by simp [List.getD, List.getElem?_eq_getElem h]
theorem ext_getD {α : Type} {xs ys : List α} {d : α} (hl : xs.length = ys.length) (h : ∀ i, i < xs.length → xs.getD i d = ys.getD i d) : xs = ys := by
  apply List.ext_getElem?
  intro i
  rcases Nat.lt_or_ge i xs.length with hi | hi
  · rw [gD_lt hi (d := d), gD_lt (by omega) (d := d), h i hi]
  · rw [List.getElem?_eq_none (by omega), List.getElem?_eq_none (by omega)]
theorem mem_getD {α : Type} {xs : List α} {i : Nat} {d : α} (h : i < xs.length) : xs.getD i d ∈ xs := by
  have := gD_lt (d := d) h
  exact List.mem_of_getElem? this

/-- A row of ints at w; readable; owned. -/
def WI (w : World) (v : Value) (n : Nat) (xs : List Int) : Prop := RdW w 1 v n (xs.map iv)
def RdI (c : Cx) (N : SHeap) (v : Value) (n : Nat) (xs : List Int) : Prop := Rd c N 1 v n (xs.map iv)
def OwnI (N : SHeap) (v : Value) (n : Nat) (xs : List Int) : Prop := OwnRow 3 1 N v n (xs.map iv)
def WN (w : World) (v : Value) (n : Nat) (xs : List Nat) : Prop := RdW w 1 v n (xs.map nv)
def RdN (c : Cx) (N : SHeap) (v : Value) (n : Nat) (xs : List Nat) : Prop := Rd c N 1 v n (xs.map nv)
def OwnN (N : SHeap) (v : Value) (n : Nat) (xs : List Nat) : Prop := OwnRow 3 1 N v n (xs.map nv)

theorem WI.len {w : World} {v : Value} {n : Nat} {xs : List Int} (h : WI w v n xs) : xs.length = n := by simpa using h.1
theorem RdI.len {c : Cx} {N : SHeap} {v : Value} {n : Nat} {xs : List Int} (h : RdI c N v n xs) : xs.length = n := by simpa using h.1
theorem OwnI.len {N : SHeap} {v : Value} {n : Nat} {xs : List Int} (h : OwnI N v n xs) : xs.length = n := by simpa using h.1
theorem WN.len {w : World} {v : Value} {n : Nat} {xs : List Nat} (h : WN w v n xs) : xs.length = n := by simpa using h.1
theorem RdN.len {c : Cx} {N : SHeap} {v : Value} {n : Nat} {xs : List Nat} (h : RdN c N v n xs) : xs.length = n := by simpa using h.1
theorem OwnN.len {N : SHeap} {v : Value} {n : Nat} {xs : List Nat} (h : OwnN N v n xs) : xs.length = n := by simpa using h.1

theorem WI.mono {w w' : World} {v : Value} {n : Nat} {xs : List Int} (h : WI w v n xs) (hk : Kp [] w w') : WI w' v n xs := RdW.mono h hk
theorem WN.mono {w w' : World} {v : Value} {n : Nat} {xs : List Nat} (h : WN w v n xs) (hk : Kp [] w w') : WN w' v n xs := RdW.mono h hk
theorem WI.rd {c : Cx} {v : Value} {n : Nat} {xs : List Int} (h : WI c.w0 v n xs) (hM : c.M = []) (N : SHeap) : RdI c N v n xs := RdW.rd h hM N
theorem WN.rd {c : Cx} {v : Value} {n : Nat} {xs : List Nat} (h : WN c.w0 v n xs) (hM : c.M = []) (N : SHeap) : RdN c N v n xs := RdW.rd h hM N
theorem RdI.at {c : Cx} {N H : SHeap} {w : World} {v : Value} {n : Nat} {xs : List Int} (h : RdI c N v n xs) (hk : Kp c.M c.w0 w) (hs : Hsat H w) (hN : HSub N H) : WI w v n xs := Rd.at h hk hs hN
theorem RdN.at {c : Cx} {N H : SHeap} {w : World} {v : Value} {n : Nat} {xs : List Nat} (h : RdN c N v n xs) (hk : Kp c.M c.w0 w) (hs : Hsat H w) (hN : HSub N H) : WN w v n xs := Rd.at h hk hs hN
theorem OwnI.rd {c : Cx} {N : SHeap} {v : Value} {n : Nat} {xs : List Int} (h : OwnI N v n xs) : RdI c N v n xs := OwnRow.rd h
theorem OwnN.rd {c : Cx} {N : SHeap} {v : Value} {n : Nat} {xs : List Nat} (h : OwnN N v n xs) : RdN c N v n xs := OwnRow.rd h
theorem OwnI.new {N : SHeap} {v : Value} {n : Nat} {xs : List Int} {w w' : World} (h : OwnI N v n xs) (hn : New N w w') : WI w' v n xs := New.rd (c := ⟨Tryd.prog, 0, w, [], by simp⟩) h hn
theorem OwnN.new {N : SHeap} {v : Value} {n : Nat} {xs : List Nat} {w w' : World} (h : OwnN N v n xs) (hn : New N w w') : WN w' v n xs := New.rd (c := ⟨Tryd.prog, 0, w, [], by simp⟩) h hn

/-- Numbers as ints. -/
def ints (xs : List Nat) : List Int := xs.map Int.ofNat
@[simp] theorem ints_len (xs : List Nat) : (ints xs).length = xs.length := by simp [ints]
theorem ints_getD (xs : List Nat) (i : Nat) : (ints xs).getD i 0 = ((xs.getD i 0 : Nat) : Int) := by
  simp only [ints, List.getD, List.getElem?_map]
  cases xs[i]? <;> rfl
theorem OwnN.form {N : SHeap} {v : Value} {n : Nat} {xs : List Nat} (h : OwnN N v n xs) : ∃ A cap, v = .slice A n cap := by
  obtain ⟨_, ⟨rfl, rfl, rfl⟩ | ⟨b, cap, cur, rfl, _⟩⟩ := h
  · exact ⟨_, _, rfl⟩
  · exact ⟨_, _, rfl⟩
theorem OwnI.form {N : SHeap} {v : Value} {n : Nat} {xs : List Int} (h : OwnI N v n xs) : ∃ A cap, v = .slice A n cap := by
  obtain ⟨_, ⟨rfl, rfl, rfl⟩ | ⟨b, cap, cur, rfl, _⟩⟩ := h
  · exact ⟨_, _, rfl⟩
  · exact ⟨_, _, rfl⟩
theorem WN.form {w : World} {v : Value} {n : Nat} {xs : List Nat} (h : WN w v n xs) : ∃ A cap, v = .slice A n cap := by
  obtain ⟨_, A, cap, rfl, _⟩ := h
  exact ⟨_, _, rfl⟩
theorem WI.form {w : World} {v : Value} {n : Nat} {xs : List Int} (h : WI w v n xs) : ∃ A cap, v = .slice A n cap := by
  obtain ⟨_, A, cap, rfl, _⟩ := h
  exact ⟨_, _, rfl⟩
theorem map_nv (xs : List Nat) : (ints xs).map iv = xs.map nv := by simp [ints, Function.comp_def]
theorem WI.nat {w : World} {v : Value} {n : Nat} {xs : List Nat} (h : WI w v n (ints xs)) : WN w v n xs := by unfold WI at h; rw [map_nv] at h; exact h
theorem WN.int {w : World} {v : Value} {n : Nat} {xs : List Nat} (h : WN w v n xs) : WI w v n (ints xs) := by unfold WI; rw [map_nv]; exact h
theorem OwnN.int {N : SHeap} {v : Value} {n : Nat} {xs : List Nat} (h : OwnN N v n xs) : OwnI N v n (ints xs) := by unfold OwnI; rw [map_nv]; exact h
theorem OwnI.nat {N : SHeap} {v : Value} {n : Nat} {xs : List Nat} (h : OwnI N v n (ints xs)) : OwnN N v n xs := by unfold OwnI at h; rw [map_nv] at h; exact h
theorem RdI.nat {c : Cx} {N : SHeap} {v : Value} {n : Nat} {xs : List Nat} (h : RdI c N v n (ints xs)) : RdN c N v n xs := by unfold RdI at h; rw [map_nv] at h; exact h
theorem RdN.int {c : Cx} {N : SHeap} {v : Value} {n : Nat} {xs : List Nat} (h : RdN c N v n xs) : RdI c N v n (ints xs) := by unfold RdI; rw [map_nv]; exact h

theorem OwnN.nil : OwnN [] (.slice none 0 0) 0 [] := OwnRow.nil _ 1
theorem OwnI.nil : OwnI [] (.slice none 0 0) 0 [] := OwnRow.nil _ 1

section
variable {c : Cx} {Q : Exit → Act → World → Prop} {m : Mode} {F : SFrame} {H : SHeap} {r : List SOp} {g : Option (Option Tmp × Bool)} {ns : Bool} {d : Tmp} {ty t t' : TypeId} {x y : Operand} {N : SHeap} {n : Nat} {v : Value}

theorem r_lenI {e : TypeId} {xs : List Int} [TSl c.P t e] (hd : dstOk c.n (some d) = true) (hg : guardF F g = some true) (hx : ev F x = some v) (hv : RdI c N v n xs)
    (h : JO c Q m r ((d, .int .i64 n) :: F) H) : JO c Q m (⟨some d, .call ⟨.builtin .len, #[x], #[t]⟩, ty, g, .mov, ns⟩ :: r) F H := r_lenR hd hg hx hv h
theorem r_lenN {e : TypeId} {xs : List Nat} [TSl c.P t e] (hd : dstOk c.n (some d) = true) (hg : guardF F g = some true) (hx : ev F x = some v) (hv : RdN c N v n xs)
    (h : JO c Q m r ((d, .int .i64 n) :: F) H) : JO c Q m (⟨some d, .call ⟨.builtin .len, #[x], #[t]⟩, ty, g, .mov, ns⟩ :: r) F H := r_lenR hd hg hx hv h
theorem r_idxI {e : TypeId} {xs : List Int} {j : Nat} {k : IntKind} [TSl c.P t e] [TSz c.P e 1] (hd : dstOk c.n (some d) = true) (hg : guardF F g = some true) (hx : ev F x = some v) (hy : ev F y = some (.int k j)) (hv : RdI c N v n xs) (hj : j < n)
    (h : JO c Q m r ((d, .pointer (some (vAt v j))) :: F) H) : JO c Q m (⟨some d, .indexAddr t x y, ty, g, .mov, ns⟩ :: r) F H := r_idxR1 hd hg hx hy hv hj h
theorem r_idxN {e : TypeId} {xs : List Nat} {j : Nat} {k : IntKind} [TSl c.P t e] [TSz c.P e 1] (hd : dstOk c.n (some d) = true) (hg : guardF F g = some true) (hx : ev F x = some v) (hy : ev F y = some (.int k j)) (hv : RdN c N v n xs) (hj : j < n)
    (h : JO c Q m r ((d, .pointer (some (vAt v j))) :: F) H) : JO c Q m (⟨some d, .indexAddr t x y, ty, g, .mov, ns⟩ :: r) F H := r_idxR1 hd hg hx hy hv hj h
theorem r_ldI {xs : List Int} {i : Nat} [T1 c.P t] (hd : dstOk c.n (some d) = true) (hg : guardF F g = some true) (hx : ev F x = some (.pointer (some (vAt v i)))) (hl : m.live = true) (hv : RdI c N v n xs) (hN : HSub N (m.src H)) (hi : i < n)
    (h : JO c Q m r ((d, iv (xs.getD i 0)) :: F) H) : JO c Q m (⟨some d, .load t x, ty, g, .ld, ns⟩ :: r) F H :=
  r_ldR hd hg hx hl hv hN (by rw [List.getElem?_map, gD_lt (d := 0) (by have := hv.len; omega)]; rfl) h
theorem r_ldN {xs : List Nat} {i : Nat} [T1 c.P t] (hd : dstOk c.n (some d) = true) (hg : guardF F g = some true) (hx : ev F x = some (.pointer (some (vAt v i)))) (hl : m.live = true) (hv : RdN c N v n xs) (hN : HSub N (m.src H)) (hi : i < n)
    (h : JO c Q m r ((d, nv (xs.getD i 0)) :: F) H) : JO c Q m (⟨some d, .load t x, ty, g, .ld, ns⟩ :: r) F H :=
  r_ldR hd hg hx hl hv hN (by rw [List.getElem?_map, gD_lt (d := 0) (by have := hv.len; omega)]; rfl) h

theorem r_stI {A B : SHeap} {i : Nat} {u : Int} {xs : List Int} [T1 c.P t] (hO : OwnI N v n xs) (hH : H = A ++ (N ++ B)) (hg : guardF F g = some true) (hm : m.mayStore ns r) (hx : ev F x = some (.pointer (some (vAt v i)))) (hy : ev F y = some (iv u))
    (hi : i < n) (h : ∀ N', OwnI N' v n (xs.set i u) → JO c Q m.spent r F (A ++ (N' ++ B))) : JO c Q m (⟨none, .store t x y, ty, g, .seq, ns⟩ :: r) F H :=
  r_stO hO hH hg hm hx hy rfl rfl (by omega) (fun N' h' => h N' (by unfold OwnI; rw [List.map_set]; exact h'))
theorem r_stN {A B : SHeap} {i u : Nat} {xs : List Nat} [T1 c.P t] (hO : OwnN N v n xs) (hH : H = A ++ (N ++ B)) (hg : guardF F g = some true) (hm : m.mayStore ns r) (hx : ev F x = some (.pointer (some (vAt v i)))) (hy : ev F y = some (nv u))
    (hi : i < n) (h : ∀ N', OwnN N' v n (xs.set i u) → JO c Q m.spent r F (A ++ (N' ++ B))) : JO c Q m (⟨none, .store t x y, ty, g, .seq, ns⟩ :: r) F H :=
  r_stO hO hH hg hm hx hy rfl rfl (by omega) (fun N' h' => h N' (by unfold OwnN; rw [List.map_set]; exact h'))

theorem own_zeros (b n : Nat) (hn : n ≤ maxLen) : OwnN [(b, .cells (zerosOf #[iv 0] (n * 1)) 3)] (.slice (some ⟨b, 0, none⟩) n n) n (tab n fun _ => 0) := by
  have h := OwnRow.mk' (e := 3) (sz := 1) (n := n) (b := b) (cs := zerosOf #[iv 0] (n * 1)) (by rw [zeros1]; simp) hn
  rw [zeros1] at h ⊢
  have e : (Array.replicate (n * 1) (iv 0)).toList = (tab n fun _ => 0).map nv := by
    apply List.ext_getElem?
    intro i
    simp only [Array.toList_replicate, List.getElem?_map, List.getElem?_replicate, Nat.mul_one]
    by_cases hi : i < n
    · rw [if_pos hi, tab_get hi]; rfl
    · rw [if_neg hi, List.getElem?_eq_none (by simp; omega)]; rfl
  rw [e] at h
  exact h

/-- A slice of a row of ints. -/
theorem r_sliceN {e : TypeId} {l h' : Nat} {xs : List Nat} {lo hi : Option Operand} {vl vh : Option Value} [TSl c.P t e] [TSz c.P e 1] (hd : dstOk c.n (some d) = true) (hg : guardF F g = some true)
    (hx : ev F x = some v) (hv : RdN c N v n xs)
    (hlo : (lo.bind (ev F)) = vl) (hlo' : lo.isSome = vl.isSome) (hl : vl = some (.int .i64 l) ∨ (vl = none ∧ l = 0)) (hhi : (hi.bind (ev F)) = vh) (hhi' : hi.isSome = vh.isSome) (hh : vh = some (.int .i64 h') ∨ (vh = none ∧ h' = n))
    (hlh : l ≤ h') (hhl : h' ≤ n)
    (h : ∀ v', RdN c N v' (h' - l) ((xs.drop l).take (h' - l)) → (∀ i, l < h' → vAt v' i = vAt v (l + i)) → JO c Q m r ((d, v') :: F) H) : JO c Q m (⟨some d, .slice t x lo hi none, ty, g, .mov, ns⟩ :: r) F H :=
  r_sliceR hd hg hx hv hlo hlo' hl hhi hhi' hh hlh hhl (fun v' h1 h2 => h v' (by
    unfold RdN
    rw [List.map_take, List.map_drop]
    simpa using h1) (by simpa using h2))

/-- Row i of a list of rows of c. -/
def rowOf (c : Nat) (xs : List Nat) (i : Nat) : List Nat := (xs.drop (i * c)).take c
theorem rowOf_getD {c : Nat} {xs : List Nat} {i j : Nat} (hj : j < c) : (rowOf c xs i).getD j 0 = xs.getD (i * c + j) 0 := by
  simp only [rowOf, List.getD, List.getElem?_take, if_pos hj, List.getElem?_drop]

theorem r_rowN {e : TypeId} {i k : Nat} {xs : List Nat} {lo hi : Operand} [TSl c.P t e] [TSz c.P e 1] (hd : dstOk c.n (some d) = true) (hg : guardF F g = some true)
    (hx : ev F x = some v) (hv : RdN c N v n xs) (hlo : ev F lo = some (nv (i * k))) (hhi : ev F hi = some (nv ((i + 1) * k))) (hle : (i + 1) * k ≤ n)
    (h : ∀ v', RdN c N v' k (rowOf k xs i) → (∀ j, j < k → vAt v' j = vAt v (i * k + j)) → JO c Q m r ((d, v') :: F) H) : JO c Q m (⟨some d, .slice t x (some lo) (some hi) none, ty, g, .mov, ns⟩ :: r) F H := by
  have e1 : (i + 1) * k - i * k = k := by rw [Nat.add_mul]; omega
  refine r_sliceN (l := i * k) (h' := (i + 1) * k) hd hg hx hv hlo rfl (.inl rfl) hhi rfl (.inl rfl) (Nat.mul_le_mul_right k (by omega)) hle (fun v' h1 h2 => h v' (by rw [e1] at h1; exact h1) (fun j hj => h2 j (by rw [Nat.add_mul]; omega)))

theorem r_add1 {i : Nat} (hd : dstOk c.n (some d) = true) (hg : guardF F g = some true) (hx : ev F x = some (.int .i64 i)) (hy : ev F y = some (.int .i64 1)) (hb : i + 1 < 9223372036854775808)
    (h : JO c Q m r ((d, .int .i64 ((i + 1 : Nat) : Int)) :: F) H) : JO c Q m (⟨some d, .binOp .add t x y t', ty, g, .mov, ns⟩ :: r) F H := r_addN (j := 1) hd hg hx hy hb h

theorem r_appendN {A B N2 : SHeap} {v2 : Value} {k : Nat} {xs ys : List Nat} [TSl c.P t 3] [TE c.P 3 1 8 #[iv 0]] (hO : OwnN N v n xs) (h2 : RdN c N2 v2 k ys) (hN2 : HSub N2 H) (hH : H = A ++ (N ++ B)) (hm : m.mayStore ns r) (hd : dstOk c.n (some d) = true) (hg : guardF F g = some true) (hx : ev F x = some v) (hy : ev F y = some v2)
    (hb : n + k ≤ 1000000000) (h : ∀ v' N', OwnN N' v' (n + k) (xs ++ ys) → JO c Q m.spent r ((d, v') :: F) (A ++ (N' ++ B))) :
    JO c Q m (⟨some d, .call ⟨.builtin .append, #[x, y], #[t, t]⟩, ty, g, .seq, ns⟩ :: r) F H :=
  r_appendA (e := 3) (sz := 1) (bytes := 8) (zc := #[iv 0]) (xs := xs.map nv) (news := ys.map nv) (n := n) (mm := k) rfl hO h2 hN2 hH hm hd hg hx hy (fun u hu => by obtain ⟨a, _, rfl⟩ := List.mem_map.1 hu; rfl) (by simp only [maxLen]; omega) (by omega) (fun v' N' h' => h v' N' (by unfold OwnN; rw [List.map_append]; exact h'))

theorem r_appendNL {A B N2 Hs : SHeap} {v2 : Value} {k : Nat} {xs ys : List Nat} [TSl c.P t 3] [TE c.P 3 1 8 #[iv 0]] (hO : OwnN N v n xs) (h2 : RdN c N2 v2 k ys) (hN2 : HSub N2 H) (hH : H = A ++ (N ++ B)) (hm : HSub Hs (A ++ B)) (hd : dstOk c.n (some d) = true) (hg : guardF F g = some true) (hx : ev F x = some v) (hy : ev F y = some v2)
    (hb : n + k ≤ 1000000000) (h : ∀ v' N', OwnN N' v' (n + k) (xs ++ ys) → JO c Q (.draw Hs true) r ((d, v') :: F) (A ++ (N' ++ B))) :
    JO c Q (.draw Hs true) (⟨some d, .call ⟨.builtin .append, #[x, y], #[t, t]⟩, ty, g, .seq, ns⟩ :: r) F H :=
  r_appendL (e := 3) (sz := 1) (bytes := 8) (zc := #[iv 0]) (xs := xs.map nv) (news := ys.map nv) (n := n) (mm := k) rfl hO h2 hN2 hH hm hd hg hx hy (fun u hu => by obtain ⟨a, _, rfl⟩ := List.mem_map.1 hu; rfl) (by simp only [maxLen]; omega) (by omega) (fun v' N' h' => h v' N' (by unfold OwnN; rw [List.map_append]; exact h'))

theorem r_boxA {vs : Array Value} (hd : dstOk c.n (some d) = true) (hg : guardF F g = some true) (hx : ev F x = some (.agg vs)) (hl : m.live = true) (h : ∀ b, JO c Q m r ((d, (.pointer (some ⟨b, 0, none⟩))) :: F) ((b, .cells vs t) :: H)) :
    JO c Q m (⟨some d, .box t x, ty, g, .alloc, ns⟩ :: r) F H := r_box hd hg hx hl rfl h

theorem r_nilCheck {A : Addr} (hd : dstOk c.n (some d) = true) (hg : guardF F g = some true) (hx : ev F x = some (.pointer (some A))) (h : JO c Q m r ((d, .pointer (some A)) :: F) H) : JO c Q m (⟨some d, .nilCheck x, ty, g, .mov, ns⟩ :: r) F H :=
  r_mov hd hg (fun a w fr => by simp only [execOp, fr.ev hx, Sem.run_pure]) h

/-- An element of an array, by its address. -/
theorem r_idxArr {len e sz b o j : Nat} {k : IntKind} [TAr c.P t len e] [TSz c.P e sz] (hd : dstOk c.n (some d) = true) (hg : guardF F g = some true) (hx : ev F x = some (.pointer (some ⟨b, o, none⟩))) (hy : ev F y = some (.int k j)) (hj : j < len)
    (h : JO c Q m r ((d, .pointer (some ⟨b, o + j * sz, none⟩)) :: F) H) : JO c Q m (⟨some d, .indexAddr t x y, ty, g, .mov, ns⟩ :: r) F H :=
  r_mov hd hg (fun a w fr => by
    have h1 : (0 : Int) ≤ j ∧ (j : Int) < len := by omega
    simp only [execOp, fr.ev hx, fr.ev hy, Instr.indexAt, Instr.sureAddr, asIntOf, Sem.run_bind, Sem.run_pure, Result.andThen_ok, run_underlying (TAr.und (P := c.P) (t := t)), h1, and_self, if_true, TSz.size (e := e) (n := sz), Int.toNat_natCast, add_none]) h

theorem bits_and1 (n : Int) : bits .and .i64 n 1 = n % 2 := by
  have h1 : (BitVec.ofInt 64 1).toNat = 2 ^ 1 - 1 := by decide
  have key : (BitVec.ofInt 64 n &&& BitVec.ofInt 64 1).toNat = (n % ((2 ^ 64 : Nat) : Int)).toNat % 2 ^ 1 := by
    rw [BitVec.toNat_and, BitVec.toNat_ofInt, h1, Nat.and_two_pow_sub_one_eq_mod]
  show IntKind.i64.wrap ((BitVec.ofInt 64 n &&& BitVec.ofInt 64 1).toNat : Nat) = n % 2
  rw [key, IntKind.wrap_i64]
  omega

theorem r_and1 {i : Nat} (hd : dstOk c.n (some d) = true) (hg : guardF F g = some true) (hx : ev F x = some (.int .i64 i)) (hy : ev F y = some (.int .i64 1))
    (h : JO c Q m r ((d, .int .i64 ((i % 2 : Nat) : Int)) :: F) H) : JO c Q m (⟨some d, .binOp .and t x y t', ty, g, .mov, ns⟩ :: r) F H :=
  r_arith hd hg hx hy (fun w => by rw [binOp_and, intBits_and, bits_and1]; simp) h
end
end Go.Proofs.YtdehklhdjbkneaaDoor

/- The rules of the judgement, continued: labels, loads in order, calls that turn owned blocks while loads may come behind, rows in blocks that are named. -/
namespace Go.Proofs.YtdehklhdjbkneaaDoor
open Go Go.RowKit
set_option linter.unusedSimpArgs false
set_option linter.unusedVariables false
set_option linter.unusedSectionVars false

theorem JC.label {c : Cx} {Q : Exit → Act → World → Prop} {F : SFrame} {H : SHeap} {l : Nat} (h : JX c Q .normal F H) : JC c Q (.raw (.label l)) F H := ⟨fun a w st => wp_label (h.h a w st)⟩

theorem JX.end0 {c : Cx} {R : Value → World → Prop} {F : SFrame} {H : SHeap} (hR : ∀ a w, St c F H a w → R (.tuple #[]) w) : JX c (endPost c.P #[] (Ret R)) .normal F H :=
  JX.end' [] trivial hR

theorem HSub.segH {N r B : SHeap} (h : HSub r B) : HSub (N ++ r) (N ++ B) := by
  obtain ⟨l, hl⟩ := h
  exact ⟨l, by rw [List.append_assoc]; exact hl.append_left N⟩

/-- These blocks are in w. -/
def InW (N : SHeap) (w : World) : Prop := ∀ p ∈ N, w.heap[p.1]? = some p.2

section
variable {c : Cx} {Q : Exit → Act → World → Prop} {m : Mode} {F : SFrame} {H : SHeap} {r : List SOp} {g : Option (Option Tmp × Bool)} {ns : Bool} {d : Tmp} {ty t t' : TypeId} {x y : Operand}

theorem r_seqR {op : Op} {v : Value} {dd : Option Tmp} (hm : m.mayCall ns r) (hd : dstOk c.n dd = true) (hg : guardF F g = some true) (hr : ∀ a w, FrOK c.n F a → Src c H w → (execOp a.eval ⟨dd, op, ty, "", #[], none⟩).run c.P w = .ok (.value v) w)
    (h : JO c Q m r (putF F dd v) H) : JO c Q m (⟨dd, op, ty, g, .seq, ns⟩ :: r) F H := by
  refine ⟨⟨hd, .inr ⟨hg, fun a w st hs => ?_⟩⟩⟩
  unfold Oper.wp SOp.oper
  rw [hr a w st.fr ⟨st.kp, st.hs⟩]
  exact ⟨⟨Nat.le_refl _, fun _ _ _ _ => rfl⟩, _, H, m, st.put v hd, fun _ h => .inl h, Mode.after_call (Kp.refl _ _) hs hm, h.h⟩

/-- A load of one cell of an owned block, in order. -/
theorem r_ldSeq {b o : Nat} (k : Nat) {cs : Array Value} {T : TypeId} {fz : Nat × Nat} {v : Value} [T1 c.P t] (hm : m.mayCall ns r) (hd : dstOk c.n (some d) = true) (hg : guardF F g = some true) (hx : ev F x = some (.pointer (some ⟨b, o, none⟩)))
    (hb : H[k]? = some (b, .cells cs T fz)) (hv : cs[o]? = some v) (h : JO c Q m r ((d, v) :: F) H) : JO c Q m (⟨some d, .load t x, ty, g, .seq, ns⟩ :: r) F H :=
  r_seqR hm hd hg (fun a w fr hs => by simp only [execOp, fr.ev hx, Sem.run_bind, run_load1 (src_cell hs hb hv), Result.andThen_ok, Sem.run_pure]) h

/-- A call that turns the blocks N; loads may come behind it: they do not read N. -/
theorem r_callOL {A N B Hs : SHeap} {f : FuncId} {args : Array Operand} {ats : Array TypeId} {vs : List Value} {R : World → Value → World → Prop} {dd : Option Tmp} [TF c.P f] (hH : H = A ++ (N ++ B)) (hHs : HSub Hs (A ++ B)) (hd : dstOk c.n dd = true) (hg : guardF F g = some true) (ha : evArgs F args.toList = some vs)
    (hc : ∀ w, Kp c.M c.w0 w → Hsat H w → Calls c.P f vs.toArray w (Ret fun v w' => Kp (keys N) w w' ∧ R w v w'))
    (h : ∀ w v w', Kp c.M c.w0 w → Hsat H w → Kp (keys N) w w' → R w v w' → ∃ N', keys N' = keys N ∧ InW N' w' ∧ JO c Q (.draw Hs true) r (putF F dd v) (A ++ (N' ++ B))) :
    JO c Q (.draw Hs true) (⟨dd, .call ⟨.value (.func f), args, ats⟩, ty, g, .seq, ns⟩ :: r) F H := by
  subst hH
  refine ⟨⟨hd, .inr ⟨hg, fun a w st hs => ?_⟩⟩⟩
  unfold Oper.wp SOp.oper
  rw [evArgs_run st.fr ha]
  refine Calls.mono (hc w st.kp st.hs) fun e w' he => ?_
  cases e with
  | panicked ch => exact he.elim
  | outgrown => exact he.elim
  | returned v =>
    obtain ⟨hk, hR⟩ := he
    obtain ⟨N', hkeys, hb, hj⟩ := h w v w' st.kp st.hs hk hR
    have hp : (A ++ (N ++ B)).Perm ((A ++ B) ++ N) := (perm_mid A N B).symm
    have hnd := (st.perm hp).hs.nd
    have hnd0 := hnd
    rw [List.map_append, List.nodup_append] at hnd
    obtain ⟨st', hstep, hkk⟩ := turn_step (N' := N') st hp (by have := hnd.2.1; unfold keys at hkeys; rw [hkeys]; exact this) hb (fun k hk' => .inl (hkeys ▸ hk')) (fun k h1 h2 => hk.block k h1 h2) hk.size hk.os hk.tape hk.output
    have hAB : Hsat (A ++ B) w' := by
      have h0 : Hsat (A ++ B) w := (HSub.sub (List.sublist_append_left (A ++ B) N)).hsat (st.perm hp).hs
      exact h0.kp hk fun p hp' hpk => hnd.2.2 p.1 (List.mem_map.2 ⟨p, hp', rfl⟩) p.1 hpk rfl
    refine ⟨hstep, _, _, .draw Hs true, (st'.perm (perm_mid A N' B)).put v hd, fun k hk' => hkk k ?_, ⟨rfl, fun _ => ⟨rfl, hHs.hsat hAB⟩, fun _ => rfl, .inl rfl⟩, hj.h⟩
    obtain ⟨q, hq, rfl⟩ := List.mem_map.1 hk'
    exact List.mem_map.2 ⟨q, (perm_mid A N' B).mem_iff.2 hq, rfl⟩

/-- The same for a function value that is known. -/
theorem r_callVO {A N B : SHeap} {f : FuncId} {args : Array Operand} {ats : Array TypeId} {vs : List Value} {first cap : Array Value} {R : World → Value → World → Prop} {dd : Option Tmp} [TF c.P f] (hH : H = A ++ (N ++ B)) (hm : m.mayStore ns r) (hd : dstOk c.n dd = true) (hg : guardF F g = some true)
    (hx : ev F x = some (.func (.func f) first cap)) (ha : evArgs F args.toList = some vs)
    (hc : ∀ w, Kp c.M c.w0 w → Hsat H w → Calls c.P f (first ++ vs.toArray ++ cap) w (Ret fun v w' => Kp (keys N) w w' ∧ R w v w'))
    (h : ∀ w v w', Kp c.M c.w0 w → Hsat H w → Kp (keys N) w w' → R w v w' → ∃ N', keys N' = keys N ∧ InW N' w' ∧ JO c Q m.spent r (putF F dd v) (A ++ (N' ++ B))) :
    JO c Q m (⟨dd, .call ⟨.value x, args, ats⟩, ty, g, .seq, ns⟩ :: r) F H := by
  subst hH
  refine ⟨⟨hd, .inr ⟨hg, fun a w st hs => ?_⟩⟩⟩
  have hrun : (execOp a.eval ⟨dd, .call ⟨.value x, args, ats⟩, ty, "", #[], none⟩).run c.P w = .ok (.enter f (first ++ vs.toArray ++ cap)) w := by
    show (do let d ← resolve a.eval ⟨.value x, args, ats⟩ ty; invoke d.target d.args).run c.P w = _
    have h1 : args.map a.eval = vs.toArray := by
      have := evArgs_map st.fr ha
      apply Array.ext'
      rw [Array.toList_map, this]
    have h0 : (resolve a.eval ⟨.value x, args, ats⟩ ty).run c.P w = .ok { target := .fn (.func f) cap, args := first ++ vs.toArray } w := by
      simp [resolve, h1, st.fr.ev hx, Deferred.ofValue]
    rw [Sem.run_bind, h0]
    simp only [Result.andThen_ok, invoke, TF.run]
  unfold Oper.wp SOp.oper
  rw [hrun]
  refine Calls.mono (hc w st.kp st.hs) fun e w' he => ?_
  cases e with
  | panicked ch => exact he.elim
  | outgrown => exact he.elim
  | returned v =>
    obtain ⟨hk, hR⟩ := he
    obtain ⟨N', hkeys, hb, hj⟩ := h w v w' st.kp st.hs hk hR
    have hp : (A ++ (N ++ B)).Perm ((A ++ B) ++ N) := (perm_mid A N B).symm
    have hnd := (st.perm hp).hs.nd
    rw [List.map_append, List.nodup_append] at hnd
    obtain ⟨st', hstep, hkk⟩ := turn_step (N' := N') st hp (by have := hnd.2.1; unfold keys at hkeys; rw [hkeys]; exact this) hb (fun k hk' => .inl (hkeys ▸ hk')) (fun k h1 h2 => hk.block k h1 h2) hk.size hk.os hk.tape hk.output
    refine ⟨hstep, _, _, m.spent, (st'.perm (perm_mid A N' B)).put v hd, fun k hk' => hkk k ?_, Mode.after_spent hm, hj.h⟩
    obtain ⟨q, hq, rfl⟩ := List.mem_map.1 hk'
    exact List.mem_map.2 ⟨q, (perm_mid A N' B).mem_iff.2 hq, rfl⟩

/-! ### Rows in blocks that are named -/

/-- The cells of a block: these numbers, then others. -/
def rowC (xs : List Nat) (rest : List Value) : Array Value := ⟨xs.map nv ++ rest⟩

theorem rowC_get {xs : List Nat} {rest : List Value} {o : Nat} (ho : o < xs.length) : (rowC xs rest)[o]? = some (nv (xs.getD o 0)) := by
  have h1 : (rowC xs rest)[o]? = (xs.map nv ++ rest)[o]? := by simp [rowC]
  rw [h1, List.getElem?_append_left (by simpa using ho), List.getElem?_map, gD_lt (d := 0) ho]
  rfl
theorem rowC_set {xs : List Nat} {rest : List Value} {o u : Nat} (ho : o < xs.length) : (rowC xs rest).setIfInBounds o (nv u) = rowC (xs.set o u) rest := by
  apply Array.ext'
  simp [rowC, List.set_append, ho, List.map_set]
theorem rowC_size (xs : List Nat) (rest : List Value) : (rowC xs rest).size = xs.length + rest.length := by simp [rowC]

theorem r_ldB {b o : Nat} (k : Nat) {xs : List Nat} {rest : List Value} {T : TypeId} {fz : Nat × Nat} [T1 c.P t] (hd : dstOk c.n (some d) = true) (hg : guardF F g = some true) (hx : ev F x = some (.pointer (some ⟨b, o, none⟩))) (hl : m.live = true)
    (hb : (m.src H)[k]? = some (b, .cells (rowC xs rest) T fz)) (ho : o < xs.length) (h : JO c Q m r ((d, nv (xs.getD o 0)) :: F) H) : JO c Q m (⟨some d, .load t x, ty, g, .ld, ns⟩ :: r) F H :=
  r_load k hd hg hx hl hb (rowC_get ho) h
theorem r_ldBSeq {b o : Nat} (k : Nat) {xs : List Nat} {rest : List Value} {T : TypeId} {fz : Nat × Nat} [T1 c.P t] (hm : m.mayCall ns r) (hd : dstOk c.n (some d) = true) (hg : guardF F g = some true) (hx : ev F x = some (.pointer (some ⟨b, o, none⟩)))
    (hb : H[k]? = some (b, .cells (rowC xs rest) T fz)) (ho : o < xs.length) (h : JO c Q m r ((d, nv (xs.getD o 0)) :: F) H) : JO c Q m (⟨some d, .load t x, ty, g, .seq, ns⟩ :: r) F H :=
  r_ldSeq k hm hd hg hx hb (rowC_get ho) h
theorem r_stB {b o u : Nat} (k : Nat) {xs : List Nat} {rest : List Value} {T : TypeId} [T1 c.P t] (hg : guardF F g = some true) (hm : m.mayStore ns r) (hx : ev F x = some (.pointer (some ⟨b, o, none⟩))) (hy : ev F y = some (nv u))
    (hb : H[k]? = some (b, .cells (rowC xs rest) T (0, 0))) (ho : o < xs.length) (h : JO c Q m.spent r F (H.set k (b, .cells (rowC (xs.set o u) rest) T (0, 0)))) :
    JO c Q m (⟨none, .store t x y, ty, g, .seq, ns⟩ :: r) F H :=
  r_store k hg hm hx hy hb rfl rfl (by rw [rowC_size]; omega) (by rw [rowC_set ho]; exact h)
theorem r_idxB {e : TypeId} {b o len cap j : Nat} {k : IntKind} [TSl c.P t e] [TSz c.P e 1] (hd : dstOk c.n (some d) = true) (hg : guardF F g = some true) (hx : ev F x = some (.slice (some ⟨b, o, none⟩) len cap)) (hy : ev F y = some (.int k j)) (hj : j < len)
    (h : JO c Q m r ((d, .pointer (some ⟨b, o + j, none⟩)) :: F) H) : JO c Q m (⟨some d, .indexAddr t x y, ty, g, .mov, ns⟩ :: r) F H :=
  r_index1 hd hg hx (fun _ => rfl) hy hj h
theorem r_sliceB {e : TypeId} {b o len cap l h' : Nat} {lo hi : Operand} [TSl c.P t e] [TSz c.P e 1] (hd : dstOk c.n (some d) = true) (hg : guardF F g = some true)
    (hx : ev F x = some (.slice (some ⟨b, o, none⟩) len cap)) (hlo : ev F lo = some (nv l)) (hhi : ev F hi = some (nv h')) (hlh : l < h') (hhl : h' ≤ len) (hlc : len ≤ cap)
    (h : JO c Q m r ((d, (.slice (some ⟨b, o + l, none⟩) (h' - l) (cap - l))) :: F) H) : JO c Q m (⟨some d, .slice t x (some lo) (some hi) none, ty, g, .mov, ns⟩ :: r) F H :=
  r_slice (b := b) (o := o) hd hg hx (fun _ => rfl) hlo rfl (.inl rfl) hhi rfl (.inl rfl) (by omega) hhl hlc (fun A' hA' => by
    obtain rfl := hA' hlh
    rw [Nat.mul_one]
    exact h)

/-- A load of a cell that was there at the start, and has not been turned. -/
theorem r_ldW {b o : Nat} {v : Value} [T1 c.P t] (hd : dstOk c.n (some d) = true) (hg : guardF F g = some true) (hx : ev F x = some (.pointer (some ⟨b, o, none⟩))) (hl : m.live = true)
    (hc : c.w0.cell? ⟨b, o, none⟩ = some v) (hm : b ∉ c.M) (h : JO c Q m r ((d, v) :: F) H) : JO c Q m (⟨some d, .load t x, ty, g, .ld, ns⟩ :: r) F H := r_loadO hd hg hx hl hc hm h

end

theorem OwnN.named {N : SHeap} {v : Value} {n : Nat} {xs : List Nat} (h : OwnN N v n xs) (hn : 0 < n) : ∃ b cap rest, v = .slice (some ⟨b, 0, none⟩) n cap ∧ N = [(b, .cells (rowC xs rest) 3 (0, 0))] ∧ n ≤ cap ∧ rest.length = cap - n ∧ cap ≤ maxLen := by
  obtain ⟨hl, ⟨rfl, rfl, rfl⟩ | ⟨b, cap, cur, rfl, rfl, h2, h3, h4, h5⟩⟩ := h
  · omega
  · refine ⟨b, cap, cur.toList.drop n, rfl, ?_, h2, by simp [h4], h3⟩
    have : cur = rowC xs (cur.toList.drop n) := by
      apply Array.ext'
      show cur.toList = xs.map nv ++ cur.toList.drop n
      rw [Nat.mul_one] at h5
      rw [← h5, List.take_append_drop]
    rw [← this]
theorem OwnN.ofNamed {b cap n : Nat} {xs : List Nat} {rest : List Value} (hl : xs.length = n) (hn : n ≤ cap) (hr : rest.length = cap - n) (hc : cap ≤ maxLen) : OwnN [(b, .cells (rowC xs rest) 3 (0, 0))] (.slice (some ⟨b, 0, none⟩) n cap) n xs := by
  refine ⟨by simp [hl], .inr ⟨b, cap, _, rfl, rfl, hn, hc, by rw [rowC_size]; omega, ?_⟩⟩
  show (xs.map nv ++ rest).take (n * 1) = xs.map nv
  rw [Nat.mul_one, List.take_append_of_le_length (by simp [hl])]
  exact List.take_of_length_le (by simp [hl])

end Go.Proofs.YtdehklhdjbkneaaDoor

/- The rules of the judgement, continued: slices that are written down. -/
namespace Go.Proofs.YtdehklhdjbkneaaDoor
open Go Go.RowKit
set_option linter.unusedSimpArgs false
set_option linter.unusedVariables false
set_option linter.unusedSectionVars false

theorem storeL_list : ∀ (l : List Value) (cs : Array Value) (o : Nat), o + l.length ≤ cs.size → (storeL cs o l).toList = cs.toList.take o ++ (l ++ cs.toList.drop (o + l.length))
  | [], cs, o, h => by rw [storeL]; simp
  | v :: l, cs, o, h => by
    simp only [List.length_cons] at h
    rw [storeL, storeL_list l _ _ (by rw [Array.size_setIfInBounds]; omega), Array.toList_setIfInBounds]
    have hlt : o < (cs.toList.set o v).length := by simp; omega
    rw [List.take_succ_eq_append_getElem hlt, List.take_set_of_le (Nat.le_refl _), List.drop_set_of_lt (by omega)]
    simp only [List.getElem_set_self, List.append_assoc, List.singleton_append, List.length_cons, List.cons_append, List.nil_append]
    rw [show o + 1 + l.length = o + (l.length + 1) by omega]

theorem foldl_storeL (off : Nat) : ∀ (l : List Value) (k : Nat) (cs : Array Value), (l.zipIdx k).foldl (fun (cs : Array Value) (x : Value × Nat) => cs.setIfInBounds (off + x.2) x.1) cs = storeL cs (off + k) l
  | [], k, cs => rfl
  | v :: l, k, cs => by
    rw [List.zipIdx_cons, List.foldl_cons, foldl_storeL off l, storeL]
    rfl

def flat (vs : List Value) : List Value := (vs.map fun v => v.cells.toList).flatten

theorem fill_go (sz : Nat) : ∀ (l : List (Nat × Value)) (vs : List Value) (k : Nat) (cs : Array Value), l.map (·.2) = vs → l.map (·.1) = List.range' k l.length → (∀ v ∈ vs, v.cells.size = sz) → cs.size = (k + l.length) * sz →
    ∃ cs', Instr.fill (fun j => some (j * sz, sz)) cs l = some cs' ∧ cs'.toList = cs.toList.take (k * sz) ++ flat vs
  | [], vs, k, cs, h1, _, _, h4 => by
    simp only [List.map_nil] at h1
    subst h1
    refine ⟨cs, rfl, ?_⟩
    rw [List.take_of_length_le (by simp at h4 ⊢; omega)]
    simp [flat]
  | (i, v) :: l, vs, k, cs, h1, h2, h3, h4 => by
    simp only [List.map_cons] at h1
    subst h1
    simp only [List.map_cons, List.length_cons, List.range'_succ, List.cons.injEq] at h2
    obtain ⟨rfl, h2⟩ := h2
    have hv : v.cells.size = sz := h3 v (by simp)
    have e1 : (i + (l.length + 1)) * sz = i * sz + sz + l.length * sz := by rw [Nat.add_mul, Nat.add_mul, Nat.one_mul]; omega
    simp only [List.length_cons] at h4
    rw [e1] at h4
    have hst : v.cells.zipIdx.foldl (fun (cs : Array Value) (x : Value × Nat) => cs.setIfInBounds (i * sz + x.2) x.1) cs = storeL cs (i * sz) v.cells.toList := by
      rw [← Array.foldl_toList, Array.toList_zipIdx, foldl_storeL]; rfl
    obtain ⟨cs', h5, h6⟩ := fill_go sz l (l.map (·.2)) (i + 1) (storeL cs (i * sz) v.cells.toList) rfl h2 (fun u hu => h3 u (List.mem_cons_of_mem _ hu)) (by rw [storeL_size, h4, Nat.add_mul, Nat.add_mul, Nat.one_mul])
    refine ⟨cs', ?_, ?_⟩
    · have hg : ¬ ((v.cells.size ≠ sz || decide (i * sz + v.cells.size > cs.size)) = true) := by
        simp only [hv, ne_eq, not_true_eq_false, decide_false, Bool.false_or, decide_eq_true_eq]
        omega
      show (if (v.cells.size ≠ sz || decide (i * sz + v.cells.size > cs.size)) = true then none else Instr.fill _ (v.cells.zipIdx.foldl (fun (cs : Array Value) (x : Value × Nat) => cs.setIfInBounds (i * sz + x.2) x.1) cs) l) = _
      rw [if_neg hg, hst, h5]
    · rw [h6, storeL_list _ _ _ (by simp [hv]; omega)]
      have hlen : (cs.toList.take (i * sz) ++ v.cells.toList).length = (i + 1) * sz := by simp [hv, Nat.add_mul]; omega
      rw [← List.append_assoc, List.take_left' hlen]
      simp [flat]

def ones : List Value → Prop
  | [] => True
  | v :: r => v.cells = #[v] ∧ ones r
theorem ones_flat : ∀ {vs : List Value}, ones vs → flat vs = vs ∧ ∀ v ∈ vs, v.cells.size = 1
  | [], _ => ⟨rfl, by simp⟩
  | v :: r, ⟨h1, h2⟩ => by
    obtain ⟨h3, h4⟩ := ones_flat h2
    refine ⟨?_, fun u hu => ?_⟩
    · have : flat (v :: r) = v.cells.toList ++ flat r := by simp [flat]
      rw [this, h3, h1]; rfl
    · rcases List.mem_cons.1 hu with rfl | hu
      · rw [h1]; rfl
      · exact h4 u hu

theorem evParts_map2 {F : SFrame} : ∀ {ps : List (Nat × Operand)} {vs : List Value}, evArgs F (ps.map (·.2)) = some vs → ∃ l, evParts F ps = some l ∧ l.map (·.1) = ps.map (·.1) ∧ l.map (·.2) = vs
  | [], vs, h => by simp only [List.map_nil, evArgs, Option.some.injEq] at h; subst h; exact ⟨[], rfl, rfl, rfl⟩
  | (i, x) :: r, vs, h => by
    simp only [List.map_cons, evArgs] at h
    split at h
    · rename_i v vs' h1 h2
      simp only [Option.some.injEq] at h
      subst h
      obtain ⟨l, h3, h4, h5⟩ := evParts_map2 h2
      exact ⟨(i, v) :: l, by simp only [evParts, h1, h3], by simp [h4], by simp [h5]⟩
    · cases h

section
variable {c : Cx} {Q : Exit → Act → World → Prop} {m : Mode} {F : SFrame} {H : SHeap} {r : List SOp} {g : Option (Option Tmp × Bool)} {ns : Bool} {d : Tmp} {ty t t' : TypeId} {x y : Operand}

theorem r_sub1 {i : Nat} (hd : dstOk c.n (some d) = true) (hg : guardF F g = some true) (hx : ev F x = some (.int .i64 i)) (hy : ev F y = some (.int .i64 1)) (hb : 1 ≤ i ∧ i < 9223372036854775808)
    (h : JO c Q m r ((d, .int .i64 ((i - 1 : Nat) : Int)) :: F) H) : JO c Q m (⟨some d, .binOp .sub t x y t', ty, g, .mov, ns⟩ :: r) F H := r_subN (j := 1) hd hg hx hy hb h
theorem r_sub2 {i : Nat} (hd : dstOk c.n (some d) = true) (hg : guardF F g = some true) (hx : ev F x = some (.int .i64 i)) (hy : ev F y = some (.int .i64 2)) (hb : 2 ≤ i ∧ i < 9223372036854775808)
    (h : JO c Q m r ((d, .int .i64 ((i - 2 : Nat) : Int)) :: F) H) : JO c Q m (⟨some d, .binOp .sub t x y t', ty, g, .mov, ns⟩ :: r) F H := r_subN (j := 2) hd hg hx hy hb h
theorem r_shr1 {k : IntKind} {i : Nat} (hd : dstOk c.n (some d) = true) (hg : guardF F g = some true) (hx : ev F x = some (.int .i64 i)) (hy : ev F y = some (.int k 1))
    (h : JO c Q m r ((d, .int .i64 ((i / 2 : Nat) : Int)) :: F) H) : JO c Q m (⟨some d, .binOp .shr t x y t', ty, g, .mov, ns⟩ :: r) F H := r_shrN (j := 1) hd hg hx hy (by omega) h

/-- '[]T{a, b, ..}'. -/
theorem r_buildG {e : TypeId} {sz bytes n : Nat} {zc : Array Value} {parts : Array (Nat × Operand)} {vs cl : List Value} [TSl c.P t e] [TE c.P e sz bytes zc] (hd : dstOk c.n (some d) = true) (hg : guardF F g = some true) (hl : m.live = true)
    (hp : evArgs F (parts.toList.map (·.2)) = some vs) (hi : parts.toList.map (·.1) = List.range n) (hs : ∀ v ∈ vs, v.cells.size = sz) (hf : flat vs = cl) (hn : n * sz ≤ 1000) (hn0 : n * sz ≠ 0)
    (h : ∀ b, JO c Q m r ((d, (.slice (some ⟨b, 0, none⟩) n n)) :: F) ((b, .cells ⟨cl⟩ e) :: H)) : JO c Q m (⟨some d, .buildSlice t n parts, ty, g, .alloc, ns⟩ :: r) F H := by
  obtain ⟨l, h1, h2, h3⟩ := evParts_map2 hp
  have hln : l.length = n := by
    have := congrArg List.length h2
    rw [hi] at this
    simpa using this
  obtain ⟨cs', h4, h5⟩ := fill_go sz l vs 0 (zerosOf zc (n * sz)) h3 (by rw [h2, hi, hln, List.range_eq_range']) hs (by simp [zerosOf, hln])
  have h6 : cs' = ⟨cl⟩ := by apply Array.ext'; rw [h5, ← hf]; simp
  subst h6
  exact r_buildSlice hd hg hl h1 (by omega) hn0 h4 h

theorem r_build1 {e : TypeId} {bytes n : Nat} {zc : Array Value} {parts : Array (Nat × Operand)} {vs : List Value} [TSl c.P t e] [TE c.P e 1 bytes zc] (hd : dstOk c.n (some d) = true) (hg : guardF F g = some true) (hl : m.live = true)
    (hp : evArgs F (parts.toList.map (·.2)) = some vs) (hi : parts.toList.map (·.1) = List.range n) (ho : ones vs) (hn : n * 1 ≤ 1000) (hn0 : n * 1 ≠ 0)
    (h : ∀ b, JO c Q m r ((d, (.slice (some ⟨b, 0, none⟩) n n)) :: F) ((b, .cells ⟨vs⟩ e) :: H)) : JO c Q m (⟨some d, .buildSlice t n parts, ty, g, .alloc, ns⟩ :: r) F H :=
  r_buildG hd hg hl hp hi (ones_flat ho).2 (ones_flat ho).1 hn hn0 h

theorem r_eqNil {A : Option Addr} {len cap : Nat} {e : TypeId} [TSl c.P t e] (hd : dstOk c.n (some d) = true) (hg : guardF F g = some true) (hx : ev F x = some (.slice A len cap)) (hy : ev F y = some (.slice none 0 0)) (h : JO c Q m r ((d, (.bool A.isNone)) :: F) H) :
    JO c Q m (⟨some d, .binOp .eql t x y t', ty, g, .mov, ns⟩ :: r) F H :=
  r_mov hd hg (fun a w fr => by
    simp only [execOp, fr.ev hx, fr.ev hy, binOp]
    have hs : eqGuard .eql t x y (.slice A len cap) (.slice none 0 0) = pure () := rfl
    simp only [hs, Sem.run_bind, Sem.run_pure, Result.andThen_ok, run_equal_slice_nil w t e A len cap (TSl.und (P := c.P) (t := t))]) h

end

theorem own_lit (b n : Nat) (xs : List Nat) (vs : List Value) (hv : vs = xs.map nv) (hn : xs.length = n) (h : n ≤ 1000) : OwnN [(b, .cells ⟨vs⟩ 3)] (.slice (some ⟨b, 0, none⟩) n n) n xs := by
  subst hv
  have := OwnRow.mk' (e := 3) (sz := 1) (n := n) (b := b) (cs := ⟨xs.map nv⟩) (by simp [hn]) (by simp only [maxLen]; omega)
  exact this

end Go.Proofs.YtdehklhdjbkneaaDoor

/- The rules of the judgement, continued: copies into owned rows. -/
namespace Go.Proofs.YtdehklhdjbkneaaDoor
open Go Go.RowKit
set_option linter.unusedSimpArgs false
set_option linter.unusedVariables false
set_option linter.unusedSectionVars false

/-- k numbers from place o on are those of ys. -/
def segSet (o k : Nat) (ys xs : List Nat) : List Nat := xs.take o ++ (ys.take k ++ xs.drop (o + k))

theorem segSet_zero (o : Nat) (ys xs : List Nat) : segSet o 0 ys xs = xs := by simp [segSet]
theorem segSet_len {o k : Nat} {ys xs : List Nat} (hk : k ≤ ys.length) (ho : o + k ≤ xs.length) : (segSet o k ys xs).length = xs.length := by simp [segSet]; omega
theorem segSet_getD {o k : Nat} {ys xs : List Nat} (hk : k ≤ ys.length) (ho : o + k ≤ xs.length) (i : Nat) : (segSet o k ys xs).getD i 0 = if o ≤ i ∧ i < o + k then ys.getD (i - o) 0 else xs.getD i 0 := by
  simp only [segSet, List.getD, List.getElem?_append, List.length_take, List.getElem?_take, List.getElem?_drop]
  have e1 : min o xs.length = o := by omega
  have e2 : min k ys.length = k := by omega
  rw [e1, e2]
  by_cases h1 : i < o
  · rw [if_pos h1, if_pos h1, if_neg (by omega)]
  · rw [if_neg h1]
    by_cases h2 : i - o < k
    · rw [if_pos h2, if_pos h2, if_pos (by omega)]
    · rw [if_neg h2, if_neg (by omega), show o + k + (i - o - k) = i by omega]

section
variable {c : Cx} {Q : Exit → Act → World → Prop} {m : Mode} {F : SFrame} {H : SHeap} {r : List SOp} {g : Option (Option Tmp × Bool)} {ns : Bool} {d : Tmp} {ty t t' : TypeId} {x y : Operand}

/-- 'copy(out[o:o+k], src)': out is owned (the blocks N); the source can be read. Loads may come behind it: they do not read N. -/
theorem r_copyNL {v vd vs : Value} {n k k' o : Nat} {xs ys zs : List Nat} {A B N N2 Nd Hs : SHeap} [TSl c.P t 3] [TE c.P 3 1 8 #[iv 0]]
    (hO : OwnN N v n xs) (hv : RdN c Nd vd k zs) (hat : ∀ j, j < k → vAt vd j = vAt v (o + j)) (ho : o + k ≤ n) (h2 : RdN c N2 vs k' ys) (hk : k ≤ k') (hN2 : HSub N2 H) (hH : H = A ++ (N ++ B)) (hHs : HSub Hs (A ++ B))
    (hd : dstOk c.n (some d) = true) (hg : guardF F g = some true) (hx : ev F x = some vd) (hy : ev F y = some vs)
    (h : ∀ u N', OwnN N' v n (segSet o k ys xs) → JO c Q (.draw Hs true) r ((d, u) :: F) (A ++ (N' ++ B))) :
    JO c Q (.draw Hs true) (⟨some d, .call ⟨.builtin .copy, #[x, y], #[t, t]⟩, ty, g, .seq, ns⟩ :: r) F H := by
  subst hH
  refine ⟨⟨hd, .inr ⟨hg, fun a w st hlive => ?_⟩⟩⟩
  obtain ⟨i, z, hi, hi1, _⟩ := TE.info (P := c.P) (e := 3) (sz := 1) (bytes := 8) (zc := #[iv 0])
  obtain ⟨_, D, capd, rfl, _, hvd⟩ := hv
  have hyl := h2.len
  obtain ⟨_, A2, cc, rfl, _, hrd⟩ := h2
  have hp : (A ++ (N ++ B)).Perm ((A ++ B) ++ N) := (perm_mid A N B).symm
  have hargs : (#[x, y] : Array Operand).map a.eval = #[.slice D k capd, .slice A2 k' cc] := by simp [st.fr.ev hx, st.fr.ev hy]
  obtain ⟨w', N', hrun, hN', hb', hkeys, ho', hs', e1, e2, e3⟩ : ∃ w' N', (Builtin.copy_ #[t, t] ty #[.slice D k capd, .slice A2 k' cc]).run c.P w = .ok (goInt k) w' ∧ OwnN N' v n (segSet o k ys xs) ∧ (∀ p ∈ N', w'.heap[p.1]? = some p.2) ∧ (∀ k ∈ keys N', k ∈ keys N ∨ w.heap.size ≤ k) ∧
      (∀ k, k < w.heap.size → k ∉ keys N → w'.heap[k]? = w.heap[k]?) ∧ w.heap.size ≤ w'.heap.size ∧ w'.os = w.os ∧ w'.tape = w.tape ∧ w'.output = w.output := by
    rcases Nat.eq_zero_or_pos k with h0 | h0
    · subst h0
      refine ⟨w, N, ?_, by rw [segSet_zero]; exact hO, fun p hp' => st.hs.blk p (List.mem_append.2 (.inr (List.mem_append.2 (.inl hp')))), fun k hk => .inl hk, fun _ _ _ => rfl, Nat.le_refl _, rfl, rfl, rfl⟩
      cases D <;> cases A2 <;> simp [Builtin.copy_, run_underlying (TSl.und (P := c.P) (t := t)), Builtin.lenOf, Builtin.firstCells, sizeOf, typeInfo, hi, loadCells, loadCellsFrom, storeCells]
    · have hxl := hO.len
      obtain ⟨b, cap, rest, rfl, rfl, h3, h4, h5⟩ := hO.named (by omega)
      have hm : (b, Obj.cells (rowC xs rest) 3 (0, 0)) ∈ A ++ ([(b, Obj.cells (rowC xs rest) 3 (0, 0))] ++ B) := by simp
      have hbw := st.hs.blk _ hm
      obtain ⟨⟨b', o', rfl⟩, _⟩ := hvd h0
      have h6 := hat 0 h0
      simp only [vAt, Nat.add_zero, Nat.zero_add, Addr.mk.injEq] at h6
      obtain ⟨rfl, rfl, _⟩ := h6
      obtain ⟨⟨b2, o2, rfl⟩, hcell⟩ := hrd (by omega)
      have hlt : (ys.take k).length = k := by simp; omega
      have hr := run_copy_row (P := c.P) w t t ty 3 b' o' k capd ⟨b2, o2, none⟩ k' cc (rowC xs rest) 3 ((ys.take k).map nv) (TSl.und (P := c.P) (t := t)) (by rw [hi]; simp [hi1]) hbw (by rw [List.length_map, hlt]; exact (Nat.min_eq_right hk).symm)
        (fun j u hu => by
          rw [add_none]
          refine hcell w ⟨st.kp, hN2.hsat st.hs⟩ j u ?_
          rw [List.map_take, List.getElem?_take] at hu
          split at hu
          · exact hu
          · cases hu) (by rw [List.length_map, hlt, rowC_size]; omega) (fun u hu => by obtain ⟨q, _, rfl⟩ := List.mem_map.1 hu; rfl)
      rw [List.length_map, hlt] at hr
      have hcs : ((rowC xs rest).toList.take o' ++ (ys.take k).map nv ++ (rowC xs rest).toList.drop (o' + k)).toArray = rowC (segSet o' k ys xs) rest := by
        apply Array.ext'
        show (xs.map nv ++ rest).take o' ++ (ys.take k).map nv ++ (xs.map nv ++ rest).drop (o' + k) = (segSet o' k ys xs).map nv ++ rest
        rw [List.take_append_of_le_length (by simp; omega), List.drop_append_of_le_length (by simp; omega)]
        simp [segSet, List.map_take, List.map_drop]
      rw [hcs] at hr
      refine ⟨w.setRow b' (rowC (segSet o' k ys xs) rest), [(b', .cells (rowC (segSet o' k ys xs) rest) 3 (0, 0))], hr, OwnN.ofNamed (by rw [segSet_len (by omega) (by omega)]; exact hxl) h3 h4 h5, fun q hq => ?_, fun q hq => .inl hq, fun q _ hq => setRow_other w b' q _ (fun e => hq (by subst e; simp [keys])), by simp [World.setRow], rfl, rfl, rfl⟩
      cases List.mem_singleton.1 hq
      exact setRow_heap w b' _ _ _ _ hbw
  have hexec : (execOp a.eval ⟨some d, .call ⟨.builtin .copy, #[x, y], #[t, t]⟩, ty, "", #[], none⟩).run c.P w = .ok (.value (goInt k)) w' := by
    show (do let d ← resolve a.eval ⟨.builtin .copy, #[x, y], #[t, t]⟩ ty; invoke d.target d.args).run c.P w = _
    simp only [resolve, Sem.run_bind, Sem.run_pure, Result.andThen_ok, invoke, builtin, hargs]
    simp [hrun]
  unfold Oper.wp SOp.oper
  rw [hexec]
  obtain ⟨st', hstep, hkk⟩ := turn_step st hp (OwnRow.nodup hN') hb' hkeys ho' hs' e1 e2 e3
  have hAB : Hsat (A ++ B) w' := ⟨by have := st'.hs.nd; rw [List.map_append, List.nodup_append] at this; exact this.1, fun p hp => st'.hs.blk p (List.mem_append.2 (.inl hp))⟩
  refine ⟨hstep, (d, goInt k) :: F, A ++ (N' ++ B), .draw Hs true, (st'.perm (perm_mid A N' B)).put (goInt k) hd, fun k hk => hkk k ?_, ⟨rfl, fun _ => ⟨rfl, hHs.hsat hAB⟩, fun _ => rfl, .inl rfl⟩, (h _ N' hN').h⟩
  obtain ⟨q, hq, rfl⟩ := List.mem_map.1 hk
  exact List.mem_map.2 ⟨q, (perm_mid A N' B).mem_iff.2 hq, rfl⟩

end
end Go.Proofs.YtdehklhdjbkneaaDoor

/- Regions in which two operations may come up in either order: each of the two orders is shown. -/
namespace Go.Proofs.YtdehklhdjbkneaaDoor
open Go Go.RowKit
set_option linter.unusedSimpArgs false
set_option linter.unusedVariables false
set_option linter.unusedSectionVars false

section
variable {P : Program} {ops : Array Oper}

/-- The same operations; that at j waits for that at i. -/
def edge (ops : Array Oper) (i j : Nat) : Array Oper := ops.modify j fun o => { o with after := o.after.push ⟨i, .data⟩ }

theorem edge_size {i j : Nat} : (edge ops i j).size = ops.size := by simp [edge]
theorem edge_get {i j k : Nat} : (edge ops i j)[k]? = (ops[k]?).map fun o => if k = j then { o with after := o.after.push ⟨i, .data⟩ } else o := by
  unfold edge
  rw [Array.getElem?_modify]
  by_cases h : j = k
  · subst h; simp
  · rw [if_neg h]
    have h' : ¬ k = j := fun e => h e.symm
    simp [h']

theorem edge_yielded {i j : Nat} (tmps : Array Value) : yielded (edge ops i j) tmps = yielded ops tmps := by
  funext g
  unfold yielded
  rw [edge_get]
  cases ops[g]? with
  | none => rfl
  | some o =>
    simp only [Option.map_some, Option.bind_some]
    by_cases h : g = j
    · simp only [if_pos h]
    · simp only [if_neg h]

theorem execOp_after (ρ : Operand → Value) (o : Oper) (af : Array Edge) : execOp ρ { o with after := af } = execOp ρ o := by
  obtain ⟨dst, op, type, pos, after, guard⟩ := o
  cases op <;> rfl

theorem wpOps_edge {Q : Exit → Act → World → Prop} {i j : Nat} : ∀ (l : List Nat) (a : Act) (w : World), wpOps P (edge ops i j) Q l a w → wpOps P ops Q l a w
  | [], _, _, h => h
  | k :: l, a, w, h => by
    have ih : wpOps P (edge ops i j) Q l = wpOps P (edge ops i j) Q l := rfl
    unfold wpOps at h ⊢
    rw [edge_get] at h
    cases ho : ops[k]? with
    | none => rw [ho] at h; exact wpOps_edge l a w h
    | some o =>
      rw [ho] at h
      simp only [Option.map_some] at h ⊢
      rw [edge_yielded] at h
      have hw : Region.wanted (if k = j then { o with after := o.after.push ⟨i, .data⟩ } else o) (yielded ops a.tmps) = Region.wanted o (yielded ops a.tmps) := by
        split <;> rfl
      have hd : (if k = j then { o with after := o.after.push ⟨i, .data⟩ } else o).dst = o.dst := by split <;> rfl
      have hwp : ∀ K, (if k = j then { o with after := o.after.push ⟨i, .data⟩ } else o).wp P a w K Q = o.wp P a w K Q := fun K => by
        split
        · unfold Oper.wp
          rw [execOp_after]
          have : (Oper.upon P { o with after := o.after.push ⟨i, .data⟩ } a K Q) = (Oper.upon P o a K Q) := by
            funext r; unfold Oper.upon; rfl
          rw [this]
        · rfl
      have has : (if k = j then { o with after := o.after.push ⟨i, .data⟩ } else o).asks P a w = o.asks P a w := by
        split
        · unfold Oper.asks
          rw [execOp_after]
        · rfl
      rw [hw, hd, hwp, has] at h
      split
      · rename_i hq
        rw [if_pos hq] at h
        rcases h with h | h
        · exact .inl (Oper.wp_mono (fun a w => wpOps_edge l a w) h)
        · exact .inr h
      · rename_i hq
        rw [if_neg hq] at h
        exact wpOps_edge l _ _ h

/-- An order in which the operations may come up. -/
def Ordr (ops : Array Oper) : Nat → Array Bool → List Nat → Prop
  | 0, _, l => l = []
  | f + 1, listed, l => (Region.ready .any ops listed = [] ∧ l = []) ∨ ∃ k l', k ∈ Region.ready .any ops listed ∧ l = k :: l' ∧ Ordr ops f (listed.setIfInBounds k true) l'

theorem go_step (f t : Nat) (listed : Array Bool) : Region.linearise.go .any ops (f + 1) t listed [] = match (Region.ready .any ops listed)[t % (Region.ready .any ops listed).length]? with
    | some i => i :: Region.linearise.go .any ops f (t / (Region.ready .any ops listed).length) (listed.setIfInBounds i true) []
    | none => [] := by
  simp only [Region.linearise.go]
  change (match (Region.ready .any ops listed)[t % (Region.ready .any ops listed).length]? with
      | some i => Region.linearise.go .any ops f (t / (Region.ready .any ops listed).length) (listed.setIfInBounds i true) [i]
      | none => [].reverse) = _
  cases (Region.ready .any ops listed)[t % (Region.ready .any ops listed).length]? with
  | none => rfl
  | some i => simp only []; rw [linearise_go_acc]; rfl

theorem ordr_go : ∀ (f t : Nat) (listed : Array Bool), Ordr ops f listed (Region.linearise.go .any ops f t listed [])
  | 0, _, _ => rfl
  | f + 1, t, listed => by
    rw [go_step]
    cases hi : (Region.ready .any ops listed)[t % (Region.ready .any ops listed).length]? with
    | none =>
      refine .inl ⟨?_, rfl⟩
      cases hr : Region.ready .any ops listed with
      | nil => rfl
      | cons x xs =>
        rw [hr] at hi
        have hlt : t % (x :: xs).length < (x :: xs).length := Nat.mod_lt _ (by simp)
        rw [List.getElem?_eq_getElem hlt] at hi
        cases hi
    | some i => exact .inr ⟨i, _, List.mem_of_getElem? hi, rfl, ordr_go f _ _⟩

theorem go_ordr : ∀ (f : Nat) (listed : Array Bool) (l : List Nat), Ordr ops f listed l → ∃ t, Region.linearise.go .any ops f t listed [] = l
  | 0, _, l, h => ⟨0, by rw [show l = [] from h]; rfl⟩
  | f + 1, listed, l, h => by
    rcases h with ⟨hr, rfl⟩ | ⟨k, l', hk, rfl, h⟩
    · exact ⟨0, by rw [go_step, hr]; rfl⟩
    · obtain ⟨t, ht⟩ := go_ordr f _ l' h
      obtain ⟨n, hn, hkn⟩ := List.mem_iff_getElem.1 hk
      refine ⟨n + (Region.ready .any ops listed).length * t, ?_⟩
      rw [go_step, Nat.add_mul_mod_self_left, Nat.mod_eq_of_lt hn, List.getElem?_eq_getElem hn, hkn, Nat.add_mul_div_left _ _ (by omega), Nat.div_eq_of_lt hn, Nat.zero_add]
      simp only [ht]

theorem ready_edge {i j k : Nat} {listed : Array Bool} : k ∈ Region.ready .any (edge ops i j) listed ↔ k ∈ Region.ready .any ops listed ∧ (k = j → listed.getD i false = true) := by
  rw [mem_ready, mem_ready, edge_get]
  cases ops[k]? with
  | none => simp
  | some o =>
    simp only [Option.map_some, Option.some.injEq, exists_eq_left']
    by_cases h : k = j
    · subst h
      simp only [if_true, true_implies]
      constructor
      · rintro ⟨h1, h2⟩
        exact ⟨⟨h1, fun e he => h2 e (by simp [he])⟩, h2 ⟨i, .data⟩ (by simp) rfl⟩
      · rintro ⟨⟨h1, h2⟩, h3⟩
        refine ⟨h1, fun e he hb => ?_⟩
        rcases Array.mem_push.1 he with he | rfl
        · exact h2 e he hb
        · exact h3
    · simp [h]

theorem listed_set {listed : Array Bool} {i k : Nat} (h : listed.getD i false = true) : (listed.setIfInBounds k true).getD i false = true := by
  by_cases hki : k = i
  · subst hki
    have : k < listed.size := by
      rcases Nat.lt_or_ge k listed.size with h' | h'
      · exact h'
      · simp [Array.getElem?_eq_none h'] at h
    simp [this]
  · simpa [hki] using h

theorem ordr_edge {i j : Nat} : ∀ (f : Nat) (listed : Array Bool) (l : List Nat), listed.getD i false = true → Ordr ops f listed l → Ordr (edge ops i j) f listed l
  | 0, _, _, _, h => h
  | f + 1, listed, l, hi, h => by
    have hr : ∀ k, k ∈ Region.ready .any (edge ops i j) listed ↔ k ∈ Region.ready .any ops listed := fun k => by rw [ready_edge]; simp [hi]
    rcases h with ⟨h1, rfl⟩ | ⟨k, l', hk, rfl, h⟩
    · refine .inl ⟨?_, rfl⟩
      cases hq : Region.ready .any (edge ops i j) listed with
      | nil => rfl
      | cons x xs =>
        have := (hr x).1 (by rw [hq]; simp)
        rw [h1] at this; cases this
    · exact .inr ⟨k, l', (hr k).2 hk, rfl, ordr_edge f _ l' (listed_set hi) h⟩

theorem set_listed {listed : Array Bool} {k : Nat} (hk : k ∈ Region.ready .any ops listed) : (listed.setIfInBounds k true).getD k false = true := by
  have h := (mem_ready.1 hk).1
  have : k < listed.size := by
    rcases Nat.lt_or_ge k listed.size with h' | h'
    · exact h'
    · simp [Array.getElem?_eq_none h'] at h
  simp [this]

theorem ordr_fork {i j : Nat} (hij : i ≠ j) : ∀ (f : Nat) (listed : Array Bool) (l : List Nat), Ordr ops f listed l → Ordr (edge ops i j) f listed l ∨ Ordr (edge ops j i) f listed l
  | 0, _, _, h => .inl h
  | f + 1, listed, l, h => by
    rcases h with ⟨h1, rfl⟩ | ⟨k, l', hk, rfl, h⟩
    · refine .inl (.inl ⟨?_, rfl⟩)
      cases hq : Region.ready .any (edge ops i j) listed with
      | nil => rfl
      | cons x xs =>
        have := (ready_edge.1 (show x ∈ Region.ready .any (edge ops i j) listed by rw [hq]; simp)).1
        rw [h1] at this; cases this
    · by_cases hki : k = i
      · subst hki
        exact .inl (.inr ⟨k, l', ready_edge.2 ⟨hk, fun e => absurd e hij⟩, rfl, ordr_edge f _ l' (set_listed hk) h⟩)
      · by_cases hkj : k = j
        · subst hkj
          exact .inr (.inr ⟨k, l', ready_edge.2 ⟨hk, fun e => absurd e.symm hij⟩, rfl, ordr_edge f _ l' (set_listed hk) h⟩)
        · rcases ordr_fork hij f _ l' h with h | h
          · exact .inl (.inr ⟨k, l', ready_edge.2 ⟨hk, fun e => absurd e hkj⟩, rfl, h⟩)
          · exact .inr (.inr ⟨k, l', ready_edge.2 ⟨hk, fun e => absurd e hki⟩, rfl, h⟩)
end

section
variable {c : Cx} {Q : Exit → Act → World → Prop} {F : SFrame} {H : SHeap}

theorem any_of_canon {kd : Nat → Op → Kind} {tail : Nat} {order : List Nat} {ops : Array Oper} {Hs : SHeap} {a : Act} {w : World}
    (hB : canonB c.P kd ops order tail = true) (st : St c F H a w) (hHs : Hsat Hs w) (h : JL c (Q .normal) (.draw Hs true) (sopsAt kd ops tail order) F H) :
    wpAny c.P .any ops (Only (Q .normal)) ops.size (Array.replicate ops.size false) a { w with drawn := w.drawn + 1 } := by
  simp only [canonB, Bool.and_eq_true] at hB
  obtain ⟨hs, ht, hal, hl, hc, hu⟩ := hB
  have hl : order.length = ops.size := by simpa using hl
  refine wpAny_of_C (kd := kd) (S := Src c Hs) _ _ _ _ ?_
  have st' : St c F H a { w with drawn := w.drawn + 1 } := ⟨st.fr, st.kp.trans (Kp.drew _ _), st.hs.kp (Kp.drew [] w) (by simp), st.wr⟩
  have hU : ∀ i, i < ops.size → isU c.P kd ops i = true → apartU c.P kd ops (Array.replicate ops.size false) i = true := fun i hi hx => by
    have := List.all_eq_true.1 hu i (List.mem_range.2 hi)
    simpa [hx] using this
  refine sim (Q := Only (Q .normal)) (K := Q .normal) hs hU (fun a w h => h) (fun ch a a' w h => h.elim) order _ hc ht ops.size true _ H F (fun _ => none) a a _ h ?_ ?_
  · refine ⟨st', fun _ => hHs.kp (Kp.drew [] w) (by simp), ⟨rfl, rfl, (fun e ob o d h => by cases h), fun s _ => rfl⟩, ⟨fun e ob h => (by cases h), fun e ob h => (by cases h), fun e ob o h => (by cases h), fun e ob o h => (by cases h), fun e b o h => (by cases h), fun e b h => (by cases h),
      fun e e' b h => by cases h⟩, by simp, by simp, fun j hj => by simp, fun j hj _ => ?_, .inl rfl⟩
    have := List.all_eq_true.1 hal j (List.mem_range.2 hj)
    simpa using this
  · exact hl ▸ List.countP_le_length

theorem sopsAt_edge {kd : Nat → Op → Kind} {ops : Array Oper} {i j tail : Nat} : ∀ l, sopsAt kd (edge ops i j) tail l = sopsAt kd ops tail l
  | [] => rfl
  | k :: l => by
    have ho : ∀ (kk : Kind) (ns : Bool) (o : Oper), toSOp (edge ops i j) kk ns o = toSOp ops kk ns o := fun kk ns o => by
      unfold toSOp
      cases hg : o.guard with
      | none => rfl
      | some g =>
        obtain ⟨g, want⟩ := g
        simp only []
        rw [edge_get]
        cases ops[g]? with
        | none => rfl
        | some o' =>
          simp only [Option.map_some]
          split <;> rfl
    simp only [sopsAt, edge_get]
    cases ops[k]? with
    | none => exact sopsAt_edge l
    | some o =>
      simp only [Option.map_some]
      rw [sopsAt_edge l, ho]
      split <;> rfl

/-- A region in which i and j may come up in either order. -/
theorem JC.fork {id : Nat} {ops : Array Oper} (i j : Nat) (kd : Nat → Op → Kind) (t1 t2 : Nat) (o1 o2 : List Nat) (hij : i ≠ j) (hm : c.P.follows .mixedOrders = true)
    (hB1 : canonB c.P kd (edge ops i j) o1 t1 = true) (hB2 : canonB c.P kd (edge ops j i) o2 t2 = true)
    (h1 : JO c Q (.draw H true) (sopsAt kd ops t1 o1) F H) (h2 : JO c Q (.draw H true) (sopsAt kd ops t2 o2) F H) : JC c Q (.raw (.region id ops true)) F H := ⟨fun a w st => by
  show (Code.region id ops true).wp c.P Q a w
  refine wp_mono ?_ (fun e a w h => Only.up e a w h)
  have a1 := any_of_canon (Q := Q) hB1 st st.hs (by rw [sopsAt_edge]; exact h1.h)
  have a2 := any_of_canon (Q := Q) hB2 st st.hs (by rw [sopsAt_edge]; exact h2.h)
  rw [edge_size] at a1 a2
  refine wp_region_draw fun t => ?_
  simp only [Region.schedule, hm, Bool.true_or, if_true]
  rcases ordr_fork hij _ _ _ (ordr_go (ops := ops) ops.size t (Array.replicate ops.size false)) with h | h
  · obtain ⟨t', ht⟩ := go_ordr _ _ _ h
    have := wpAny_sound ops.size t' _ a _ a1
    rw [ht] at this
    exact wpOps_edge _ _ _ this
  · obtain ⟨t', ht⟩ := go_ordr _ _ _ h
    have := wpAny_sound ops.size t' _ a _ a2
    rw [ht] at this
    exact wpOps_edge _ _ _ this⟩
end

/-! ## Code of which some regions are kept as they are -/

def inR : List Nat → Nat → Bool
  | [], _ => false
  | x :: l, n => bif x == n then true else inR l n

def toR (rs : List Nat) (od : List Od) : Code → SCode
  | .region id ops d => bif inR rs id then .raw (.region id ops d) else toS od (.region id ops d)
  | .skip => .skip
  | .seq a b => .seq (toR rs od a) (toR rs od b)
  | .cond c a b => .cond c (toR rs od a) (toR rs od b)
  | .block id c => .block id (toR rs od c)
  | .loop c => .loop (toR rs od c)
  | .exit id => .exit id
  | .scope c => .scope (toR rs od c)
  | .ret => .ret
  | c => .raw c

def okR (P : Program) (rs : List Nat) (od : List Od) : Code → Bool
  | .region id ops d => inR rs id || okS P od (.region id ops d)
  | .seq a b => okR P rs od a && okR P rs od b
  | .cond _ a b => okR P rs od a && okR P rs od b
  | .block _ c => okR P rs od c
  | .loop c => okR P rs od c
  | .scope c => okR P rs od c
  | _ => true

theorem wp_of_toR {c : Cx} (rs : List Nat) (od : List Od) (hm : c.P.follows .mixedOrders = true) : ∀ (s : Code) (Q : Exit → Act → World → Prop) (a : Act) (w : World),
    okR c.P rs od s = true → (toR rs od s).wp c Q a w → s.wp c.P Q a w
  | .skip, Q, a, w, _, h => wp_skip h
  | .region id ops d, Q, a, w, hk, h => by
    unfold toR at h
    unfold okR at hk
    cases hr : inR rs id with
    | true => rw [hr] at h; exact h
    | false => rw [hr] at h hk; exact wp_of_toS od hm _ Q a w (by simpa using hk) h
  | .seq x y, Q, a, w, hk, h => by
    simp only [okR, Bool.and_eq_true] at hk
    refine wp_seq (wp_of_toR rs od hm x _ a w hk.1 ?_)
    refine wp_of_toS.wp_mono' (fun e a w hq => ?_) h
    cases e <;> first | exact hq | exact wp_of_toR rs od hm y _ _ _ hk.2 hq
  | .cond x y z, Q, a, w, hk, h => by
    simp only [okR, Bool.and_eq_true] at hk
    obtain ⟨t, hc, h1, h2⟩ := h
    exact wp_cond_split hc (fun ht => wp_of_toR rs od hm y _ _ _ hk.1 (h1 ht)) (fun ht => wp_of_toR rs od hm z _ _ _ hk.2 (h2 ht))
  | .block id s, Q, a, w, hk, h => wp_block (wp_of_toR rs od hm s _ _ _ hk h)
  | .loop s, Q, a, w, hk, h => by
    obtain ⟨I, ⟨n, h0⟩, hr⟩ := h
    exact wp_loop_ghost I n h0 fun n a w hi => wp_of_toR rs od hm s _ _ _ hk (hr n a w hi)
  | .exit id, Q, a, w, _, h => wp_exit h
  | .scope s, Q, a, w, hk, h => wp_scope_straight (wp_of_toR rs od hm s _ _ _ hk h)
  | .ret, Q, a, w, _, h => wp_ret h
  | .label _, _, _, _, _, h => h
  | .goto _, _, _, _, _, h => h
  | .refuse _, _, _, _, _, h => h
  | .rangeFunc .., _, _, _, _, h => h

theorem calls_of_R {P : Program} {f : FuncId} {fn : Func} {s : Code} {args : Array Value} {w : World} {R : Ending → World → Prop} {n : Nat} {rs : Array ResultVar} (raws : List Nat) (od : List Od) (M : List Nat) (hM : ∀ k ∈ M, k < w.heap.size)
    (H : SHeap) (hf : P.funcs[f]? = some fn) (hb : fn.body = some s) (hm : P.follows .mixedOrders = true) (hk : okR P raws od s = true)
    (hn : fn.ntmps = n) (hrs : fn.results = rs) (hF : Nat.ble args.size n = true) (hH : Hsat H w) (hwr : ∀ p ∈ H, p.1 ∈ M)
    (h : JC ⟨P, n, w, M, hM⟩ (endPost P rs R) (toR raws od s) (zipF 0 args.toList) H) : Calls P f args w R := by
  subst hn hrs
  have hF := Nat.le_of_ble_eq_true hF
  refine calls_of_wp hf hb ?_
  refine Code.wp_mono ?_ (wp_of_toR (c := ⟨P, fn.ntmps, w, M, hM⟩) raws od hm s _ _ _ hk (h.h _ _ ⟨⟨rfl, ?_, fun i v hl => ?_⟩, Kp.refl _ _, hH, fun p hp => .inr (hwr p hp)⟩))
  · intro e a w hq
    cases e <;> exact hq
  · simp; omega
  · obtain ⟨_, h1⟩ := zipF_look _ _ _ _ hl
    have h1 : args[i]? = some v := by simpa using h1
    have h2 : i < args.size := by
      rcases Nat.lt_or_ge i args.size with h | h
      · exact h
      · rw [Array.getElem?_eq_none h] at h1; cases h1
    rw [Array.getElem?_append_left h2]; exact h1

end Go.Proofs.YtdehklhdjbkneaaDoor

/- The rules of the judgement, continued: words (uint64) and conversions of integers. -/
namespace Go.Proofs.YtdehklhdjbkneaaDoor
open Go Go.RowKit
set_option linter.unusedSimpArgs false
set_option linter.unusedVariables false
set_option linter.unusedSectionVars false

/-- A word. -/
abbrev uv (n : Nat) : Value := .int .u64 (n : Int)

theorem u64_in {n : Nat} (h : n < 18446744073709551616) : IntKind.u64.wrap (n : Int) = (n : Int) := by rw [IntKind.wrap_u64]; omega

section
variable {c : Cx} {Q : Exit → Act → World → Prop} {m : Mode} {F : SFrame} {H : SHeap} {r : List SOp} {g : Option (Option Tmp × Bool)} {ns : Bool} {d : Tmp} {ty t t' : TypeId} {x y : Operand} {i j : Nat}

theorem r_addU (hd : dstOk c.n (some d) = true) (hg : guardF F g = some true) (hx : ev F x = some (uv i)) (hy : ev F y = some (uv j)) (hb : i + j < 18446744073709551616)
    (h : JO c Q m r ((d, uv (i + j)) :: F) H) : JO c Q m (⟨some d, .binOp .add t x y t', ty, g, .mov, ns⟩ :: r) F H :=
  r_arith hd hg hx hy (fun w => by
    rw [binOp_add]
    simp only [Op.intArith, show (i : Int) + (j : Int) = ((i + j : Nat) : Int) by omega, u64_in hb, Sem.run_pure]) h
/-- A difference that may wrap. -/
theorem r_subU (hd : dstOk c.n (some d) = true) (hg : guardF F g = some true) (hx : ev F x = some (uv i)) (hy : ev F y = some (uv j)) (hb : i < 18446744073709551616 ∧ j < 18446744073709551616)
    (h : JO c Q m r ((d, uv ((i + (18446744073709551616 - j)) % 18446744073709551616)) :: F) H) : JO c Q m (⟨some d, .binOp .sub t x y t', ty, g, .mov, ns⟩ :: r) F H :=
  r_arith hd hg hx hy (fun w => by
    rw [binOp_sub]
    simp only [Op.intArith, Sem.run_pure, IntKind.wrap_u64]
    rw [show ((i : Int) - (j : Int)) % 18446744073709551616 = (((i + (18446744073709551616 - j)) % 18446744073709551616 : Nat) : Int) by omega]) h
theorem r_mulU (hd : dstOk c.n (some d) = true) (hg : guardF F g = some true) (hx : ev F x = some (uv i)) (hy : ev F y = some (uv j)) (hb : i * j < 18446744073709551616)
    (h : JO c Q m r ((d, uv (i * j)) :: F) H) : JO c Q m (⟨some d, .binOp .mul t x y t', ty, g, .mov, ns⟩ :: r) F H :=
  r_arith hd hg hx hy (fun w => by
    rw [binOp_mul]
    simp only [Op.intArith, show (i : Int) * (j : Int) = ((i * j : Nat) : Int) by simp, u64_in hb, Sem.run_pure]) h
theorem r_quoU (hd : dstOk c.n (some d) = true) (hg : guardF F g = some true) (hx : ev F x = some (uv i)) (hy : ev F y = some (uv j)) (hb : 0 < j ∧ i < 18446744073709551616)
    (h : JO c Q m r ((d, uv (i / j)) :: F) H) : JO c Q m (⟨some d, .binOp .quo t x y t', ty, g, .mov, ns⟩ :: r) F H :=
  r_arith hd hg hx hy (fun w => by
    have h0 : ¬ ((j : Int) = 0) := by omega
    have h1 : i / j < 18446744073709551616 := Nat.lt_of_le_of_lt (Nat.div_le_self _ _) hb.2
    rw [binOp_quo]; simp only [Op.intDiv, h0, if_false, ← Int.ofNat_tdiv, u64_in h1, Sem.run_pure]) h
theorem r_remU (hd : dstOk c.n (some d) = true) (hg : guardF F g = some true) (hx : ev F x = some (uv i)) (hy : ev F y = some (uv j)) (hb : 0 < j)
    (h : JO c Q m r ((d, uv (i % j)) :: F) H) : JO c Q m (⟨some d, .binOp .rem t x y t', ty, g, .mov, ns⟩ :: r) F H :=
  r_arith hd hg hx hy (fun w => by
    have h0 : ¬ ((j : Int) = 0) := by omega
    have h1 : (i : Int).tmod j = ((i % j : Nat) : Int) := (Int.ofNat_tmod i j).symm
    rw [binOp_rem]; simp only [Op.intDiv, h0, if_false, Sem.run_pure, h1]) h
theorem r_andU (hd : dstOk c.n (some d) = true) (hg : guardF F g = some true) (hx : ev F x = some (uv i)) (hy : ev F y = some (uv j)) (hb : i < 18446744073709551616 ∧ j < 18446744073709551616)
    (h : JO c Q m r ((d, uv (i &&& j)) :: F) H) : JO c Q m (⟨some d, .binOp .and t x y t', ty, g, .mov, ns⟩ :: r) F H :=
  r_arith hd hg hx hy (fun w => by rw [binOp_and, intBits_and, bits_and_u64_nat _ _ hb.1 hb.2]; rfl) h
/-- The lower half. -/
theorem r_maskU (hd : dstOk c.n (some d) = true) (hg : guardF F g = some true) (hx : ev F x = some (uv i)) (hy : ev F y = some (.int .u64 4294967295)) (hb : i < 18446744073709551616)
    (h : JO c Q m r ((d, uv (i % 4294967296)) :: F) H) : JO c Q m (⟨some d, .binOp .and t x y t', ty, g, .mov, ns⟩ :: r) F H :=
  r_arith hd hg hx hy (fun w => by
    rw [binOp_and, intBits_and, show (4294967295 : Int) = ((2 ^ 32 - 1 : Nat) : Int) from rfl, bits_and_u64_nat _ _ hb (by decide), Nat.and_two_pow_sub_one_eq_mod]; rfl) h
theorem r_orU (hd : dstOk c.n (some d) = true) (hg : guardF F g = some true) (hx : ev F x = some (uv i)) (hy : ev F y = some (uv j)) (hb : i < 18446744073709551616 ∧ j < 18446744073709551616)
    (h : JO c Q m r ((d, uv (i ||| j)) :: F) H) : JO c Q m (⟨some d, .binOp .or t x y t', ty, g, .mov, ns⟩ :: r) F H :=
  r_arith hd hg hx hy (fun w => by rw [binOp_or, intBits_or, bits_or_u64_nat _ _ hb.1 hb.2]; rfl) h
theorem r_shlU {k : IntKind} (hd : dstOk c.n (some d) = true) (hg : guardF F g = some true) (hx : ev F x = some (uv i)) (hy : ev F y = some (.int k j)) (hj : j ≤ 64)
    (h : JO c Q m r ((d, uv (i * 2 ^ j % 18446744073709551616)) :: F) H) : JO c Q m (⟨some d, .binOp .shl t x y t', ty, g, .mov, ns⟩ :: r) F H :=
  r_mov hd hg (fun a w fr => by
    have h1 : ¬ ((j : Int) < 0) := by omega
    have h2 : min j 64 = j := by omega
    have h3 : IntKind.u64.wrap ((i : Int) * 2 ^ j) = ((i * 2 ^ j % 18446744073709551616 : Nat) : Int) := by
      rw [IntKind.wrap_u64, show (i : Int) * 2 ^ j = ((i * 2 ^ j : Nat) : Int) by simp]
      generalize i * 2 ^ j = z
      omega
    simp only [execOp, fr.ev hx, fr.ev hy, eqGuard_shl, binOp_shl, Op.shift, h1, if_false, Int.toNat_natCast]
    simp [IntKind.bits, h2, h3, uv]) h
theorem r_shrU {k : IntKind} (hd : dstOk c.n (some d) = true) (hg : guardF F g = some true) (hx : ev F x = some (uv i)) (hy : ev F y = some (.int k j)) (hj : j ≤ 64)
    (h : JO c Q m r ((d, uv (i / 2 ^ j)) :: F) H) : JO c Q m (⟨some d, .binOp .shr t x y t', ty, g, .mov, ns⟩ :: r) F H :=
  r_mov hd hg (fun a w fr => by
    have h1 : ¬ ((j : Int) < 0) := by omega
    have h2 : min j 64 = j := by omega
    simp only [execOp, fr.ev hx, fr.ev hy, eqGuard_shr, binOp_shr, Op.shift, h1, if_false, Int.toNat_natCast]
    have h3 : ((i : Int).fdiv (2 ^ j)) = ((i / 2 ^ j : Nat) : Int) := by
      rw [Int.fdiv_eq_ediv_of_nonneg _ (by exact_mod_cast Nat.zero_le (2 ^ j))]; norm_cast
    simp [IntKind.bits, h2, h3, uv]) h
end

/-- An integer type. -/
class TI (P : Program) (t : TypeId) (k : outParam IntKind) : Prop where
  und : P.underlying t = some (.int k)
theorem TI.kind {P : Program} {t : TypeId} {k : IntKind} [h : TI P t k] : P.intKind t = k := by
  unfold Program.intKind
  rw [h.und]

section
variable {c : Cx} {Q : Exit → Act → World → Prop} {m : Mode} {F : SFrame} {H : SHeap} {r : List SOp} {g : Option (Option Tmp × Bool)} {ns : Bool} {d : Tmp} {ty t t' : TypeId} {x y : Operand}

/-- An integer of one kind made one of another. -/
theorem r_convK {k k' : IntKind} {i : Int} (j : Int) [TI c.P t k] [TI c.P t' k'] (hd : dstOk c.n (some d) = true) (hg : guardF F g = some true) (hx : ev F x = some (.int k i)) (hj : k'.wrap i = j)
    (h : JO c Q m r ((d, .int k' j) :: F) H) : JO c Q m (⟨some d, .convert t t' x, ty, g, .mov, ns⟩ :: r) F H :=
  r_mov hd hg (fun a w fr => by
    have h1 := run_convert_int w t t' k i (by rw [TI.und (P := c.P) (t := t)]; rfl) (by rw [TI.kind (k := k')]; exact TI.und)
    rw [TI.kind (k := k'), hj] at h1
    simp only [execOp, fr.ev hx, Sem.run_bind, h1, Result.andThen_ok, Sem.run_pure]) h
end

section
variable {c : Cx} {Q : Exit → Act → World → Prop} {m : Mode} {F : SFrame} {H : SHeap} {r : List SOp} {g : Option (Option Tmp × Bool)} {ns : Bool} {d : Tmp} {ty t t' : TypeId} {x y : Operand}

/-- An integer that is made an int. -/
theorem r_convN {k : IntKind} {i : Nat} [TI c.P t k] [TI c.P t' .i64] (hd : dstOk c.n (some d) = true) (hg : guardF F g = some true) (hx : ev F x = some (.int k i)) (hb : i < 9223372036854775808)
    (h : JO c Q m r ((d, .int .i64 i) :: F) H) : JO c Q m (⟨some d, .convert t t' x, ty, g, .mov, ns⟩ :: r) F H := r_convK (k' := .i64) i hd hg hx (in64N hb) h
theorem r_neBS {b : Bool} [TB c.P t] (hd : dstOk c.n (some d) = true) (hg : guardF F g = some true) (hx : ev F x = some (.bool b)) (hy : ev F y = some (.bool b)) (h : JO c Q m r ((d, .bool false) :: F) H) : JO c Q m (⟨some d, .binOp .neq t x y t', ty, g, .mov, ns⟩ :: r) F H :=
  r_neB hd hg hx hy (by rw [bne_self_eq_false]; exact h)
theorem r_eqBS {b : Bool} [TB c.P t] (hd : dstOk c.n (some d) = true) (hg : guardF F g = some true) (hx : ev F x = some (.bool b)) (hy : ev F y = some (.bool b)) (h : JO c Q m r ((d, .bool true) :: F) H) : JO c Q m (⟨some d, .binOp .eql t x y t', ty, g, .mov, ns⟩ :: r) F H :=
  r_eqB hd hg hx hy (by rw [beq_self_eq_true]; exact h)
end

instance : TI Tryd.prog 3 .i64 := ⟨Tryd.underlying3⟩
instance : TI Tryd.prog 5 .u8 := ⟨Tryd.underlying5⟩
instance : TI Tryd.prog 68 .u64 := ⟨Tryd.underlying68⟩

end Go.Proofs.YtdehklhdjbkneaaDoor

/- Rows of words and of bytes. Written by genV.py. -/
namespace Go.Proofs.YtdehklhdjbkneaaDoor
open Go Go.RowKit
set_option linter.unusedSimpArgs false
set_option linter.unusedVariables false
set_option linter.unusedSectionVars false

/-- A byte. -/
abbrev yv (n : Nat) : Value := .int .u8 (n : Int)

/-! ## U -/

def WU (w : World) (v : Value) (n : Nat) (xs : List Nat) : Prop := RdW w 1 v n (xs.map uv)
def RdU (c : Cx) (N : SHeap) (v : Value) (n : Nat) (xs : List Nat) : Prop := Rd c N 1 v n (xs.map uv)
def OwnU (N : SHeap) (v : Value) (n : Nat) (xs : List Nat) : Prop := OwnRow 68 1 N v n (xs.map uv)
theorem WU.len {w : World} {v : Value} {n : Nat} {xs : List Nat} (h : WU w v n xs) : xs.length = n := by simpa using h.1
theorem RdU.len {c : Cx} {N : SHeap} {v : Value} {n : Nat} {xs : List Nat} (h : RdU c N v n xs) : xs.length = n := by simpa using h.1
theorem OwnU.len {N : SHeap} {v : Value} {n : Nat} {xs : List Nat} (h : OwnU N v n xs) : xs.length = n := by simpa using h.1
theorem WU.mono {w w' : World} {v : Value} {n : Nat} {xs : List Nat} (h : WU w v n xs) (hk : Kp [] w w') : WU w' v n xs := RdW.mono h hk
theorem WU.rd {c : Cx} {v : Value} {n : Nat} {xs : List Nat} (h : WU c.w0 v n xs) (hM : c.M = []) (N : SHeap) : RdU c N v n xs := RdW.rd h hM N
theorem RdU.at {c : Cx} {N H : SHeap} {w : World} {v : Value} {n : Nat} {xs : List Nat} (h : RdU c N v n xs) (hk : Kp c.M c.w0 w) (hs : Hsat H w) (hN : HSub N H) : WU w v n xs := Rd.at h hk hs hN
theorem OwnU.rd {c : Cx} {N : SHeap} {v : Value} {n : Nat} {xs : List Nat} (h : OwnU N v n xs) : RdU c N v n xs := OwnRow.rd h
theorem OwnU.new {N : SHeap} {v : Value} {n : Nat} {xs : List Nat} {w w' : World} (h : OwnU N v n xs) (hn : New N w w') : WU w' v n xs := New.rd (c := ⟨Tryd.prog, 0, w, [], by simp⟩) h hn
theorem OwnU.form {N : SHeap} {v : Value} {n : Nat} {xs : List Nat} (h : OwnU N v n xs) : ∃ A cap, v = .slice A n cap := by
  obtain ⟨_, ⟨rfl, rfl, rfl⟩ | ⟨b, cap, cur, rfl, _⟩⟩ := h
  · exact ⟨_, _, rfl⟩
  · exact ⟨_, _, rfl⟩
theorem WU.form {w : World} {v : Value} {n : Nat} {xs : List Nat} (h : WU w v n xs) : ∃ A cap, v = .slice A n cap := by
  obtain ⟨_, A, cap, rfl, _⟩ := h
  exact ⟨_, _, rfl⟩
theorem OwnU.nil : OwnU [] (.slice none 0 0) 0 [] := OwnRow.nil _ 1
section
variable {c : Cx} {Q : Exit → Act → World → Prop} {m : Mode} {F : SFrame} {H : SHeap} {r : List SOp} {g : Option (Option Tmp × Bool)} {ns : Bool} {d : Tmp} {ty t t' : TypeId} {x y : Operand} {N : SHeap} {n : Nat} {v : Value}
theorem r_lenU {e : TypeId} {xs : List Nat} [TSl c.P t e] (hd : dstOk c.n (some d) = true) (hg : guardF F g = some true) (hx : ev F x = some v) (hv : RdU c N v n xs)
    (h : JO c Q m r ((d, .int .i64 n) :: F) H) : JO c Q m (⟨some d, .call ⟨.builtin .len, #[x], #[t]⟩, ty, g, .mov, ns⟩ :: r) F H := r_lenR hd hg hx hv h
theorem r_idxU {e : TypeId} {xs : List Nat} {j : Nat} {k : IntKind} [TSl c.P t e] [TSz c.P e 1] (hd : dstOk c.n (some d) = true) (hg : guardF F g = some true) (hx : ev F x = some v) (hy : ev F y = some (.int k j)) (hv : RdU c N v n xs) (hj : j < n)
    (h : JO c Q m r ((d, .pointer (some (vAt v j))) :: F) H) : JO c Q m (⟨some d, .indexAddr t x y, ty, g, .mov, ns⟩ :: r) F H := r_idxR1 hd hg hx hy hv hj h
theorem r_ldU {xs : List Nat} {i : Nat} [T1 c.P t] (hd : dstOk c.n (some d) = true) (hg : guardF F g = some true) (hx : ev F x = some (.pointer (some (vAt v i)))) (hl : m.live = true) (hv : RdU c N v n xs) (hN : HSub N (m.src H)) (hi : i < n)
    (h : JO c Q m r ((d, uv (xs.getD i 0)) :: F) H) : JO c Q m (⟨some d, .load t x, ty, g, .ld, ns⟩ :: r) F H :=
  r_ldR hd hg hx hl hv hN (by rw [List.getElem?_map, gD_lt (d := 0) (by have := hv.len; omega)]; rfl) h
theorem r_stU {A B : SHeap} {i u : Nat} {xs : List Nat} [T1 c.P t] (hO : OwnU N v n xs) (hH : H = A ++ (N ++ B)) (hg : guardF F g = some true) (hm : m.mayStore ns r) (hx : ev F x = some (.pointer (some (vAt v i)))) (hy : ev F y = some (uv u))
    (hi : i < n) (h : ∀ N', OwnU N' v n (xs.set i u) → JO c Q m.spent r F (A ++ (N' ++ B))) : JO c Q m (⟨none, .store t x y, ty, g, .seq, ns⟩ :: r) F H :=
  r_stO hO hH hg hm hx hy rfl rfl (by omega) (fun N' h' => h N' (by unfold OwnU; rw [List.map_set]; exact h'))
theorem own_zerosU (b n : Nat) (hn : n ≤ maxLen) : OwnU [(b, .cells (zerosOf #[(.int .u64 0)] (n * 1)) 68)] (.slice (some ⟨b, 0, none⟩) n n) n (tab n fun _ => 0) := by
  have h := OwnRow.mk' (e := 68) (sz := 1) (n := n) (b := b) (cs := zerosOf #[(.int .u64 0)] (n * 1)) (by rw [zeros1]; simp) hn
  rw [zeros1] at h ⊢
  have e : (Array.replicate (n * 1) (.int .u64 0)).toList = (tab n fun _ => 0).map uv := by
    apply List.ext_getElem?
    intro i
    simp only [Array.toList_replicate, List.getElem?_map, List.getElem?_replicate, Nat.mul_one]
    by_cases hi : i < n
    · rw [if_pos hi, tab_get hi]; rfl
    · rw [if_neg hi, List.getElem?_eq_none (by simp; omega)]; rfl
  rw [e] at h
  exact h
/-- A slice of a row of ints. -/
theorem r_sliceU {e : TypeId} {l h' : Nat} {xs : List Nat} {lo hi : Option Operand} {vl vh : Option Value} [TSl c.P t e] [TSz c.P e 1] (hd : dstOk c.n (some d) = true) (hg : guardF F g = some true)
    (hx : ev F x = some v) (hv : RdU c N v n xs)
    (hlo : (lo.bind (ev F)) = vl) (hlo' : lo.isSome = vl.isSome) (hl : vl = some (.int .i64 l) ∨ (vl = none ∧ l = 0)) (hhi : (hi.bind (ev F)) = vh) (hhi' : hi.isSome = vh.isSome) (hh : vh = some (.int .i64 h') ∨ (vh = none ∧ h' = n))
    (hlh : l ≤ h') (hhl : h' ≤ n)
    (h : ∀ v', RdU c N v' (h' - l) ((xs.drop l).take (h' - l)) → (∀ i, l < h' → vAt v' i = vAt v (l + i)) → JO c Q m r ((d, v') :: F) H) : JO c Q m (⟨some d, .slice t x lo hi none, ty, g, .mov, ns⟩ :: r) F H :=
  r_sliceR hd hg hx hv hlo hlo' hl hhi hhi' hh hlh hhl (fun v' h1 h2 => h v' (by
    unfold RdU
    rw [List.map_take, List.map_drop]
    simpa using h1) (by simpa using h2))
theorem r_appendU {A B N2 : SHeap} {v2 : Value} {k : Nat} {xs ys : List Nat} [TSl c.P t 68] [TE c.P 68 1 8 #[(.int .u64 0)]] (hO : OwnU N v n xs) (h2 : RdU c N2 v2 k ys) (hN2 : HSub N2 H) (hH : H = A ++ (N ++ B)) (hm : m.mayStore ns r) (hd : dstOk c.n (some d) = true) (hg : guardF F g = some true) (hx : ev F x = some v) (hy : ev F y = some v2)
    (hb : n + k ≤ 1000000000) (h : ∀ v' N', OwnU N' v' (n + k) (xs ++ ys) → JO c Q m.spent r ((d, v') :: F) (A ++ (N' ++ B))) :
    JO c Q m (⟨some d, .call ⟨.builtin .append, #[x, y], #[t, t]⟩, ty, g, .seq, ns⟩ :: r) F H :=
  r_appendA (e := 68) (sz := 1) (bytes := 8) (zc := #[(.int .u64 0)]) (xs := xs.map uv) (news := ys.map uv) (n := n) (mm := k) rfl hO h2 hN2 hH hm hd hg hx hy (fun u hu => by obtain ⟨a, _, rfl⟩ := List.mem_map.1 hu; rfl) (by simp only [maxLen]; omega) (by omega) (fun v' N' h' => h v' N' (by unfold OwnU; rw [List.map_append]; exact h'))
theorem r_appendUL {A B N2 Hs : SHeap} {v2 : Value} {k : Nat} {xs ys : List Nat} [TSl c.P t 68] [TE c.P 68 1 8 #[(.int .u64 0)]] (hO : OwnU N v n xs) (h2 : RdU c N2 v2 k ys) (hN2 : HSub N2 H) (hH : H = A ++ (N ++ B)) (hm : HSub Hs (A ++ B)) (hd : dstOk c.n (some d) = true) (hg : guardF F g = some true) (hx : ev F x = some v) (hy : ev F y = some v2)
    (hb : n + k ≤ 1000000000) (h : ∀ v' N', OwnU N' v' (n + k) (xs ++ ys) → JO c Q (.draw Hs true) r ((d, v') :: F) (A ++ (N' ++ B))) :
    JO c Q (.draw Hs true) (⟨some d, .call ⟨.builtin .append, #[x, y], #[t, t]⟩, ty, g, .seq, ns⟩ :: r) F H :=
  r_appendL (e := 68) (sz := 1) (bytes := 8) (zc := #[(.int .u64 0)]) (xs := xs.map uv) (news := ys.map uv) (n := n) (mm := k) rfl hO h2 hN2 hH hm hd hg hx hy (fun u hu => by obtain ⟨a, _, rfl⟩ := List.mem_map.1 hu; rfl) (by simp only [maxLen]; omega) (by omega) (fun v' N' h' => h v' N' (by unfold OwnU; rw [List.map_append]; exact h'))
end

theorem own_litU (b n : Nat) (xs : List Nat) (vs : List Value) (hv : vs = xs.map uv) (hn : xs.length = n) (h : n ≤ 1000) : OwnU [(b, .cells ⟨vs⟩ 68)] (.slice (some ⟨b, 0, none⟩) n n) n xs := by
  subst hv
  have := OwnRow.mk' (e := 68) (sz := 1) (n := n) (b := b) (cs := ⟨xs.map uv⟩) (by simp [hn]) (by simp only [maxLen]; omega)
  exact this
/-- The cells of a block: these numbers, then others. -/
def rowCU (xs : List Nat) (rest : List Value) : Array Value := ⟨xs.map uv ++ rest⟩
theorem rowCU_size (xs : List Nat) (rest : List Value) : (rowCU xs rest).size = xs.length + rest.length := by simp [rowCU]
theorem OwnU.named {N : SHeap} {v : Value} {n : Nat} {xs : List Nat} (h : OwnU N v n xs) (hn : 0 < n) : ∃ b cap rest, v = .slice (some ⟨b, 0, none⟩) n cap ∧ N = [(b, .cells (rowCU xs rest) 68 (0, 0))] ∧ n ≤ cap ∧ rest.length = cap - n ∧ cap ≤ maxLen := by
  obtain ⟨hl, ⟨rfl, rfl, rfl⟩ | ⟨b, cap, cur, rfl, rfl, h2, h3, h4, h5⟩⟩ := h
  · omega
  · refine ⟨b, cap, cur.toList.drop n, rfl, ?_, h2, by simp [h4], h3⟩
    have : cur = rowCU xs (cur.toList.drop n) := by
      apply Array.ext'
      show cur.toList = xs.map uv ++ cur.toList.drop n
      rw [Nat.mul_one] at h5
      rw [← h5, List.take_append_drop]
    rw [← this]
theorem OwnU.ofNamed {b cap n : Nat} {xs : List Nat} {rest : List Value} (hl : xs.length = n) (hn : n ≤ cap) (hr : rest.length = cap - n) (hc : cap ≤ maxLen) : OwnU [(b, .cells (rowCU xs rest) 68 (0, 0))] (.slice (some ⟨b, 0, none⟩) n cap) n xs := by
  refine ⟨by simp [hl], .inr ⟨b, cap, _, rfl, rfl, hn, hc, by rw [rowCU_size]; omega, ?_⟩⟩
  show (xs.map uv ++ rest).take (n * 1) = xs.map uv
  rw [Nat.mul_one, List.take_append_of_le_length (by simp [hl])]
  exact List.take_of_length_le (by simp [hl])

/-! ## Y -/

def WY (w : World) (v : Value) (n : Nat) (xs : List Nat) : Prop := RdW w 1 v n (xs.map yv)
def RdY (c : Cx) (N : SHeap) (v : Value) (n : Nat) (xs : List Nat) : Prop := Rd c N 1 v n (xs.map yv)
def OwnY (N : SHeap) (v : Value) (n : Nat) (xs : List Nat) : Prop := OwnRow 5 1 N v n (xs.map yv)
theorem WY.len {w : World} {v : Value} {n : Nat} {xs : List Nat} (h : WY w v n xs) : xs.length = n := by simpa using h.1
theorem RdY.len {c : Cx} {N : SHeap} {v : Value} {n : Nat} {xs : List Nat} (h : RdY c N v n xs) : xs.length = n := by simpa using h.1
theorem OwnY.len {N : SHeap} {v : Value} {n : Nat} {xs : List Nat} (h : OwnY N v n xs) : xs.length = n := by simpa using h.1
theorem WY.mono {w w' : World} {v : Value} {n : Nat} {xs : List Nat} (h : WY w v n xs) (hk : Kp [] w w') : WY w' v n xs := RdW.mono h hk
theorem WY.rd {c : Cx} {v : Value} {n : Nat} {xs : List Nat} (h : WY c.w0 v n xs) (hM : c.M = []) (N : SHeap) : RdY c N v n xs := RdW.rd h hM N
theorem RdY.at {c : Cx} {N H : SHeap} {w : World} {v : Value} {n : Nat} {xs : List Nat} (h : RdY c N v n xs) (hk : Kp c.M c.w0 w) (hs : Hsat H w) (hN : HSub N H) : WY w v n xs := Rd.at h hk hs hN
theorem OwnY.rd {c : Cx} {N : SHeap} {v : Value} {n : Nat} {xs : List Nat} (h : OwnY N v n xs) : RdY c N v n xs := OwnRow.rd h
theorem OwnY.new {N : SHeap} {v : Value} {n : Nat} {xs : List Nat} {w w' : World} (h : OwnY N v n xs) (hn : New N w w') : WY w' v n xs := New.rd (c := ⟨Tryd.prog, 0, w, [], by simp⟩) h hn
theorem OwnY.form {N : SHeap} {v : Value} {n : Nat} {xs : List Nat} (h : OwnY N v n xs) : ∃ A cap, v = .slice A n cap := by
  obtain ⟨_, ⟨rfl, rfl, rfl⟩ | ⟨b, cap, cur, rfl, _⟩⟩ := h
  · exact ⟨_, _, rfl⟩
  · exact ⟨_, _, rfl⟩
theorem WY.form {w : World} {v : Value} {n : Nat} {xs : List Nat} (h : WY w v n xs) : ∃ A cap, v = .slice A n cap := by
  obtain ⟨_, A, cap, rfl, _⟩ := h
  exact ⟨_, _, rfl⟩
theorem OwnY.nil : OwnY [] (.slice none 0 0) 0 [] := OwnRow.nil _ 1
section
variable {c : Cx} {Q : Exit → Act → World → Prop} {m : Mode} {F : SFrame} {H : SHeap} {r : List SOp} {g : Option (Option Tmp × Bool)} {ns : Bool} {d : Tmp} {ty t t' : TypeId} {x y : Operand} {N : SHeap} {n : Nat} {v : Value}
theorem r_lenY {e : TypeId} {xs : List Nat} [TSl c.P t e] (hd : dstOk c.n (some d) = true) (hg : guardF F g = some true) (hx : ev F x = some v) (hv : RdY c N v n xs)
    (h : JO c Q m r ((d, .int .i64 n) :: F) H) : JO c Q m (⟨some d, .call ⟨.builtin .len, #[x], #[t]⟩, ty, g, .mov, ns⟩ :: r) F H := r_lenR hd hg hx hv h
theorem r_idxY {e : TypeId} {xs : List Nat} {j : Nat} {k : IntKind} [TSl c.P t e] [TSz c.P e 1] (hd : dstOk c.n (some d) = true) (hg : guardF F g = some true) (hx : ev F x = some v) (hy : ev F y = some (.int k j)) (hv : RdY c N v n xs) (hj : j < n)
    (h : JO c Q m r ((d, .pointer (some (vAt v j))) :: F) H) : JO c Q m (⟨some d, .indexAddr t x y, ty, g, .mov, ns⟩ :: r) F H := r_idxR1 hd hg hx hy hv hj h
theorem r_ldY {xs : List Nat} {i : Nat} [T1 c.P t] (hd : dstOk c.n (some d) = true) (hg : guardF F g = some true) (hx : ev F x = some (.pointer (some (vAt v i)))) (hl : m.live = true) (hv : RdY c N v n xs) (hN : HSub N (m.src H)) (hi : i < n)
    (h : JO c Q m r ((d, yv (xs.getD i 0)) :: F) H) : JO c Q m (⟨some d, .load t x, ty, g, .ld, ns⟩ :: r) F H :=
  r_ldR hd hg hx hl hv hN (by rw [List.getElem?_map, gD_lt (d := 0) (by have := hv.len; omega)]; rfl) h
theorem r_stY {A B : SHeap} {i u : Nat} {xs : List Nat} [T1 c.P t] (hO : OwnY N v n xs) (hH : H = A ++ (N ++ B)) (hg : guardF F g = some true) (hm : m.mayStore ns r) (hx : ev F x = some (.pointer (some (vAt v i)))) (hy : ev F y = some (yv u))
    (hi : i < n) (h : ∀ N', OwnY N' v n (xs.set i u) → JO c Q m.spent r F (A ++ (N' ++ B))) : JO c Q m (⟨none, .store t x y, ty, g, .seq, ns⟩ :: r) F H :=
  r_stO hO hH hg hm hx hy rfl rfl (by omega) (fun N' h' => h N' (by unfold OwnY; rw [List.map_set]; exact h'))
theorem own_zerosY (b n : Nat) (hn : n ≤ maxLen) : OwnY [(b, .cells (zerosOf #[(.int .u8 0)] (n * 1)) 5)] (.slice (some ⟨b, 0, none⟩) n n) n (tab n fun _ => 0) := by
  have h := OwnRow.mk' (e := 5) (sz := 1) (n := n) (b := b) (cs := zerosOf #[(.int .u8 0)] (n * 1)) (by rw [zeros1]; simp) hn
  rw [zeros1] at h ⊢
  have e : (Array.replicate (n * 1) (.int .u8 0)).toList = (tab n fun _ => 0).map yv := by
    apply List.ext_getElem?
    intro i
    simp only [Array.toList_replicate, List.getElem?_map, List.getElem?_replicate, Nat.mul_one]
    by_cases hi : i < n
    · rw [if_pos hi, tab_get hi]; rfl
    · rw [if_neg hi, List.getElem?_eq_none (by simp; omega)]; rfl
  rw [e] at h
  exact h
/-- A slice of a row of ints. -/
theorem r_sliceY {e : TypeId} {l h' : Nat} {xs : List Nat} {lo hi : Option Operand} {vl vh : Option Value} [TSl c.P t e] [TSz c.P e 1] (hd : dstOk c.n (some d) = true) (hg : guardF F g = some true)
    (hx : ev F x = some v) (hv : RdY c N v n xs)
    (hlo : (lo.bind (ev F)) = vl) (hlo' : lo.isSome = vl.isSome) (hl : vl = some (.int .i64 l) ∨ (vl = none ∧ l = 0)) (hhi : (hi.bind (ev F)) = vh) (hhi' : hi.isSome = vh.isSome) (hh : vh = some (.int .i64 h') ∨ (vh = none ∧ h' = n))
    (hlh : l ≤ h') (hhl : h' ≤ n)
    (h : ∀ v', RdY c N v' (h' - l) ((xs.drop l).take (h' - l)) → (∀ i, l < h' → vAt v' i = vAt v (l + i)) → JO c Q m r ((d, v') :: F) H) : JO c Q m (⟨some d, .slice t x lo hi none, ty, g, .mov, ns⟩ :: r) F H :=
  r_sliceR hd hg hx hv hlo hlo' hl hhi hhi' hh hlh hhl (fun v' h1 h2 => h v' (by
    unfold RdY
    rw [List.map_take, List.map_drop]
    simpa using h1) (by simpa using h2))
theorem r_appendY {A B N2 : SHeap} {v2 : Value} {k : Nat} {xs ys : List Nat} [TSl c.P t 5] [TE c.P 5 1 1 #[(.int .u8 0)]] (hO : OwnY N v n xs) (h2 : RdY c N2 v2 k ys) (hN2 : HSub N2 H) (hH : H = A ++ (N ++ B)) (hm : m.mayStore ns r) (hd : dstOk c.n (some d) = true) (hg : guardF F g = some true) (hx : ev F x = some v) (hy : ev F y = some v2)
    (hb : n + k ≤ 1000000000) (h : ∀ v' N', OwnY N' v' (n + k) (xs ++ ys) → JO c Q m.spent r ((d, v') :: F) (A ++ (N' ++ B))) :
    JO c Q m (⟨some d, .call ⟨.builtin .append, #[x, y], #[t, t]⟩, ty, g, .seq, ns⟩ :: r) F H :=
  r_appendA (e := 5) (sz := 1) (bytes := 1) (zc := #[(.int .u8 0)]) (xs := xs.map yv) (news := ys.map yv) (n := n) (mm := k) rfl hO h2 hN2 hH hm hd hg hx hy (fun u hu => by obtain ⟨a, _, rfl⟩ := List.mem_map.1 hu; rfl) (by simp only [maxLen]; omega) (by omega) (fun v' N' h' => h v' N' (by unfold OwnY; rw [List.map_append]; exact h'))
theorem r_appendYL {A B N2 Hs : SHeap} {v2 : Value} {k : Nat} {xs ys : List Nat} [TSl c.P t 5] [TE c.P 5 1 1 #[(.int .u8 0)]] (hO : OwnY N v n xs) (h2 : RdY c N2 v2 k ys) (hN2 : HSub N2 H) (hH : H = A ++ (N ++ B)) (hm : HSub Hs (A ++ B)) (hd : dstOk c.n (some d) = true) (hg : guardF F g = some true) (hx : ev F x = some v) (hy : ev F y = some v2)
    (hb : n + k ≤ 1000000000) (h : ∀ v' N', OwnY N' v' (n + k) (xs ++ ys) → JO c Q (.draw Hs true) r ((d, v') :: F) (A ++ (N' ++ B))) :
    JO c Q (.draw Hs true) (⟨some d, .call ⟨.builtin .append, #[x, y], #[t, t]⟩, ty, g, .seq, ns⟩ :: r) F H :=
  r_appendL (e := 5) (sz := 1) (bytes := 1) (zc := #[(.int .u8 0)]) (xs := xs.map yv) (news := ys.map yv) (n := n) (mm := k) rfl hO h2 hN2 hH hm hd hg hx hy (fun u hu => by obtain ⟨a, _, rfl⟩ := List.mem_map.1 hu; rfl) (by simp only [maxLen]; omega) (by omega) (fun v' N' h' => h v' N' (by unfold OwnY; rw [List.map_append]; exact h'))
end

theorem own_litY (b n : Nat) (xs : List Nat) (vs : List Value) (hv : vs = xs.map yv) (hn : xs.length = n) (h : n ≤ 1000) : OwnY [(b, .cells ⟨vs⟩ 5)] (.slice (some ⟨b, 0, none⟩) n n) n xs := by
  subst hv
  have := OwnRow.mk' (e := 5) (sz := 1) (n := n) (b := b) (cs := ⟨xs.map yv⟩) (by simp [hn]) (by simp only [maxLen]; omega)
  exact this
/-- The cells of a block: these numbers, then others. -/
def rowCY (xs : List Nat) (rest : List Value) : Array Value := ⟨xs.map yv ++ rest⟩
theorem rowCY_size (xs : List Nat) (rest : List Value) : (rowCY xs rest).size = xs.length + rest.length := by simp [rowCY]
theorem OwnY.named {N : SHeap} {v : Value} {n : Nat} {xs : List Nat} (h : OwnY N v n xs) (hn : 0 < n) : ∃ b cap rest, v = .slice (some ⟨b, 0, none⟩) n cap ∧ N = [(b, .cells (rowCY xs rest) 5 (0, 0))] ∧ n ≤ cap ∧ rest.length = cap - n ∧ cap ≤ maxLen := by
  obtain ⟨hl, ⟨rfl, rfl, rfl⟩ | ⟨b, cap, cur, rfl, rfl, h2, h3, h4, h5⟩⟩ := h
  · omega
  · refine ⟨b, cap, cur.toList.drop n, rfl, ?_, h2, by simp [h4], h3⟩
    have : cur = rowCY xs (cur.toList.drop n) := by
      apply Array.ext'
      show cur.toList = xs.map yv ++ cur.toList.drop n
      rw [Nat.mul_one] at h5
      rw [← h5, List.take_append_drop]
    rw [← this]
theorem OwnY.ofNamed {b cap n : Nat} {xs : List Nat} {rest : List Value} (hl : xs.length = n) (hn : n ≤ cap) (hr : rest.length = cap - n) (hc : cap ≤ maxLen) : OwnY [(b, .cells (rowCY xs rest) 5 (0, 0))] (.slice (some ⟨b, 0, none⟩) n cap) n xs := by
  refine ⟨by simp [hl], .inr ⟨b, cap, _, rfl, rfl, hn, hc, by rw [rowCY_size]; omega, ?_⟩⟩
  show (xs.map yv ++ rest).take (n * 1) = xs.map yv
  rw [Nat.mul_one, List.take_append_of_le_length (by simp [hl])]
  exact List.take_of_length_le (by simp [hl])

end Go.Proofs.YtdehklhdjbkneaaDoor

/- The rules of the judgement, continued: strings. -/
namespace Go.Proofs.YtdehklhdjbkneaaDoor
open Go Go.RowKit
set_option linter.unusedSimpArgs false
set_option linter.unusedVariables false
set_option linter.unusedSectionVars false

/-- A string of bytes. -/
abbrev sv (l : List UInt8) : Value := .string ⟨l.toArray⟩
/-- The bytes as numbers. -/
def bts (l : List UInt8) : List Nat := l.map UInt8.toNat
theorem bts_len (l : List UInt8) : (bts l).length = l.length := by simp [bts]
theorem bts_lt {l : List UInt8} {i : Nat} : (bts l).getD i 0 < 256 := by
  simp only [bts, List.getD, List.getElem?_map]
  cases l[i]? with
  | none => decide
  | some b => exact UInt8.toNat_lt b
theorem bts_inj {a b : List UInt8} (h : bts a = bts b) : a = b := by
  unfold bts at h
  exact (List.map_inj_right (fun x y e => UInt8.toNat.inj e)).1 h

class TStr (P : Program) (t : TypeId) : Prop where
  und : P.underlying t = some .string

theorem size_sv (l : List UInt8) : (ByteArray.mk l.toArray).size = l.length := by simp [ByteArray.size]
theorem toList_sv (l : List UInt8) : (ByteArray.mk l.toArray).toList = l := by
  simp

section
variable {c : Cx} {Q : Exit → Act → World → Prop} {m : Mode} {F : SFrame} {H : SHeap} {r : List SOp} {g : Option (Option Tmp × Bool)} {ns : Bool} {d : Tmp} {ty t t' : TypeId} {x y : Operand} {l l' : List UInt8}

theorem r_lenS [TStr c.P t] (hd : dstOk c.n (some d) = true) (hg : guardF F g = some true) (hx : ev F x = some (sv l))
    (h : JO c Q m r ((d, .int .i64 l.length) :: F) H) : JO c Q m (⟨some d, .call ⟨.builtin .len, #[x], #[t]⟩, ty, g, .mov, ns⟩ :: r) F H :=
  r_mov hd hg (fun a w fr => by
    simp [execOp, resolve, invoke, builtin, fr.ev hx, run_len_string w t ty _ (TStr.und (P := c.P)), goInt, size_sv]) h

theorem r_idxS {k : IntKind} {j : Nat} [TStr c.P t] (hd : dstOk c.n (some d) = true) (hg : guardF F g = some true) (hx : ev F x = some (sv l)) (hy : ev F y = some (.int k j)) (hj : j < l.length)
    (h : JO c Q m r ((d, yv ((bts l).getD j 0)) :: F) H) : JO c Q m (⟨some d, .index t x y, ty, g, .mov, ns⟩ :: r) F H :=
  r_mov hd hg (fun a w fr => by
    have h1 : (0 : Int) ≤ j ∧ (j : Int) < (ByteArray.mk l.toArray).size := by rw [size_sv]; omega
    have h2 : (bts l).getD j 0 = l[j].toNat := by simp [bts, List.getD, hj]
    simp only [execOp, fr.ev hx, fr.ev hy, Sem.run_bind, run_index_string w t _ k j (TStr.und (P := c.P)), h1, and_self, dite_true, Result.andThen_ok, Sem.run_pure, h2]
    rfl) h

theorem r_eqS [TStr c.P t] (hd : dstOk c.n (some d) = true) (hg : guardF F g = some true) (hx : ev F x = some (sv l)) (hy : ev F y = some (sv l')) (h : JO c Q m r ((d, .bool (decide (l = l'))) :: F) H) :
    JO c Q m (⟨some d, .binOp .eql t x y t', ty, g, .mov, ns⟩ :: r) F H :=
  r_mov hd hg (fun a w fr => by
    simp [execOp, fr.ev hx, fr.ev hy, eqGuard, binOp_string_eql, toList_sv]
    by_cases h : l = l' <;> simp [h]) h
theorem r_neS [TStr c.P t] (hd : dstOk c.n (some d) = true) (hg : guardF F g = some true) (hx : ev F x = some (sv l)) (hy : ev F y = some (sv l')) (h : JO c Q m r ((d, .bool (decide (l ≠ l'))) :: F) H) :
    JO c Q m (⟨some d, .binOp .neq t x y t', ty, g, .mov, ns⟩ :: r) F H :=
  r_mov hd hg (fun a w fr => by
    simp [execOp, fr.ev hx, fr.ev hy, eqGuard, binOp_string_neq, toList_sv]
    by_cases h : l = l' <;> simp [h]) h
theorem r_addS [TStr c.P t] (hd : dstOk c.n (some d) = true) (hg : guardF F g = some true) (hx : ev F x = some (sv l)) (hy : ev F y = some (sv l')) (hb : l.length + l'.length ≤ 9223372036854775807) (h : JO c Q m r ((d, sv (l ++ l')) :: F) H) :
    JO c Q m (⟨some d, .binOp .add t x y t', ty, g, .mov, ns⟩ :: r) F H :=
  r_mov hd hg (fun a w fr => by
    simp only [execOp, fr.ev hx, fr.ev hy, eqGuard, binOp_string_add, Sem.run_bind, Sem.run_pure, Result.andThen_ok, Bool.not_false, if_true]
    rw [run_string_add_sum w _ _ (by simp only [size_sv]; omega), ByteArray.mk_append_mk]
    rfl) h
/-- 's[i:]'. -/
theorem r_fromS {k : IntKind} {i : Nat} {lo : Operand} [TStr c.P t] (hd : dstOk c.n (some d) = true) (hg : guardF F g = some true) (hx : ev F x = some (sv l)) (hy : ev F lo = some (.int k i)) (hi : i ≤ l.length)
    (h : JO c Q m r ((d, sv (l.drop i)) :: F) H) : JO c Q m (⟨some d, .slice t x (some lo) none none, ty, g, .mov, ns⟩ :: r) F H :=
  r_mov hd hg (fun a w fr => by
    have h1 : (0 : Int) ≤ i := by omega
    have h2 : (i : Int) ≤ (l.length : Int) := by omega
    simp only [execOp, fr.ev hx, Option.map_some, Option.map_none, fr.ev hy, Sem.run_bind, run_sliceAt_string w t _ _ _ _ (TStr.und (P := c.P)), run_slice_string_from_if w t _ k i (TStr.und (P := c.P)), h1, size_sv, h2, and_self, if_true, Result.andThen_ok, Sem.run_pure, Int.toNat_natCast, ByteArray.extract_mk]
    try rw [List.take_of_length_le (by simp)]) h
/-- 's[:j]'. -/
theorem r_toS {k : IntKind} {j : Nat} {hi : Operand} [TStr c.P t] (hd : dstOk c.n (some d) = true) (hg : guardF F g = some true) (hx : ev F x = some (sv l)) (hy : ev F hi = some (.int k j)) (hj : j ≤ l.length)
    (h : JO c Q m r ((d, sv (l.take j)) :: F) H) : JO c Q m (⟨some d, .slice t x none (some hi) none, ty, g, .mov, ns⟩ :: r) F H :=
  r_mov hd hg (fun a w fr => by
    have h1 : (0 : Int) ≤ j := by omega
    have h2 : (j : Int) ≤ (l.length : Int) := by omega
    simp only [execOp, fr.ev hx, Option.map_some, Option.map_none, fr.ev hy, Sem.run_bind, run_sliceAt_string w t _ _ _ _ (TStr.und (P := c.P)), run_slice_string_to_if w t _ k j (TStr.und (P := c.P)), h1, size_sv, h2, and_self, if_true, Result.andThen_ok, Sem.run_pure, Int.toNat_natCast, ByteArray.extract_mk, List.drop_zero, Nat.sub_zero]) h
end

section
variable {c : Cx} {Q : Exit → Act → World → Prop} {m : Mode} {F : SFrame} {H : SHeap} {r : List SOp} {g : Option (Option Tmp × Bool)} {ns : Bool} {d : Tmp} {ty t t' : TypeId} {x y : Operand}

theorem bts_of {xs : List Nat} (h : ∀ u ∈ xs, u < 256) : bts (xs.map UInt8.ofNat) = xs := by
  unfold bts
  rw [List.map_map]
  conv => rhs; rw [← List.map_id xs]
  refine List.map_congr_left fun u hu => ?_
  have := h u hu
  simp [Function.comp]
  omega

theorem run_bytes_none {P : Program} (w : World) (src dst e : TypeId) (cap : Nat) (hs : P.underlying src = some (.slice e)) (he : P.underlying e = some (.int .u8)) (hd : P.underlying dst = some .string) :
    (convert src dst (.slice none 0 cap)).run P w = .ok (sv []) w := by
  rw [run_convert_bytes_string w src dst e none 0 cap hs he hd]
  simp [Conv.bytesToString]
  rfl

/-- 'string(b)', of bytes that can be read. -/
theorem r_toStr {N : SHeap} {v : Value} {n : Nat} {xs : List Nat} {e : TypeId} [TSl c.P t e] [TI c.P e .u8] [TStr c.P t'] (hxs : ∀ u ∈ xs, u < 256) (hv : RdY c N v n xs) (hN : HSub N H) (hm : m.mayCall ns r) (hd : dstOk c.n (some d) = true) (hg : guardF F g = some true) (hx : ev F x = some v)
    (h : ∀ l, bts l = xs → JO c Q m r ((d, sv l) :: F) H) : JO c Q m (⟨some d, .convert t t' x, ty, g, .seq, ns⟩ :: r) F H := by
  refine r_seqR (v := sv (xs.map UInt8.ofNat)) hm hd hg (fun a w fr hs => ?_) (h _ (bts_of hxs))
  have hlen := hv.len
  obtain ⟨_, A, cap, rfl, _, hrd⟩ := hv
  rcases Nat.eq_zero_or_pos n with h0 | h0
  · subst h0
    have hx0 : xs = [] := List.eq_nil_of_length_eq_zero hlen
    subst hx0
    cases A with
    | none =>
      simp only [execOp, fr.ev hx, Sem.run_bind, run_bytes_none w t t' e cap TSl.und TI.und TStr.und, Result.andThen_ok, Sem.run_pure]
      rfl
    | some ad =>
      have h1 := run_convert_bytes_back (P := c.P) w t t' e ad cap [] TSl.und TI.und TStr.und (fun j hj => by simp at hj)
      simp only [List.length_nil] at h1
      simp only [execOp, fr.ev hx, Sem.run_bind, h1, Result.andThen_ok, Sem.run_pure]
      rfl
  · obtain ⟨⟨b, o, rfl⟩, hcell⟩ := hrd h0
    have h1 := run_convert_bytes_back (P := c.P) w t t' e ⟨b, o, none⟩ cap (xs.map UInt8.ofNat) TSl.und TI.und TStr.und (fun j hj => by
      have hj' : j < xs.length := by simpa using hj
      have h2 := hcell w ⟨hs.1, hN.hsat hs.2⟩ j (yv xs[j]) (by simp [hj'])
      rw [add_none]
      have h3 := hxs xs[j] (List.getElem_mem hj')
      simp only [vAt] at h2
      rw [h2]
      simp only [List.getElem_map]
      congr 2
      simp
      omega)
    have h4 : (xs.map UInt8.ofNat).length = n := by simpa using hlen
    rw [h4] at h1
    simp only [execOp, fr.ev hx, Sem.run_bind, h1, Result.andThen_ok, Sem.run_pure]
end

end Go.Proofs.YtdehklhdjbkneaaDoor

