/- decode.lead, shape.Slot: by tables. -/
import Derived.Test.YtpenhcmahojifaaGreatDoorQ59
set_option linter.unusedVariables false
set_option linter.unusedSimpArgs false
set_option linter.unusedSectionVars false
namespace Go.Ev.Tw
open Go.Proofs
noncomputable section
set_option maxRecDepth 1000000
def tabLead : List (List Value × List Blk × Value) := [([.agg #[.chan none, .slice none 0 0, .slice none 0 0, .int .i64 0, .int .i64 0, .chan none, .chan none, .chan none, .bool false, .chan none]], [], .string ⟨⟨[]⟩⟩),
  ([.agg #[.chan none, .slice none 0 0, .slice none 0 0, .int .i64 0, .int .i64 1, .chan none, .chan none, .chan none, .bool false, .chan none]], [], .string ⟨⟨[15]⟩⟩),
  ([.agg #[.chan none, .slice none 0 0, .slice none 0 0, .int .i64 1, .int .i64 0, .chan none, .chan none, .chan none, .bool false, .chan none]], [], .string ⟨⟨[102]⟩⟩),
  ([.agg #[.chan none, .slice (some ⟨0, 0, none⟩) 1 1, .slice (some ⟨1, 0, none⟩) 1 1, .int .i64 0, .int .i64 0, .chan none, .chan none, .chan none, .bool false, .chan none]], [dead, dead], .string ⟨⟨[]⟩⟩),
  ([.agg #[.chan none, .slice (some ⟨0, 0, none⟩) 1 1, .slice (some ⟨1, 0, none⟩) 1 1, .int .i64 0, .int .i64 1, .chan none, .chan none, .chan none, .bool false, .chan none]], [dead, dead], .string ⟨⟨[15]⟩⟩),
  ([.agg #[.chan none, .slice (some ⟨0, 0, none⟩) 1 1, .slice (some ⟨1, 0, none⟩) 1 1, .int .i64 1, .int .i64 0, .chan none, .chan none, .chan none, .bool false, .chan none]], [dead, dead], .string ⟨⟨[102]⟩⟩),
  ([.agg #[.chan none, .slice (some ⟨0, 0, none⟩) 1 1, .slice (some ⟨1, 0, none⟩) 1 1, .int .i64 1, .int .i64 1, .chan none, .chan none, .chan none, .bool false, .chan none]], [dead, dead], .string ⟨⟨[102, 15]⟩⟩),
  ([.agg #[.chan none, .slice (some ⟨0, 0, none⟩) 2 2, .slice (some ⟨1, 0, none⟩) 2 2, .int .i64 0, .int .i64 0, .chan none, .chan none, .chan none, .bool false, .chan none]], [dead, dead], .string ⟨⟨[]⟩⟩),
  ([.agg #[.chan none, .slice (some ⟨0, 0, none⟩) 2 2, .slice (some ⟨1, 0, none⟩) 2 2, .int .i64 0, .int .i64 1, .chan none, .chan none, .chan none, .bool false, .chan none]], [dead, dead], .string ⟨⟨[15]⟩⟩),
  ([.agg #[.chan none, .slice (some ⟨0, 0, none⟩) 2 2, .slice (some ⟨1, 0, none⟩) 2 2, .int .i64 0, .int .i64 2, .chan none, .chan none, .chan none, .bool false, .chan none]], [dead, dead], .string ⟨⟨[15, 56]⟩⟩),
  ([.agg #[.chan none, .slice (some ⟨0, 0, none⟩) 2 2, .slice (some ⟨1, 0, none⟩) 2 2, .int .i64 1, .int .i64 0, .chan none, .chan none, .chan none, .bool false, .chan none]], [dead, dead], .string ⟨⟨[102]⟩⟩),
  ([.agg #[.chan none, .slice (some ⟨0, 0, none⟩) 2 2, .slice (some ⟨1, 0, none⟩) 2 2, .int .i64 1, .int .i64 1, .chan none, .chan none, .chan none, .bool false, .chan none]], [dead, dead], .string ⟨⟨[102, 15]⟩⟩),
  ([.agg #[.chan none, .slice (some ⟨0, 0, none⟩) 2 2, .slice (some ⟨1, 0, none⟩) 2 2, .int .i64 1, .int .i64 2, .chan none, .chan none, .chan none, .bool false, .chan none]], [dead, dead], .string ⟨⟨[102, 15, 56]⟩⟩),
  ([.agg #[.chan none, .slice (some ⟨0, 0, none⟩) 2 2, .slice (some ⟨1, 0, none⟩) 2 2, .int .i64 2, .int .i64 1, .chan none, .chan none, .chan none, .bool false, .chan none]], [dead, dead], .string ⟨⟨[242, 15]⟩⟩),
  ([.agg #[.chan none, .slice (some ⟨0, 0, none⟩) 2 2, .slice (some ⟨1, 0, none⟩) 2 2, .int .i64 2, .int .i64 2, .chan none, .chan none, .chan none, .bool false, .chan none]], [dead, dead], .string ⟨⟨[242, 15, 56]⟩⟩),
  ([.agg #[.chan none, .slice (some ⟨0, 0, none⟩) 2 2, .slice (some ⟨1, 0, none⟩) 2 2, .int .i64 3, .int .i64 2, .chan none, .chan none, .chan none, .bool false, .chan none]], [dead, dead], .string ⟨⟨[102, 242, 15, 56]⟩⟩),
  ([.agg #[.chan none, .slice (some ⟨0, 0, none⟩) 2 2, .slice (some ⟨1, 0, none⟩) 2 2, .int .i64 4, .int .i64 1, .chan none, .chan none, .chan none, .bool false, .chan none]], [dead, dead], .string ⟨⟨[243, 15]⟩⟩),
  ([.agg #[.chan none, .slice (some ⟨0, 0, none⟩) 2 2, .slice (some ⟨1, 0, none⟩) 2 2, .int .i64 4, .int .i64 2, .chan none, .chan none, .chan none, .bool false, .chan none]], [dead, dead], .string ⟨⟨[243, 15, 56]⟩⟩),
  ([.agg #[.chan none, .slice (some ⟨0, 0, none⟩) 2 2, .slice (some ⟨1, 0, none⟩) 2 2, .int .i64 5, .int .i64 1, .chan none, .chan none, .chan none, .bool false, .chan none]], [dead, dead], .string ⟨⟨[102, 243, 15]⟩⟩),
  ([.agg #[.chan none, .slice (some ⟨0, 0, none⟩) 3 3, .slice (some ⟨1, 0, none⟩) 3 3, .int .i64 0, .int .i64 0, .chan none, .chan none, .chan none, .bool false, .chan none]], [dead, dead], .string ⟨⟨[]⟩⟩),
  ([.agg #[.chan none, .slice (some ⟨0, 0, none⟩) 3 3, .slice (some ⟨1, 0, none⟩) 3 3, .int .i64 0, .int .i64 1, .chan none, .chan none, .chan none, .bool false, .chan none]], [dead, dead], .string ⟨⟨[15]⟩⟩),
  ([.agg #[.chan none, .slice (some ⟨0, 0, none⟩) 3 3, .slice (some ⟨1, 0, none⟩) 3 3, .int .i64 1, .int .i64 0, .chan none, .chan none, .chan none, .bool false, .chan none]], [dead, dead], .string ⟨⟨[102]⟩⟩),
  ([.agg #[.chan none, .slice (some ⟨0, 0, none⟩) 3 3, .slice (some ⟨1, 0, none⟩) 3 3, .int .i64 1, .int .i64 1, .chan none, .chan none, .chan none, .bool false, .chan none]], [dead, dead], .string ⟨⟨[102, 15]⟩⟩),
  ([.agg #[.chan none, .slice (some ⟨0, 0, none⟩) 3 3, .slice (some ⟨1, 0, none⟩) 3 3, .int .i64 1, .int .i64 3, .chan none, .chan none, .chan none, .bool false, .chan none]], [dead, dead], .string ⟨⟨[102, 15, 58]⟩⟩),
  ([.agg #[.chan none, .slice (some ⟨0, 0, none⟩) 3 3, .slice (some ⟨1, 0, none⟩) 3 3, .int .i64 2, .int .i64 1, .chan none, .chan none, .chan none, .bool false, .chan none]], [dead, dead], .string ⟨⟨[242, 15]⟩⟩),
  ([.agg #[.chan none, .slice (some ⟨0, 0, none⟩) 3 3, .slice (some ⟨1, 0, none⟩) 3 3, .int .i64 4, .int .i64 1, .chan none, .chan none, .chan none, .bool false, .chan none]], [dead, dead], .string ⟨⟨[243, 15]⟩⟩)]
def tabSlot : List (List Value × List Blk × Value) := [([.agg #[.chan none, .slice none 0 0, .slice none 0 0, .chan none, .chan none, .chan none, .chan none, .chan none, .bool false, .chan none], .int .i64 4], [], .int .i64 (.negSucc 0)),
  ([.agg #[.chan none, .slice (some ⟨0, 0, none⟩) 1 1, .slice (some ⟨1, 0, none⟩) 1 1, .chan none, .chan none, .chan none, .chan none, .chan none, .bool false, .chan none], .int .i64 4], [dead, iR 3], .int .i64 (.negSucc 0)),
  ([.agg #[.chan none, .slice (some ⟨0, 0, none⟩) 1 1, .slice (some ⟨1, 0, none⟩) 1 1, .chan none, .chan none, .chan none, .chan none, .chan none, .bool false, .chan none], .int .i64 4], [dead, iR 5], .int .i64 0),
  ([.agg #[.chan none, .slice (some ⟨0, 0, none⟩) 1 1, .slice (some ⟨1, 0, none⟩) 1 1, .chan none, .chan none, .chan none, .chan none, .chan none, .bool false, .chan none], .int .i64 4], [dead, iR 6], .int .i64 (.negSucc 0)),
  ([.agg #[.chan none, .slice (some ⟨0, 0, none⟩) 2 2, .slice (some ⟨1, 0, none⟩) 2 2, .chan none, .chan none, .chan none, .chan none, .chan none, .bool false, .chan none], .int .i64 4], [dead, iF 259], .int .i64 (.negSucc 0)),
  ([.agg #[.chan none, .slice (some ⟨0, 0, none⟩) 2 2, .slice (some ⟨1, 0, none⟩) 2 2, .chan none, .chan none, .chan none, .chan none, .chan none, .bool false, .chan none], .int .i64 4], [dead, iF 386], .int .i64 (.negSucc 0)),
  ([.agg #[.chan none, .slice (some ⟨0, 0, none⟩) 2 2, .slice (some ⟨1, 0, none⟩) 2 2, .chan none, .chan none, .chan none, .chan none, .chan none, .bool false, .chan none], .int .i64 4], [dead, iR 259], .int .i64 (.negSucc 0)),
  ([.agg #[.chan none, .slice (some ⟨0, 0, none⟩) 2 2, .slice (some ⟨1, 0, none⟩) 2 2, .chan none, .chan none, .chan none, .chan none, .chan none, .bool false, .chan none], .int .i64 4], [dead, iR 386], .int .i64 (.negSucc 0)),
  ([.agg #[.chan none, .slice (some ⟨0, 0, none⟩) 2 2, .slice (some ⟨1, 0, none⟩) 2 2, .chan none, .chan none, .chan none, .chan none, .chan none, .bool false, .chan none], .int .i64 4], [dead, iR 771], .int .i64 (.negSucc 0)),
  ([.agg #[.chan none, .slice (some ⟨0, 0, none⟩) 2 2, .slice (some ⟨1, 0, none⟩) 2 2, .chan none, .chan none, .chan none, .chan none, .chan none, .bool false, .chan none], .int .i64 4], [dead, iR 773], .int .i64 0),
  ([.agg #[.chan none, .slice (some ⟨0, 0, none⟩) 2 2, .slice (some ⟨1, 0, none⟩) 2 2, .chan none, .chan none, .chan none, .chan none, .chan none, .bool false, .chan none], .int .i64 4], [dead, iR 775], .int .i64 (.negSucc 0)),
  ([.agg #[.chan none, .slice (some ⟨0, 0, none⟩) 2 2, .slice (some ⟨1, 0, none⟩) 2 2, .chan none, .chan none, .chan none, .chan none, .chan none, .bool false, .chan none], .int .i64 4], [dead, iR 899], .int .i64 (.negSucc 0)),
  ([.agg #[.chan none, .slice (some ⟨0, 0, none⟩) 3 3, .slice (some ⟨1, 0, none⟩) 3 3, .chan none, .chan none, .chan none, .chan none, .chan none, .bool false, .chan none], .int .i64 4], [dead, iR 114947], .int .i64 (.negSucc 0)),
  ([.agg #[.chan none, .slice (some ⟨0, 0, none⟩) 3 3, .slice (some ⟨1, 0, none⟩) 3 3, .chan none, .chan none, .chan none, .chan none, .chan none, .bool false, .chan none], .int .i64 4], [dead, iR 98563], .int .i64 (.negSucc 0)),
  ([.agg #[.chan none, .slice (some ⟨0, 0, none⟩) 3 3, .slice (some ⟨1, 0, none⟩) 3 3, .chan none, .chan none, .chan none, .chan none, .chan none, .bool false, .chan none], .int .i64 4], [dead, iR 98690], .int .i64 (.negSucc 0))]
def mTakes : Memo := orM (tabV 60 tabLead) (tabV 64 tabSlot)
theorem mTakes_ok [TokE] (GR : List Blk) : MemoOk Tryz.prog GR mTakes := or_memo
  (tabV_memo (rounds := 5000) (k := 40) (m := noM) (d := noD) (base := 65536) no_own mixed noKnown_ok.any (noMemo_ok _ _) noD_ok (by rfl) (fun h => by cases h) tabLead (by kernel_rfl))
  (tabV_memo (rounds := 5000) (k := 40) (m := noM) (d := noD) (base := 65536) no_own mixed noKnown_ok.any (noMemo_ok _ _) noD_ok (by rfl) (fun h => by cases h) tabSlot (by kernel_rfl))
def mFind : Memo := orM (toldM 59 [] val59 rows59) mTakes
theorem mFind_ok [TokE] (q : Nat → TypeId) : MemoOk Tryz.prog (GRq q) mFind := or_memo (told_memo (told59 q) rfl) (mTakes_ok _)
end
end Go.Ev.Tw
namespace Go.Ev.Tw
open Go.Proofs
noncomputable section
set_option maxRecDepth 1000000
def rowsOf1 : List Blk := [iR 2717, iR 775, iR 2974, iR 775, iR 3103, iR 775, iR 3232, iR 775, iR 2696, iR 771, iR 2953, iR 771, iR 3082, iR 771, iR 3211, iR 771, iR 2825, iR 771, iR 2826, iR 771, iR 2827, iR 771, iR 264, iR 259, iR 393, iR 259, iR 522, iR 259, iR 651, iR 259, iR 1026, iR 386, iR 1155, iR 386, iR 1284, iR 386, iR 1413, iR 386, fR 19 0x100180809409001080180808c08801080182808408001080100807c07801100080807407001080080806c06801080082806406001080000805c0580110c18080540500108c180804c0480108c18280440400110c080803c0380108c08080340300108c082802c0280108c000802402001100280801c01801080280801401001080282800c00801080200800400001 false]
def valOf1 : Value := sl 38 19 19
theorem toldOf1 [TokE] (q : Nat → TypeId) : Told Tryz.prog (GRq q) 17 [.int .i64 1] valOf1 rowsOf1 :=
  told_of0 (rounds := 5000) (k := 40) no_own mixed noKnown_ok.any (mLayers_ok q) noD_ok (by rfl) (by rfl) (fun h => by cases h) (n := 39) (lit := 0x1ed002800270026002500240023002200210020001f001e001d001c001b001a0019001800170016001500140013001200110010000f000e000d000c000b000a0009000800070006000500040003) (base := 65536) (by kernel_rfl)
def rowsOf12 : List Blk := [iR 2051, iR 386, iR 2052, iR 386, iR 2053, iR 386, fR 3 0x10468080140100c084680800c0080c08468280040000c false]
def valOf12 : Value := sl 6 3 3
theorem toldOf12 [TokE] (q : Nat → TypeId) : Told Tryz.prog (GRq q) 17 [.int .i64 12] valOf12 rowsOf12 :=
  told_of0 (rounds := 5000) (k := 40) no_own mixed noKnown_ok.any (mLayers_ok q) noD_ok (by rfl) (by rfl) (fun h => by cases h) (n := 7) (lit := 0x31d017801770176017501740173) (base := 65536) (by kernel_rfl)
def rowsOf54 : List Blk := [iR 27, iR 6, iR 28, iR 6, iR 11, iR 3, fR 3 0xaff80401401036087480400c00836087580400400036 false]
def valOf54 : Value := sl 6 3 3
theorem toldOf54 [TokE] (q : Nat → TypeId) : Told Tryz.prog (GRq q) 17 [.int .i64 54] valOf54 rowsOf54 :=
  told_of0 (rounds := 5000) (k := 40) no_own mixed noKnown_ok.any (mLayers_ok q) noD_ok (by rfl) (by rfl) (fun h => by cases h) (n := 7) (lit := 0x119002800270026002500240023) (base := 65536) (by kernel_rfl)
def mOf : Memo := orM (toldM 17 [.int .i64 1] valOf1 rowsOf1) (orM (toldM 17 [.int .i64 12] valOf12 rowsOf12) (toldM 17 [.int .i64 54] valOf54 rowsOf54))
theorem mOf_ok [TokE] (q : Nat → TypeId) : MemoOk Tryz.prog (GRq q) mOf := or_memo (told_memo (toldOf1 q) rfl) (or_memo (told_memo (toldOf12 q) rfl) (told_memo (toldOf54 q) rfl))
end
end Go.Ev.Tw
