/- Part of the proof. No condition. -/
import Derived.Test.YtgmppconibklcaaGreatDoorM0
import Derived.Test.YtgmppconibklcaaGreatDoorProg
import Derived.KernelRfl
set_option maxHeartbeats 40000000
set_option maxRecDepth 100000
set_option linter.unusedVariables false
set_option linter.unusedSimpArgs false
namespace Go.Proofs.YtgmppconibklcaaGreatDoor
open Go Go.RowKit
namespace Am
@[simp] theorem slz_2:slz Tryz.prog 8 2=[none]:=by kernel_rfl
@[simp] theorem part_2 (cs:List C) (off:Nat):Am.part Tryz.prog 2 cs off=match cs[off]? with|some c=>some (.one c)|none=>none:=by kernel_rfl
@[simp] theorem slz_3:slz Tryz.prog 8 3=[none]:=by kernel_rfl
@[simp] theorem sizeT_3:z0g Tryz.prog 3=1:=by kernel_rfl
@[simp] theorem part_3 (cs:List C) (off:Nat):Am.part Tryz.prog 3 cs off=match cs[off]? with|some c=>some (.one c)|none=>none:=by kernel_rfl
@[simp] theorem zok_3:zok Tryz.prog 3=true:=by kernel_rfl
@[simp] theorem slz_4:slz Tryz.prog 8 4=[none]:=by kernel_rfl
@[simp] theorem sizeT_4:z0g Tryz.prog 4=1:=by kernel_rfl
@[simp] theorem part_4 (cs:List C) (off:Nat):Am.part Tryz.prog 4 cs off=match cs[off]? with|some c=>some (.one c)|none=>none:=by kernel_rfl
@[simp] theorem slz_5:slz Tryz.prog 8 5=[none]:=by kernel_rfl
@[simp] theorem sizeT_5:z0g Tryz.prog 5=1:=by kernel_rfl
@[simp] theorem bytesT_5:z30 Tryz.prog 5=1:=by kernel_rfl
@[simp] theorem zeroE_5:z3K Tryz.prog 5=some (.one (.d (.leaf (.int .u8 0)))):=by kernel_rfl
@[simp] theorem part_5 (cs:List C) (off:Nat):Am.part Tryz.prog 5 cs off=match cs[off]? with|some c=>some (.one c)|none=>none:=by kernel_rfl
@[simp] theorem zok_5:zok Tryz.prog 5=true:=by kernel_rfl
@[simp] theorem slz_9:slz Tryz.prog 8 9=[none]:=by kernel_rfl
@[simp] theorem sizeT_9:z0g Tryz.prog 9=1:=by kernel_rfl
@[simp] theorem part_9 (cs:List C) (off:Nat):Am.part Tryz.prog 9 cs off=match cs[off]? with|some c=>some (.one c)|none=>none:=by kernel_rfl
@[simp] theorem slz_22:slz Tryz.prog 8 22=[some 1]:=by kernel_rfl
@[simp] theorem sizeT_22:z0g Tryz.prog 22=1:=by kernel_rfl
@[simp] theorem part_22 (cs:List C) (off:Nat):Am.part Tryz.prog 22 cs off=match cs[off]? with|some c=>some (.one c)|none=>none:=by kernel_rfl
@[simp] theorem slz_24:slz Tryz.prog 8 24=[some 1]:=by kernel_rfl
@[simp] theorem sizeT_24:z0g Tryz.prog 24=1:=by kernel_rfl
@[simp] theorem part_24 (cs:List C) (off:Nat):Am.part Tryz.prog 24 cs off=match cs[off]? with|some c=>some (.one c)|none=>none:=by kernel_rfl
@[simp] theorem slz_25:slz Tryz.prog 8 25=[some 3]:=by kernel_rfl
@[simp] theorem sizeT_25:z0g Tryz.prog 25=1:=by kernel_rfl
@[simp] theorem part_25 (cs:List C) (off:Nat):Am.part Tryz.prog 25 cs off=match cs[off]? with|some c=>some (.one c)|none=>none:=by kernel_rfl
@[simp] theorem slz_27:slz Tryz.prog 8 27=[none,some 1,none,none,some 1,none,some 3]:=by kernel_rfl
@[simp] theorem sizeT_27:z0g Tryz.prog 27=7:=by kernel_rfl
@[simp] theorem zeroE_27:z3K Tryz.prog 27=some (.agg [.d (.leaf (.string ⟨#[]⟩)),.nilS,.d (.leaf (.string ⟨#[]⟩)),.d (.leaf (.bool false)),.nilS,.d (.leaf (.bool false)),.nilS]):=by kernel_rfl
@[simp] theorem part_27 (cs:List C) (off:Nat):Am.part Tryz.prog 27 cs off=if off+7≤cs.length then some (.agg ((cs.drop off).take 7)) else none:=by kernel_rfl
@[simp] theorem znb:z1R Tryz.prog 27=true:=by kernel_rfl
@[simp] theorem slz_30:slz Tryz.prog 8 30=[none]:=by kernel_rfl
@[simp] theorem sizeT_30:z0g Tryz.prog 30=1:=by kernel_rfl
@[simp] theorem part_30 (cs:List C) (off:Nat):Am.part Tryz.prog 30 cs off=match cs[off]? with|some c=>some (.one c)|none=>none:=by kernel_rfl
@[simp] theorem slz_39:slz Tryz.prog 8 39=[none,none,some 1]:=by kernel_rfl
@[simp] theorem sizeT_39:z0g Tryz.prog 39=3:=by kernel_rfl
@[simp] theorem zeroE_39:z3K Tryz.prog 39=some (.agg [.d (.leaf (.int .i64 0)),.d (.leaf (.int .i64 0)),.nilS]):=by kernel_rfl
@[simp] theorem part_39 (cs:List C) (off:Nat):Am.part Tryz.prog 39 cs off=if off+3≤cs.length then some (.agg ((cs.drop off).take 3)) else none:=by kernel_rfl
@[simp] theorem zna:z1R Tryz.prog 39=true:=by kernel_rfl
@[simp] theorem slz_46:slz Tryz.prog 8 46=[none,none,some 1,some 1,none,none,none,none,none,some 1]:=by kernel_rfl
@[simp] theorem sizeT_46:z0g Tryz.prog 46=10:=by kernel_rfl
@[simp] theorem zeroE_46:z3K Tryz.prog 46=some (.agg [.d (.leaf (.string ⟨#[]⟩)),.d (.leaf (.string ⟨#[]⟩)),.nilS,.nilS,.d (.leaf (.int .i64 0)),.d (.leaf (.int .i64 0)),.d (.leaf (.int .i64 0)),.d (.leaf (.int .i64 0)),.d (.leaf (.bool false)),.nilS]):=by kernel_rfl
@[simp] theorem part_46 (cs:List C) (off:Nat):Am.part Tryz.prog 46 cs off=if off+10≤cs.length then some (.agg ((cs.drop off).take 10)) else none:=by kernel_rfl
@[simp] theorem zn9:z1R Tryz.prog 46=true:=by kernel_rfl
@[simp] theorem slz_55:slz Tryz.prog 8 55=[some 11]:=by kernel_rfl
@[simp] theorem slz_58:slz Tryz.prog 8 58=[some 11,some 6]:=by kernel_rfl
@[simp] theorem zeroE_58:z3K Tryz.prog 58=some (.agg [.nilS,.nilS]):=by kernel_rfl
@[simp] theorem zn8:z1R Tryz.prog 58=true:=by kernel_rfl
@[simp] theorem slz_59:slz Tryz.prog 8 59=[some 5]:=by kernel_rfl
@[simp] theorem sizeT_59:z0g Tryz.prog 59=1:=by kernel_rfl
@[simp] theorem part_59 (cs:List C) (off:Nat):Am.part Tryz.prog 59 cs off=match cs[off]? with|some c=>some (.one c)|none=>none:=by kernel_rfl
@[simp] theorem slz_61:slz Tryz.prog 8 61=[none,none,none,some 1,some 5]:=by kernel_rfl
@[simp] theorem sizeT_61:z0g Tryz.prog 61=5:=by kernel_rfl
@[simp] theorem bytesT_61:z30 Tryz.prog 61=72:=by kernel_rfl
@[simp] theorem zeroE_61:z3K Tryz.prog 61=some (.agg [.d (.leaf (.int .i64 0)),.d (.leaf (.int .i64 0)),.d (.leaf (.bool false)),.nilS,.nilS]):=by kernel_rfl
@[simp] theorem part_61 (cs:List C) (off:Nat):Am.part Tryz.prog 61 cs off=if off+5≤cs.length then some (.agg ((cs.drop off).take 5)) else none:=by kernel_rfl
@[simp] theorem zn7:z1R Tryz.prog 61=true:=by kernel_rfl
@[simp] theorem zok_61:zok Tryz.prog 61=true:=by kernel_rfl
@[simp] theorem slz_78:slz Tryz.prog 8 78=[none]:=by kernel_rfl
@[simp] theorem slz_80:slz Tryz.prog 8 80=[none,none]:=by kernel_rfl
@[simp] theorem sizeT_80:z0g Tryz.prog 80=2:=by kernel_rfl
@[simp] theorem zeroE_80:z3K Tryz.prog 80=some (.agg [.d (.leaf (.int .i64 0)),.d (.leaf (.int .i64 0))]):=by kernel_rfl
@[simp] theorem part_80 (cs:List C) (off:Nat):Am.part Tryz.prog 80 cs off=if off+2≤cs.length then some (.agg ((cs.drop off).take 2)) else none:=by kernel_rfl
@[simp] theorem zn6:z1R Tryz.prog 80=true:=by kernel_rfl
@[simp] theorem slz_87:slz Tryz.prog 8 87=[none,none,some 1]:=by kernel_rfl
@[simp] theorem sizeT_87:z0g Tryz.prog 87=3:=by kernel_rfl
@[simp] theorem bytesT_87:z30 Tryz.prog 87=48:=by kernel_rfl
@[simp] theorem zeroE_87:z3K Tryz.prog 87=some (.agg [.d (.leaf (.string ⟨#[]⟩)),.d (.leaf (.bool false)),.nilS]):=by kernel_rfl
@[simp] theorem part_87 (cs:List C) (off:Nat):Am.part Tryz.prog 87 cs off=if off+3≤cs.length then some (.agg ((cs.drop off).take 3)) else none:=by kernel_rfl
@[simp] theorem zn5:z1R Tryz.prog 87=true:=by kernel_rfl
@[simp] theorem zok_87:zok Tryz.prog 87=true:=by kernel_rfl
@[simp] theorem slz_111:slz Tryz.prog 8 111=[none]:=by kernel_rfl
@[simp] theorem slz_151:slz Tryz.prog 8 151=[some 1]:=by kernel_rfl
@[simp] theorem zeroE_153:z3K Tryz.prog 153=some (.agg [.d (.leaf (.int .i64 0)),.d (.leaf (.int .i64 0)),.d (.leaf (.int .i64 0))]):=by kernel_rfl
@[simp] theorem zm5:z1R Tryz.prog 153=true:=by kernel_rfl
@[simp] theorem slz_180:slz Tryz.prog 8 180=[none]:=by kernel_rfl
@[simp] theorem sizeT_180:z0g Tryz.prog 180=1:=by kernel_rfl
@[simp] theorem bytesT_180:z30 Tryz.prog 180=8:=by kernel_rfl
@[simp] theorem zeroE_180:z3K Tryz.prog 180=some (.one (.d (.leaf (.int .u64 0)))):=by kernel_rfl
@[simp] theorem part_180 (cs:List C) (off:Nat):Am.part Tryz.prog 180 cs off=match cs[off]? with|some c=>some (.one c)|none=>none:=by kernel_rfl
@[simp] theorem zok_180:zok Tryz.prog 180=true:=by kernel_rfl
@[simp] theorem slz_208:slz Tryz.prog 8 208=[none]:=by kernel_rfl
@[simp] theorem sizeT_208:z0g Tryz.prog 208=1:=by kernel_rfl
@[simp] theorem bytesT_208:z30 Tryz.prog 208=4:=by kernel_rfl
@[simp] theorem part_208 (cs:List C) (off:Nat):Am.part Tryz.prog 208 cs off=match cs[off]? with|some c=>some (.one c)|none=>none:=by kernel_rfl
@[simp] theorem zok_208:zok Tryz.prog 208=true:=by kernel_rfl
end Am
end Go.Proofs.YtgmppconibklcaaGreatDoor

