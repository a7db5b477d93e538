/- What the loaded program's tables say of its types and functions, each a closed fact. -/
import Derived.Test.YtgedefcjngofkaaAmB
import Derived.Test.YtgedefcjngofkaaProg
import Derived.KernelRfl
namespace Go.Proofs.Ytgedefcjngofkaa
open Go.Proofs.Ytgedefcjngofkaa.AM
def fsOf (P : Program) (T : TypeId) : Array Go.Field := match P.underlying T with
  | some (.struct fs) => fs
  | _ => #[]
theorem ty2 : TyI Try.prog 2 (.int .i64) 1 (some (.int .i64 0)) 8 := ⟨by kernel_rfl, by kernel_rfl⟩
theorem ty3 : TyI Try.prog 3 (.int .i64) 1 (some (.int .i64 0)) 8 := ⟨by kernel_rfl, by kernel_rfl⟩
theorem ty4 : TyI Try.prog 4 .bool 1 (some (.bool false)) 1 := ⟨by kernel_rfl, by kernel_rfl⟩
theorem ty5 : TyI Try.prog 5 (.int .u8) 1 (some (.int .u8 0)) 1 := ⟨by kernel_rfl, by kernel_rfl⟩
theorem ty6 : TyI Try.prog 6 (.int .u8) 1 (some (.int .u8 0)) 1 := ⟨by kernel_rfl, by kernel_rfl⟩
theorem ty7 : TyI Try.prog 7 (.struct (fsOf Try.prog 7)) 4 (some (.agg #[(.int .i64 0), (.int .i64 0), (.bool false), (.int .u8 0)])) 24 := ⟨by kernel_rfl, by kernel_rfl⟩
theorem fo7_0 : ((fsOf Try.prog 7)[0]?).map (fun x => (x.offset, x.type)) = some (0, 2) := by kernel_rfl
theorem fo7_1 : ((fsOf Try.prog 7)[1]?).map (fun x => (x.offset, x.type)) = some (1, 3) := by kernel_rfl
theorem fo7_2 : ((fsOf Try.prog 7)[2]?).map (fun x => (x.offset, x.type)) = some (2, 4) := by kernel_rfl
theorem fo7_3 : ((fsOf Try.prog 7)[3]?).map (fun x => (x.offset, x.type)) = some (3, 6) := by kernel_rfl
theorem pl7 : Places Try.prog (fsOf Try.prog 7) #[(0, 1), (1, 1), (2, 1), (3, 1)] := fun w => by kernel_rfl
theorem ty8 : TyI Try.prog 8 (.struct (fsOf Try.prog 8)) 4 (some (.agg #[(.int .i64 0), (.int .i64 0), (.bool false), (.int .u8 0)])) 24 := ⟨by kernel_rfl, by kernel_rfl⟩
theorem fo8_0 : ((fsOf Try.prog 8)[0]?).map (fun x => (x.offset, x.type)) = some (0, 2) := by kernel_rfl
theorem fo8_1 : ((fsOf Try.prog 8)[1]?).map (fun x => (x.offset, x.type)) = some (1, 3) := by kernel_rfl
theorem fo8_2 : ((fsOf Try.prog 8)[2]?).map (fun x => (x.offset, x.type)) = some (2, 4) := by kernel_rfl
theorem fo8_3 : ((fsOf Try.prog 8)[3]?).map (fun x => (x.offset, x.type)) = some (3, 6) := by kernel_rfl
theorem pl8 : Places Try.prog (fsOf Try.prog 8) #[(0, 1), (1, 1), (2, 1), (3, 1)] := fun w => by kernel_rfl
theorem ty9 : TyI Try.prog 9 .string 1 (some (.string ⟨#[]⟩)) 16 := ⟨by kernel_rfl, by kernel_rfl⟩
theorem ty10 : TyI Try.prog 10 .string 1 (some (.string ⟨#[]⟩)) 16 := ⟨by kernel_rfl, by kernel_rfl⟩
theorem ty11 : TyI Try.prog 11 .string 1 (some (.string ⟨#[]⟩)) 16 := ⟨by kernel_rfl, by kernel_rfl⟩
theorem ty12 : TyI Try.prog 12 (.int .u64) 1 (some (.int .u64 0)) 8 := ⟨by kernel_rfl, by kernel_rfl⟩
theorem ty13 : TyI Try.prog 13 (.struct (fsOf Try.prog 13)) 2 (some (.agg #[(.string ⟨#[]⟩), (.int .u64 0)])) 24 := ⟨by kernel_rfl, by kernel_rfl⟩
theorem fo13_0 : ((fsOf Try.prog 13)[0]?).map (fun x => (x.offset, x.type)) = some (0, 9) := by kernel_rfl
theorem fo13_1 : ((fsOf Try.prog 13)[1]?).map (fun x => (x.offset, x.type)) = some (1, 12) := by kernel_rfl
theorem pl13 : Places Try.prog (fsOf Try.prog 13) #[(0, 1), (1, 1)] := fun w => by kernel_rfl
theorem ty14 : TyI Try.prog 14 (.struct (fsOf Try.prog 14)) 2 (some (.agg #[(.string ⟨#[]⟩), (.int .u64 0)])) 24 := ⟨by kernel_rfl, by kernel_rfl⟩
theorem fo14_0 : ((fsOf Try.prog 14)[0]?).map (fun x => (x.offset, x.type)) = some (0, 9) := by kernel_rfl
theorem fo14_1 : ((fsOf Try.prog 14)[1]?).map (fun x => (x.offset, x.type)) = some (1, 12) := by kernel_rfl
theorem pl14 : Places Try.prog (fsOf Try.prog 14) #[(0, 1), (1, 1)] := fun w => by kernel_rfl
theorem ty15 : TyI Try.prog 15 (.pointer 168) 1 (some (.pointer none)) 8 := ⟨by kernel_rfl, by kernel_rfl⟩
theorem ty16 : TyI Try.prog 16 (.pointer 171) 1 (some (.pointer none)) 8 := ⟨by kernel_rfl, by kernel_rfl⟩
theorem ty17 : TyI Try.prog 17 (.pointer 179) 1 (some (.pointer none)) 8 := ⟨by kernel_rfl, by kernel_rfl⟩
theorem ty18 : TyI Try.prog 18 (.struct (fsOf Try.prog 18)) 1 (some (.agg #[(.pointer none)])) 8 := ⟨by kernel_rfl, by kernel_rfl⟩
theorem fo18_0 : ((fsOf Try.prog 18)[0]?).map (fun x => (x.offset, x.type)) = some (0, 17) := by kernel_rfl
theorem pl18 : Places Try.prog (fsOf Try.prog 18) #[(0, 1)] := fun w => by kernel_rfl
theorem ty19 : TyI Try.prog 19 (.struct (fsOf Try.prog 19)) 1 (some (.agg #[(.pointer none)])) 8 := ⟨by kernel_rfl, by kernel_rfl⟩
theorem fo19_0 : ((fsOf Try.prog 19)[0]?).map (fun x => (x.offset, x.type)) = some (0, 17) := by kernel_rfl
theorem pl19 : Places Try.prog (fsOf Try.prog 19) #[(0, 1)] := fun w => by kernel_rfl
theorem ty21 : TyI Try.prog 21 (.int .i32) 1 (some (.int .i32 0)) 4 := ⟨by kernel_rfl, by kernel_rfl⟩
theorem ty22 : TyI Try.prog 22 (.slice 32) 1 (some (.slice none 0 0)) 24 := ⟨by kernel_rfl, by kernel_rfl⟩
theorem ty23 : TyI Try.prog 23 (.struct (fsOf Try.prog 23)) 2 (some (.agg #[(.int .i64 0), (.int .i64 0)])) 16 := ⟨by kernel_rfl, by kernel_rfl⟩
theorem st23 : intFields Try.prog 23 = true := by kernel_rfl
theorem st23l : (fsOf Try.prog 23).toList.length = 2 := by kernel_rfl
theorem fo23_0 : ((fsOf Try.prog 23)[0]?).map (fun x => (x.offset, x.type)) = some (0, 3) := by kernel_rfl
theorem fo23_1 : ((fsOf Try.prog 23)[1]?).map (fun x => (x.offset, x.type)) = some (1, 3) := by kernel_rfl
theorem pl23 : Places Try.prog (fsOf Try.prog 23) #[(0, 1), (1, 1)] := fun w => by kernel_rfl
theorem ty24 : TyI Try.prog 24 (.struct (fsOf Try.prog 24)) 2 (some (.agg #[(.int .i64 0), (.int .i64 0)])) 16 := ⟨by kernel_rfl, by kernel_rfl⟩
theorem st24 : intFields Try.prog 24 = true := by kernel_rfl
theorem st24l : (fsOf Try.prog 24).toList.length = 2 := by kernel_rfl
theorem fo24_0 : ((fsOf Try.prog 24)[0]?).map (fun x => (x.offset, x.type)) = some (0, 3) := by kernel_rfl
theorem fo24_1 : ((fsOf Try.prog 24)[1]?).map (fun x => (x.offset, x.type)) = some (1, 3) := by kernel_rfl
theorem pl24 : Places Try.prog (fsOf Try.prog 24) #[(0, 1), (1, 1)] := fun w => by kernel_rfl
theorem ty27 : TyI Try.prog 27 (.slice 3) 1 (some (.slice none 0 0)) 24 := ⟨by kernel_rfl, by kernel_rfl⟩
theorem ty30 : TyI Try.prog 30 (.slice 131) 1 (some (.slice none 0 0)) 24 := ⟨by kernel_rfl, by kernel_rfl⟩
theorem ty31 : TyI Try.prog 31 (.struct (fsOf Try.prog 31)) 7 (some (.agg #[(.int .i64 0), (.int .i64 0), (.int .i64 0), (.int .i64 0), (.int .i64 0), (.bool false), (.slice none 0 0)])) 72 := ⟨by kernel_rfl, by kernel_rfl⟩
theorem fo31_0 : ((fsOf Try.prog 31)[0]?).map (fun x => (x.offset, x.type)) = some (0, 3) := by kernel_rfl
theorem fo31_1 : ((fsOf Try.prog 31)[1]?).map (fun x => (x.offset, x.type)) = some (1, 3) := by kernel_rfl
theorem fo31_2 : ((fsOf Try.prog 31)[2]?).map (fun x => (x.offset, x.type)) = some (2, 3) := by kernel_rfl
theorem fo31_3 : ((fsOf Try.prog 31)[3]?).map (fun x => (x.offset, x.type)) = some (3, 24) := by kernel_rfl
theorem fo31_4 : ((fsOf Try.prog 31)[4]?).map (fun x => (x.offset, x.type)) = some (5, 4) := by kernel_rfl
theorem fo31_5 : ((fsOf Try.prog 31)[5]?).map (fun x => (x.offset, x.type)) = some (6, 30) := by kernel_rfl
theorem pl31 : Places Try.prog (fsOf Try.prog 31) #[(0, 1), (1, 1), (2, 1), (3, 2), (5, 1), (6, 1)] := fun w => by kernel_rfl
theorem ty32 : TyI Try.prog 32 (.struct (fsOf Try.prog 32)) 7 (some (.agg #[(.int .i64 0), (.int .i64 0), (.int .i64 0), (.int .i64 0), (.int .i64 0), (.bool false), (.slice none 0 0)])) 72 := ⟨by kernel_rfl, by kernel_rfl⟩
theorem fo32_0 : ((fsOf Try.prog 32)[0]?).map (fun x => (x.offset, x.type)) = some (0, 3) := by kernel_rfl
theorem fo32_1 : ((fsOf Try.prog 32)[1]?).map (fun x => (x.offset, x.type)) = some (1, 3) := by kernel_rfl
theorem fo32_2 : ((fsOf Try.prog 32)[2]?).map (fun x => (x.offset, x.type)) = some (2, 3) := by kernel_rfl
theorem fo32_3 : ((fsOf Try.prog 32)[3]?).map (fun x => (x.offset, x.type)) = some (3, 24) := by kernel_rfl
theorem fo32_4 : ((fsOf Try.prog 32)[4]?).map (fun x => (x.offset, x.type)) = some (5, 4) := by kernel_rfl
theorem fo32_5 : ((fsOf Try.prog 32)[5]?).map (fun x => (x.offset, x.type)) = some (6, 30) := by kernel_rfl
theorem pl32 : Places Try.prog (fsOf Try.prog 32) #[(0, 1), (1, 1), (2, 1), (3, 2), (5, 1), (6, 1)] := fun w => by kernel_rfl
theorem ty35 : TyI Try.prog 35 (.slice 42) 1 (some (.slice none 0 0)) 24 := ⟨by kernel_rfl, by kernel_rfl⟩
theorem ty36 : TyI Try.prog 36 (.int .i64) 1 (some (.int .i64 0)) 8 := ⟨by kernel_rfl, by kernel_rfl⟩
theorem ty41 : TyI Try.prog 41 (.struct (fsOf Try.prog 41)) 3 (some (.agg #[(.int .i64 0), (.int .i64 0), (.int .i64 0)])) 24 := ⟨by kernel_rfl, by kernel_rfl⟩
theorem fo41_0 : ((fsOf Try.prog 41)[0]?).map (fun x => (x.offset, x.type)) = some (0, 3) := by kernel_rfl
theorem fo41_1 : ((fsOf Try.prog 41)[1]?).map (fun x => (x.offset, x.type)) = some (1, 24) := by kernel_rfl
theorem pl41 : Places Try.prog (fsOf Try.prog 41) #[(0, 1), (1, 2)] := fun w => by kernel_rfl
theorem ty42 : TyI Try.prog 42 (.struct (fsOf Try.prog 42)) 3 (some (.agg #[(.int .i64 0), (.int .i64 0), (.int .i64 0)])) 24 := ⟨by kernel_rfl, by kernel_rfl⟩
theorem fo42_0 : ((fsOf Try.prog 42)[0]?).map (fun x => (x.offset, x.type)) = some (0, 3) := by kernel_rfl
theorem fo42_1 : ((fsOf Try.prog 42)[1]?).map (fun x => (x.offset, x.type)) = some (1, 24) := by kernel_rfl
theorem pl42 : Places Try.prog (fsOf Try.prog 42) #[(0, 1), (1, 2)] := fun w => by kernel_rfl
theorem ty52 : TyI Try.prog 52 (.slice 57) 1 (some (.slice none 0 0)) 24 := ⟨by kernel_rfl, by kernel_rfl⟩
theorem ty53 : TyI Try.prog 53 (.pointer 116) 1 (some (.pointer none)) 8 := ⟨by kernel_rfl, by kernel_rfl⟩
theorem ty56 : TyI Try.prog 56 (.struct (fsOf Try.prog 56)) 3 (some (.agg #[(.slice none 0 0), (.int .i64 0), (.int .i64 0)])) 40 := ⟨by kernel_rfl, by kernel_rfl⟩
theorem fo56_0 : ((fsOf Try.prog 56)[0]?).map (fun x => (x.offset, x.type)) = some (0, 22) := by kernel_rfl
theorem fo56_1 : ((fsOf Try.prog 56)[1]?).map (fun x => (x.offset, x.type)) = some (1, 3) := by kernel_rfl
theorem fo56_2 : ((fsOf Try.prog 56)[2]?).map (fun x => (x.offset, x.type)) = some (2, 3) := by kernel_rfl
theorem pl56 : Places Try.prog (fsOf Try.prog 56) #[(0, 1), (1, 1), (2, 1)] := fun w => by kernel_rfl
theorem ty57 : TyI Try.prog 57 (.struct (fsOf Try.prog 57)) 3 (some (.agg #[(.slice none 0 0), (.int .i64 0), (.int .i64 0)])) 40 := ⟨by kernel_rfl, by kernel_rfl⟩
theorem fo57_0 : ((fsOf Try.prog 57)[0]?).map (fun x => (x.offset, x.type)) = some (0, 22) := by kernel_rfl
theorem fo57_1 : ((fsOf Try.prog 57)[1]?).map (fun x => (x.offset, x.type)) = some (1, 3) := by kernel_rfl
theorem fo57_2 : ((fsOf Try.prog 57)[2]?).map (fun x => (x.offset, x.type)) = some (2, 3) := by kernel_rfl
theorem pl57 : Places Try.prog (fsOf Try.prog 57) #[(0, 1), (1, 1), (2, 1)] := fun w => by kernel_rfl
theorem ty69 : TyI Try.prog 69 (.slice 81) 1 (some (.slice none 0 0)) 24 := ⟨by kernel_rfl, by kernel_rfl⟩
theorem ty74 : TyI Try.prog 74 (.slice 27) 1 (some (.slice none 0 0)) 24 := ⟨by kernel_rfl, by kernel_rfl⟩
theorem ty80 : TyI Try.prog 80 (.struct (fsOf Try.prog 80)) 2 (some (.agg #[(.int .i64 0), (.int .i64 0)])) 16 := ⟨by kernel_rfl, by kernel_rfl⟩
theorem st80 : intFields Try.prog 80 = true := by kernel_rfl
theorem st80l : (fsOf Try.prog 80).toList.length = 2 := by kernel_rfl
theorem fo80_0 : ((fsOf Try.prog 80)[0]?).map (fun x => (x.offset, x.type)) = some (0, 3) := by kernel_rfl
theorem fo80_1 : ((fsOf Try.prog 80)[1]?).map (fun x => (x.offset, x.type)) = some (1, 3) := by kernel_rfl
theorem pl80 : Places Try.prog (fsOf Try.prog 80) #[(0, 1), (1, 1)] := fun w => by kernel_rfl
theorem ty81 : TyI Try.prog 81 (.struct (fsOf Try.prog 81)) 2 (some (.agg #[(.int .i64 0), (.int .i64 0)])) 16 := ⟨by kernel_rfl, by kernel_rfl⟩
theorem st81 : intFields Try.prog 81 = true := by kernel_rfl
theorem st81l : (fsOf Try.prog 81).toList.length = 2 := by kernel_rfl
theorem fo81_0 : ((fsOf Try.prog 81)[0]?).map (fun x => (x.offset, x.type)) = some (0, 3) := by kernel_rfl
theorem fo81_1 : ((fsOf Try.prog 81)[1]?).map (fun x => (x.offset, x.type)) = some (1, 3) := by kernel_rfl
theorem pl81 : Places Try.prog (fsOf Try.prog 81) #[(0, 1), (1, 1)] := fun w => by kernel_rfl
theorem ty89 : TyI Try.prog 89 (.slice 24) 1 (some (.slice none 0 0)) 24 := ⟨by kernel_rfl, by kernel_rfl⟩
theorem ty97 : TyI Try.prog 97 (.struct (fsOf Try.prog 97)) 0 (some (.agg #[])) 0 := ⟨by kernel_rfl, by kernel_rfl⟩
theorem pl97 : Places Try.prog (fsOf Try.prog 97) #[] := fun w => by kernel_rfl
theorem ty98 : TyI Try.prog 98 (.struct (fsOf Try.prog 98)) 0 (some (.agg #[])) 0 := ⟨by kernel_rfl, by kernel_rfl⟩
theorem pl98 : Places Try.prog (fsOf Try.prog 98) #[] := fun w => by kernel_rfl
theorem ty99 : TyI Try.prog 99 (.struct (fsOf Try.prog 99)) 0 (some (.agg #[])) 0 := ⟨by kernel_rfl, by kernel_rfl⟩
theorem pl99 : Places Try.prog (fsOf Try.prog 99) #[] := fun w => by kernel_rfl
theorem ty100 : TyI Try.prog 100 (.int .u32) 1 (some (.int .u32 0)) 4 := ⟨by kernel_rfl, by kernel_rfl⟩
theorem ty101 : TyI Try.prog 101 (.struct (fsOf Try.prog 101)) 1 (some (.agg #[(.int .u32 0)])) 4 := ⟨by kernel_rfl, by kernel_rfl⟩
theorem fo101_0 : ((fsOf Try.prog 101)[0]?).map (fun x => (x.offset, x.type)) = some (0, 99) := by kernel_rfl
theorem fo101_1 : ((fsOf Try.prog 101)[1]?).map (fun x => (x.offset, x.type)) = some (0, 100) := by kernel_rfl
theorem pl101 : Places Try.prog (fsOf Try.prog 101) #[(0, 0), (0, 1)] := fun w => by kernel_rfl
theorem ty102 : TyI Try.prog 102 (.struct (fsOf Try.prog 102)) 1 (some (.agg #[(.int .u32 0)])) 4 := ⟨by kernel_rfl, by kernel_rfl⟩
theorem fo102_0 : ((fsOf Try.prog 102)[0]?).map (fun x => (x.offset, x.type)) = some (0, 99) := by kernel_rfl
theorem fo102_1 : ((fsOf Try.prog 102)[1]?).map (fun x => (x.offset, x.type)) = some (0, 100) := by kernel_rfl
theorem pl102 : Places Try.prog (fsOf Try.prog 102) #[(0, 0), (0, 1)] := fun w => by kernel_rfl
theorem ty103 : TyI Try.prog 103 (.struct (fsOf Try.prog 103)) 2 (some (.agg #[(.int .i32 0), (.int .u32 0)])) 8 := ⟨by kernel_rfl, by kernel_rfl⟩
theorem fo103_0 : ((fsOf Try.prog 103)[0]?).map (fun x => (x.offset, x.type)) = some (0, 21) := by kernel_rfl
theorem fo103_1 : ((fsOf Try.prog 103)[1]?).map (fun x => (x.offset, x.type)) = some (1, 100) := by kernel_rfl
theorem pl103 : Places Try.prog (fsOf Try.prog 103) #[(0, 1), (1, 1)] := fun w => by kernel_rfl
theorem ty104 : TyI Try.prog 104 (.struct (fsOf Try.prog 104)) 2 (some (.agg #[(.int .i32 0), (.int .u32 0)])) 8 := ⟨by kernel_rfl, by kernel_rfl⟩
theorem fo104_0 : ((fsOf Try.prog 104)[0]?).map (fun x => (x.offset, x.type)) = some (0, 21) := by kernel_rfl
theorem fo104_1 : ((fsOf Try.prog 104)[1]?).map (fun x => (x.offset, x.type)) = some (1, 100) := by kernel_rfl
theorem pl104 : Places Try.prog (fsOf Try.prog 104) #[(0, 1), (1, 1)] := fun w => by kernel_rfl
theorem ty105 : TyI Try.prog 105 (.struct (fsOf Try.prog 105)) 2 (some (.agg #[(.int .i32 0), (.int .u32 0)])) 8 := ⟨by kernel_rfl, by kernel_rfl⟩
theorem fo105_0 : ((fsOf Try.prog 105)[0]?).map (fun x => (x.offset, x.type)) = some (0, 98) := by kernel_rfl
theorem fo105_1 : ((fsOf Try.prog 105)[1]?).map (fun x => (x.offset, x.type)) = some (0, 104) := by kernel_rfl
theorem pl105 : Places Try.prog (fsOf Try.prog 105) #[(0, 0), (0, 2)] := fun w => by kernel_rfl
theorem ty106 : TyI Try.prog 106 (.struct (fsOf Try.prog 106)) 2 (some (.agg #[(.int .i32 0), (.int .u32 0)])) 8 := ⟨by kernel_rfl, by kernel_rfl⟩
theorem fo106_0 : ((fsOf Try.prog 106)[0]?).map (fun x => (x.offset, x.type)) = some (0, 98) := by kernel_rfl
theorem fo106_1 : ((fsOf Try.prog 106)[1]?).map (fun x => (x.offset, x.type)) = some (0, 104) := by kernel_rfl
theorem pl106 : Places Try.prog (fsOf Try.prog 106) #[(0, 0), (0, 2)] := fun w => by kernel_rfl
theorem ty107 : TyI Try.prog 107 (.struct (fsOf Try.prog 107)) 3 (some (.agg #[(.int .u32 0), (.int .i32 0), (.int .u32 0)])) 12 := ⟨by kernel_rfl, by kernel_rfl⟩
theorem fo107_0 : ((fsOf Try.prog 107)[0]?).map (fun x => (x.offset, x.type)) = some (0, 98) := by kernel_rfl
theorem fo107_1 : ((fsOf Try.prog 107)[1]?).map (fun x => (x.offset, x.type)) = some (0, 102) := by kernel_rfl
theorem fo107_2 : ((fsOf Try.prog 107)[2]?).map (fun x => (x.offset, x.type)) = some (1, 106) := by kernel_rfl
theorem pl107 : Places Try.prog (fsOf Try.prog 107) #[(0, 0), (0, 1), (1, 2)] := fun w => by kernel_rfl
theorem ty108 : TyI Try.prog 108 (.struct (fsOf Try.prog 108)) 3 (some (.agg #[(.int .u32 0), (.int .i32 0), (.int .u32 0)])) 12 := ⟨by kernel_rfl, by kernel_rfl⟩
theorem fo108_0 : ((fsOf Try.prog 108)[0]?).map (fun x => (x.offset, x.type)) = some (0, 98) := by kernel_rfl
theorem fo108_1 : ((fsOf Try.prog 108)[1]?).map (fun x => (x.offset, x.type)) = some (0, 102) := by kernel_rfl
theorem fo108_2 : ((fsOf Try.prog 108)[2]?).map (fun x => (x.offset, x.type)) = some (1, 106) := by kernel_rfl
theorem pl108 : Places Try.prog (fsOf Try.prog 108) #[(0, 0), (0, 1), (1, 2)] := fun w => by kernel_rfl
theorem ty109 : TyI Try.prog 109 (.struct (fsOf Try.prog 109)) 0 (some (.agg #[])) 0 := ⟨by kernel_rfl, by kernel_rfl⟩
theorem pl109 : Places Try.prog (fsOf Try.prog 109) #[] := fun w => by kernel_rfl
theorem ty110 : TyI Try.prog 110 (.struct (fsOf Try.prog 110)) 1 (some (.agg #[(.int .i64 0)])) 8 := ⟨by kernel_rfl, by kernel_rfl⟩
theorem fo110_0 : ((fsOf Try.prog 110)[0]?).map (fun x => (x.offset, x.type)) = some (0, 99) := by kernel_rfl
theorem fo110_1 : ((fsOf Try.prog 110)[1]?).map (fun x => (x.offset, x.type)) = some (0, 109) := by kernel_rfl
theorem fo110_2 : ((fsOf Try.prog 110)[2]?).map (fun x => (x.offset, x.type)) = some (0, 2) := by kernel_rfl
theorem pl110 : Places Try.prog (fsOf Try.prog 110) #[(0, 0), (0, 0), (0, 1)] := fun w => by kernel_rfl
theorem ty111 : TyI Try.prog 111 (.struct (fsOf Try.prog 111)) 1 (some (.agg #[(.int .i64 0)])) 8 := ⟨by kernel_rfl, by kernel_rfl⟩
theorem fo111_0 : ((fsOf Try.prog 111)[0]?).map (fun x => (x.offset, x.type)) = some (0, 99) := by kernel_rfl
theorem fo111_1 : ((fsOf Try.prog 111)[1]?).map (fun x => (x.offset, x.type)) = some (0, 109) := by kernel_rfl
theorem fo111_2 : ((fsOf Try.prog 111)[2]?).map (fun x => (x.offset, x.type)) = some (0, 2) := by kernel_rfl
theorem pl111 : Places Try.prog (fsOf Try.prog 111) #[(0, 0), (0, 0), (0, 1)] := fun w => by kernel_rfl
theorem ty112 : TyI Try.prog 112 (.struct (fsOf Try.prog 112)) 5 (some (.agg #[(.int .u32 0), (.int .i32 0), (.int .u32 0), (.int .i64 0), (.int .u32 0)])) 32 := ⟨by kernel_rfl, by kernel_rfl⟩
theorem fo112_0 : ((fsOf Try.prog 112)[0]?).map (fun x => (x.offset, x.type)) = some (0, 108) := by kernel_rfl
theorem fo112_1 : ((fsOf Try.prog 112)[1]?).map (fun x => (x.offset, x.type)) = some (3, 111) := by kernel_rfl
theorem fo112_2 : ((fsOf Try.prog 112)[2]?).map (fun x => (x.offset, x.type)) = some (4, 102) := by kernel_rfl
theorem pl112 : Places Try.prog (fsOf Try.prog 112) #[(0, 3), (3, 1), (4, 1)] := fun w => by kernel_rfl
theorem ty113 : TyI Try.prog 113 (.struct (fsOf Try.prog 113)) 5 (some (.agg #[(.int .u32 0), (.int .i32 0), (.int .u32 0), (.int .i64 0), (.int .u32 0)])) 32 := ⟨by kernel_rfl, by kernel_rfl⟩
theorem fo113_0 : ((fsOf Try.prog 113)[0]?).map (fun x => (x.offset, x.type)) = some (0, 108) := by kernel_rfl
theorem fo113_1 : ((fsOf Try.prog 113)[1]?).map (fun x => (x.offset, x.type)) = some (3, 111) := by kernel_rfl
theorem fo113_2 : ((fsOf Try.prog 113)[2]?).map (fun x => (x.offset, x.type)) = some (4, 102) := by kernel_rfl
theorem pl113 : Places Try.prog (fsOf Try.prog 113) #[(0, 3), (3, 1), (4, 1)] := fun w => by kernel_rfl
theorem ty114 : TyI Try.prog 114 (.array 3 113) 15 (some (.agg #[(.int .u32 0), (.int .i32 0), (.int .u32 0), (.int .i64 0), (.int .u32 0), (.int .u32 0), (.int .i32 0), (.int .u32 0), (.int .i64 0), (.int .u32 0), (.int .u32 0), (.int .i32 0), (.int .u32 0), (.int .i64 0), (.int .u32 0)])) 96 := ⟨by kernel_rfl, by kernel_rfl⟩
theorem ty115 : TyI Try.prog 115 (.struct (fsOf Try.prog 115)) 19 (some (.agg #[(.int .i64 0), (.int .i64 0), (.int .i64 0), (.int .u32 0), (.int .i32 0), (.int .u32 0), (.int .i64 0), (.int .u32 0), (.int .u32 0), (.int .i32 0), (.int .u32 0), (.int .i64 0), (.int .u32 0), (.int .u32 0), (.int .i32 0), (.int .u32 0), (.int .i64 0), (.int .u32 0), (.int .i64 0)])) 128 := ⟨by kernel_rfl, by kernel_rfl⟩
theorem fo115_0 : ((fsOf Try.prog 115)[0]?).map (fun x => (x.offset, x.type)) = some (0, 24) := by kernel_rfl
theorem fo115_1 : ((fsOf Try.prog 115)[1]?).map (fun x => (x.offset, x.type)) = some (2, 3) := by kernel_rfl
theorem fo115_2 : ((fsOf Try.prog 115)[2]?).map (fun x => (x.offset, x.type)) = some (3, 114) := by kernel_rfl
theorem fo115_3 : ((fsOf Try.prog 115)[3]?).map (fun x => (x.offset, x.type)) = some (18, 111) := by kernel_rfl
theorem pl115 : Places Try.prog (fsOf Try.prog 115) #[(0, 2), (2, 1), (3, 15), (18, 1)] := fun w => by kernel_rfl
theorem ty116 : TyI Try.prog 116 (.struct (fsOf Try.prog 116)) 19 (some (.agg #[(.int .i64 0), (.int .i64 0), (.int .i64 0), (.int .u32 0), (.int .i32 0), (.int .u32 0), (.int .i64 0), (.int .u32 0), (.int .u32 0), (.int .i32 0), (.int .u32 0), (.int .i64 0), (.int .u32 0), (.int .u32 0), (.int .i32 0), (.int .u32 0), (.int .i64 0), (.int .u32 0), (.int .i64 0)])) 128 := ⟨by kernel_rfl, by kernel_rfl⟩
theorem fo116_0 : ((fsOf Try.prog 116)[0]?).map (fun x => (x.offset, x.type)) = some (0, 24) := by kernel_rfl
theorem fo116_1 : ((fsOf Try.prog 116)[1]?).map (fun x => (x.offset, x.type)) = some (2, 3) := by kernel_rfl
theorem fo116_2 : ((fsOf Try.prog 116)[2]?).map (fun x => (x.offset, x.type)) = some (3, 114) := by kernel_rfl
theorem fo116_3 : ((fsOf Try.prog 116)[3]?).map (fun x => (x.offset, x.type)) = some (18, 111) := by kernel_rfl
theorem pl116 : Places Try.prog (fsOf Try.prog 116) #[(0, 2), (2, 1), (3, 15), (18, 1)] := fun w => by kernel_rfl
theorem ty118 : TyI Try.prog 118 (.pointer 113) 1 (some (.pointer none)) 8 := ⟨by kernel_rfl, by kernel_rfl⟩
theorem ty126 : TyI Try.prog 126 (.slice 4) 1 (some (.slice none 0 0)) 24 := ⟨by kernel_rfl, by kernel_rfl⟩
theorem ty129 : TyI Try.prog 129 (.slice 5) 1 (some (.slice none 0 0)) 24 := ⟨by kernel_rfl, by kernel_rfl⟩
theorem ty130 : TyI Try.prog 130 (.struct (fsOf Try.prog 130)) 2 (some (.agg #[(.int .i64 0), (.slice none 0 0)])) 32 := ⟨by kernel_rfl, by kernel_rfl⟩
theorem fo130_0 : ((fsOf Try.prog 130)[0]?).map (fun x => (x.offset, x.type)) = some (0, 3) := by kernel_rfl
theorem fo130_1 : ((fsOf Try.prog 130)[1]?).map (fun x => (x.offset, x.type)) = some (1, 129) := by kernel_rfl
theorem pl130 : Places Try.prog (fsOf Try.prog 130) #[(0, 1), (1, 1)] := fun w => by kernel_rfl
theorem ty131 : TyI Try.prog 131 (.struct (fsOf Try.prog 131)) 2 (some (.agg #[(.int .i64 0), (.slice none 0 0)])) 32 := ⟨by kernel_rfl, by kernel_rfl⟩
theorem fo131_0 : ((fsOf Try.prog 131)[0]?).map (fun x => (x.offset, x.type)) = some (0, 3) := by kernel_rfl
theorem fo131_1 : ((fsOf Try.prog 131)[1]?).map (fun x => (x.offset, x.type)) = some (1, 129) := by kernel_rfl
theorem pl131 : Places Try.prog (fsOf Try.prog 131) #[(0, 1), (1, 1)] := fun w => by kernel_rfl
theorem ty136 : TyI Try.prog 136 (.pointer 111) 1 (some (.pointer none)) 8 := ⟨by kernel_rfl, by kernel_rfl⟩
theorem ty138 : TyI Try.prog 138 (.pointer 2) 1 (some (.pointer none)) 8 := ⟨by kernel_rfl, by kernel_rfl⟩
theorem ty139 : TyI Try.prog 139 (.pointer 108) 1 (some (.pointer none)) 8 := ⟨by kernel_rfl, by kernel_rfl⟩
theorem ty141 : TyI Try.prog 141 (.pointer 102) 1 (some (.pointer none)) 8 := ⟨by kernel_rfl, by kernel_rfl⟩
theorem ty143 : TyI Try.prog 143 (.pointer 100) 1 (some (.pointer none)) 8 := ⟨by kernel_rfl, by kernel_rfl⟩
theorem ty153 : TyI Try.prog 153 (.pointer 106) 1 (some (.pointer none)) 8 := ⟨by kernel_rfl, by kernel_rfl⟩
theorem ty155 : TyI Try.prog 155 (.pointer 104) 1 (some (.pointer none)) 8 := ⟨by kernel_rfl, by kernel_rfl⟩
theorem ty157 : TyI Try.prog 157 (.pointer 21) 1 (some (.pointer none)) 8 := ⟨by kernel_rfl, by kernel_rfl⟩
theorem ty163 : TyI Try.prog 163 (.int .u64) 1 (some (.int .u64 0)) 8 := ⟨by kernel_rfl, by kernel_rfl⟩
theorem ty167 : TyI Try.prog 167 (.struct (fsOf Try.prog 167)) 4 (some (.agg #[(.pointer none), (.pointer none), (.pointer none), (.string ⟨#[]⟩)])) 40 := ⟨by kernel_rfl, by kernel_rfl⟩
theorem fo167_0 : ((fsOf Try.prog 167)[0]?).map (fun x => (x.offset, x.type)) = some (0, 17) := by kernel_rfl
theorem fo167_1 : ((fsOf Try.prog 167)[1]?).map (fun x => (x.offset, x.type)) = some (1, 17) := by kernel_rfl
theorem fo167_2 : ((fsOf Try.prog 167)[2]?).map (fun x => (x.offset, x.type)) = some (2, 17) := by kernel_rfl
theorem fo167_3 : ((fsOf Try.prog 167)[3]?).map (fun x => (x.offset, x.type)) = some (3, 9) := by kernel_rfl
theorem pl167 : Places Try.prog (fsOf Try.prog 167) #[(0, 1), (1, 1), (2, 1), (3, 1)] := fun w => by kernel_rfl
theorem ty168 : TyI Try.prog 168 (.struct (fsOf Try.prog 168)) 4 (some (.agg #[(.pointer none), (.pointer none), (.pointer none), (.string ⟨#[]⟩)])) 40 := ⟨by kernel_rfl, by kernel_rfl⟩
theorem fo168_0 : ((fsOf Try.prog 168)[0]?).map (fun x => (x.offset, x.type)) = some (0, 17) := by kernel_rfl
theorem fo168_1 : ((fsOf Try.prog 168)[1]?).map (fun x => (x.offset, x.type)) = some (1, 17) := by kernel_rfl
theorem fo168_2 : ((fsOf Try.prog 168)[2]?).map (fun x => (x.offset, x.type)) = some (2, 17) := by kernel_rfl
theorem fo168_3 : ((fsOf Try.prog 168)[3]?).map (fun x => (x.offset, x.type)) = some (3, 9) := by kernel_rfl
theorem pl168 : Places Try.prog (fsOf Try.prog 168) #[(0, 1), (1, 1), (2, 1), (3, 1)] := fun w => by kernel_rfl
theorem ty169 : TyI Try.prog 169 (.array 0 16) 0 (some (.agg #[])) 0 := ⟨by kernel_rfl, by kernel_rfl⟩
theorem ty170 : TyI Try.prog 170 (.struct (fsOf Try.prog 170)) 0 (some (.agg #[])) 0 := ⟨by kernel_rfl, by kernel_rfl⟩
theorem fo170_0 : ((fsOf Try.prog 170)[0]?).map (fun x => (x.offset, x.type)) = some (0, 169) := by kernel_rfl
theorem pl170 : Places Try.prog (fsOf Try.prog 170) #[(0, 0)] := fun w => by kernel_rfl
theorem ty171 : TyI Try.prog 171 (.struct (fsOf Try.prog 171)) 0 (some (.agg #[])) 0 := ⟨by kernel_rfl, by kernel_rfl⟩
theorem fo171_0 : ((fsOf Try.prog 171)[0]?).map (fun x => (x.offset, x.type)) = some (0, 169) := by kernel_rfl
theorem pl171 : Places Try.prog (fsOf Try.prog 171) #[(0, 0)] := fun w => by kernel_rfl
theorem ty172 : TyI Try.prog 172 (.int .u8) 1 (some (.int .u8 0)) 1 := ⟨by kernel_rfl, by kernel_rfl⟩
theorem ty173 : TyI Try.prog 173 (.int .u8) 1 (some (.int .u8 0)) 1 := ⟨by kernel_rfl, by kernel_rfl⟩
theorem ty175 : TyI Try.prog 175 (.pointer 5) 1 (some (.pointer none)) 8 := ⟨by kernel_rfl, by kernel_rfl⟩
theorem ty176 : TyI Try.prog 176 (.int .i32) 1 (some (.int .i32 0)) 4 := ⟨by kernel_rfl, by kernel_rfl⟩
theorem ty177 : TyI Try.prog 177 (.int .i32) 1 (some (.int .i32 0)) 4 := ⟨by kernel_rfl, by kernel_rfl⟩
theorem ty178 : TyI Try.prog 178 (.struct (fsOf Try.prog 178)) 11 (some (.agg #[(.int .u64 0), (.int .u64 0), (.int .u32 0), (.int .u8 0), (.int .u8 0), (.int .u8 0), (.int .u8 0), .nilFunc, (.pointer none), (.int .i32 0), (.int .i32 0)])) 48 := ⟨by kernel_rfl, by kernel_rfl⟩
theorem fo178_0 : ((fsOf Try.prog 178)[0]?).map (fun x => (x.offset, x.type)) = some (0, 12) := by kernel_rfl
theorem fo178_1 : ((fsOf Try.prog 178)[1]?).map (fun x => (x.offset, x.type)) = some (1, 12) := by kernel_rfl
theorem fo178_2 : ((fsOf Try.prog 178)[2]?).map (fun x => (x.offset, x.type)) = some (2, 100) := by kernel_rfl
theorem fo178_3 : ((fsOf Try.prog 178)[3]?).map (fun x => (x.offset, x.type)) = some (3, 172) := by kernel_rfl
theorem fo178_4 : ((fsOf Try.prog 178)[4]?).map (fun x => (x.offset, x.type)) = some (4, 5) := by kernel_rfl
theorem fo178_5 : ((fsOf Try.prog 178)[5]?).map (fun x => (x.offset, x.type)) = some (5, 5) := by kernel_rfl
theorem fo178_6 : ((fsOf Try.prog 178)[6]?).map (fun x => (x.offset, x.type)) = some (6, 173) := by kernel_rfl
theorem fo178_7 : ((fsOf Try.prog 178)[7]?).map (fun x => (x.offset, x.type)) = some (7, 174) := by kernel_rfl
theorem fo178_8 : ((fsOf Try.prog 178)[8]?).map (fun x => (x.offset, x.type)) = some (8, 175) := by kernel_rfl
theorem fo178_9 : ((fsOf Try.prog 178)[9]?).map (fun x => (x.offset, x.type)) = some (9, 176) := by kernel_rfl
theorem fo178_10 : ((fsOf Try.prog 178)[10]?).map (fun x => (x.offset, x.type)) = some (10, 177) := by kernel_rfl
theorem pl178 : Places Try.prog (fsOf Try.prog 178) #[(0, 1), (1, 1), (2, 1), (3, 1), (4, 1), (5, 1), (6, 1), (7, 1), (8, 1), (9, 1), (10, 1)] := fun w => by kernel_rfl
theorem ty179 : TyI Try.prog 179 (.struct (fsOf Try.prog 179)) 11 (some (.agg #[(.int .u64 0), (.int .u64 0), (.int .u32 0), (.int .u8 0), (.int .u8 0), (.int .u8 0), (.int .u8 0), .nilFunc, (.pointer none), (.int .i32 0), (.int .i32 0)])) 48 := ⟨by kernel_rfl, by kernel_rfl⟩
theorem fo179_0 : ((fsOf Try.prog 179)[0]?).map (fun x => (x.offset, x.type)) = some (0, 12) := by kernel_rfl
theorem fo179_1 : ((fsOf Try.prog 179)[1]?).map (fun x => (x.offset, x.type)) = some (1, 12) := by kernel_rfl
theorem fo179_2 : ((fsOf Try.prog 179)[2]?).map (fun x => (x.offset, x.type)) = some (2, 100) := by kernel_rfl
theorem fo179_3 : ((fsOf Try.prog 179)[3]?).map (fun x => (x.offset, x.type)) = some (3, 172) := by kernel_rfl
theorem fo179_4 : ((fsOf Try.prog 179)[4]?).map (fun x => (x.offset, x.type)) = some (4, 5) := by kernel_rfl
theorem fo179_5 : ((fsOf Try.prog 179)[5]?).map (fun x => (x.offset, x.type)) = some (5, 5) := by kernel_rfl
theorem fo179_6 : ((fsOf Try.prog 179)[6]?).map (fun x => (x.offset, x.type)) = some (6, 173) := by kernel_rfl
theorem fo179_7 : ((fsOf Try.prog 179)[7]?).map (fun x => (x.offset, x.type)) = some (7, 174) := by kernel_rfl
theorem fo179_8 : ((fsOf Try.prog 179)[8]?).map (fun x => (x.offset, x.type)) = some (8, 175) := by kernel_rfl
theorem fo179_9 : ((fsOf Try.prog 179)[9]?).map (fun x => (x.offset, x.type)) = some (9, 176) := by kernel_rfl
theorem fo179_10 : ((fsOf Try.prog 179)[10]?).map (fun x => (x.offset, x.type)) = some (10, 177) := by kernel_rfl
theorem pl179 : Places Try.prog (fsOf Try.prog 179) #[(0, 1), (1, 1), (2, 1), (3, 1), (4, 1), (5, 1), (6, 1), (7, 1), (8, 1), (9, 1), (10, 1)] := fun w => by kernel_rfl
theorem fi3 : FnI Try.prog 3 Try.f3 := ⟨Try.func3, by kernel_rfl, rfl⟩
theorem fi4 : FnI Try.prog 4 Try.f4 := ⟨Try.func4, by kernel_rfl, rfl⟩
theorem fi5 : FnI Try.prog 5 Try.f5 := ⟨Try.func5, by kernel_rfl, rfl⟩
theorem fi6 : FnI Try.prog 6 Try.f6 := ⟨Try.func6, by kernel_rfl, rfl⟩
theorem fi7 : FnI Try.prog 7 Try.f7 := ⟨Try.func7, by kernel_rfl, rfl⟩
theorem fi8 : FnI Try.prog 8 Try.f8 := ⟨Try.func8, by kernel_rfl, rfl⟩
theorem fi9 : FnI Try.prog 9 Try.f9 := ⟨Try.func9, by kernel_rfl, rfl⟩
theorem fi10 : FnI Try.prog 10 Try.f10 := ⟨Try.func10, by kernel_rfl, rfl⟩
theorem fi11 : FnI Try.prog 11 Try.f11 := ⟨Try.func11, by kernel_rfl, rfl⟩
theorem fi12 : FnI Try.prog 12 Try.f12 := ⟨Try.func12, by kernel_rfl, rfl⟩
theorem fi13 : FnI Try.prog 13 Try.f13 := ⟨Try.func13, by kernel_rfl, rfl⟩
theorem fi14 : FnI Try.prog 14 Try.f14 := ⟨Try.func14, by kernel_rfl, rfl⟩
theorem fi15 : FnI Try.prog 15 Try.f15 := ⟨Try.func15, by kernel_rfl, rfl⟩
theorem fi16 : FnI Try.prog 16 Try.f16 := ⟨Try.func16, by kernel_rfl, rfl⟩
theorem fi17 : FnI Try.prog 17 Try.f17 := ⟨Try.func17, by kernel_rfl, rfl⟩
theorem fi18 : FnI Try.prog 18 Try.f18 := ⟨Try.func18, by kernel_rfl, rfl⟩
theorem fi19 : FnI Try.prog 19 Try.f19 := ⟨Try.func19, by kernel_rfl, rfl⟩
theorem fi20 : FnI Try.prog 20 Try.f20 := ⟨Try.func20, by kernel_rfl, rfl⟩
theorem fi21 : FnI Try.prog 21 Try.f21 := ⟨Try.func21, by kernel_rfl, rfl⟩
theorem fi22 : FnI Try.prog 22 Try.f22 := ⟨Try.func22, by kernel_rfl, rfl⟩
theorem fi23 : FnI Try.prog 23 Try.f23 := ⟨Try.func23, by kernel_rfl, rfl⟩
theorem fi24 : FnI Try.prog 24 Try.f24 := ⟨Try.func24, by kernel_rfl, rfl⟩
theorem fi25 : FnI Try.prog 25 Try.f25 := ⟨Try.func25, by kernel_rfl, rfl⟩
theorem fi26 : FnI Try.prog 26 Try.f26 := ⟨Try.func26, by kernel_rfl, rfl⟩
theorem fi27 : FnI Try.prog 27 Try.f27 := ⟨Try.func27, by kernel_rfl, rfl⟩
theorem fi28 : FnI Try.prog 28 Try.f28 := ⟨Try.func28, by kernel_rfl, rfl⟩
theorem fi29 : FnI Try.prog 29 Try.f29 := ⟨Try.func29, by kernel_rfl, rfl⟩
theorem fi30 : FnI Try.prog 30 Try.f30 := ⟨Try.func30, by kernel_rfl, rfl⟩
theorem fi31 : FnI Try.prog 31 Try.f31 := ⟨Try.func31, by kernel_rfl, rfl⟩
theorem fi32 : FnI Try.prog 32 Try.f32 := ⟨Try.func32, by kernel_rfl, rfl⟩
theorem fi33 : FnI Try.prog 33 Try.f33 := ⟨Try.func33, by kernel_rfl, rfl⟩
theorem fi34 : FnI Try.prog 34 Try.f34 := ⟨Try.func34, by kernel_rfl, rfl⟩
theorem fi35 : FnI Try.prog 35 Try.f35 := ⟨Try.func35, by kernel_rfl, rfl⟩
theorem fi36 : FnI Try.prog 36 Try.f36 := ⟨Try.func36, by kernel_rfl, rfl⟩
theorem fi37 : FnI Try.prog 37 Try.f37 := ⟨Try.func37, by kernel_rfl, rfl⟩
theorem fi38 : FnI Try.prog 38 Try.f38 := ⟨Try.func38, by kernel_rfl, rfl⟩
theorem fi39 : FnI Try.prog 39 Try.f39 := ⟨Try.func39, by kernel_rfl, rfl⟩
theorem fi40 : FnI Try.prog 40 Try.f40 := ⟨Try.func40, by kernel_rfl, rfl⟩
theorem fi41 : FnI Try.prog 41 Try.f41 := ⟨Try.func41, by kernel_rfl, rfl⟩
theorem fi42 : FnI Try.prog 42 Try.f42 := ⟨Try.func42, by kernel_rfl, rfl⟩
theorem fi43 : FnI Try.prog 43 Try.f43 := ⟨Try.func43, by kernel_rfl, rfl⟩
theorem fi44 : FnI Try.prog 44 Try.f44 := ⟨Try.func44, by kernel_rfl, rfl⟩
theorem fi45 : FnI Try.prog 45 Try.f45 := ⟨Try.func45, by kernel_rfl, rfl⟩
theorem fi46 : FnI Try.prog 46 Try.f46 := ⟨Try.func46, by kernel_rfl, rfl⟩
theorem fi47 : FnI Try.prog 47 Try.f47 := ⟨Try.func47, by kernel_rfl, rfl⟩
theorem fi48 : FnI Try.prog 48 Try.f48 := ⟨Try.func48, by kernel_rfl, rfl⟩
theorem fi49 : FnI Try.prog 49 Try.f49 := ⟨Try.func49, by kernel_rfl, rfl⟩
theorem fi50 : FnI Try.prog 50 Try.f50 := ⟨Try.func50, by kernel_rfl, rfl⟩
theorem fi51 : FnI Try.prog 51 Try.f51 := ⟨Try.func51, by kernel_rfl, rfl⟩
theorem fi52 : FnI Try.prog 52 Try.f52 := ⟨Try.func52, by kernel_rfl, rfl⟩
theorem fi53 : FnI Try.prog 53 Try.f53 := ⟨Try.func53, by kernel_rfl, rfl⟩
theorem fi54 : FnI Try.prog 54 Try.f54 := ⟨Try.func54, by kernel_rfl, rfl⟩
theorem fi55 : FnI Try.prog 55 Try.f55 := ⟨Try.func55, by kernel_rfl, rfl⟩
theorem fi56 : FnI Try.prog 56 Try.f56 := ⟨Try.func56, by kernel_rfl, rfl⟩
theorem fi57 : FnI Try.prog 57 Try.f57 := ⟨Try.func57, by kernel_rfl, rfl⟩
theorem fi58 : FnI Try.prog 58 Try.f58 := ⟨Try.func58, by kernel_rfl, rfl⟩
theorem fi59 : FnI Try.prog 59 Try.f59 := ⟨Try.func59, by kernel_rfl, rfl⟩
theorem fi60 : FnI Try.prog 60 Try.f60 := ⟨Try.func60, by kernel_rfl, rfl⟩
theorem fi61 : FnI Try.prog 61 Try.f61 := ⟨Try.func61, by kernel_rfl, rfl⟩
theorem fi62 : FnI Try.prog 62 Try.f62 := ⟨Try.func62, by kernel_rfl, rfl⟩
theorem fi63 : FnI Try.prog 63 Try.f63 := ⟨Try.func63, by kernel_rfl, rfl⟩
theorem fi64 : FnI Try.prog 64 Try.f64 := ⟨Try.func64, by kernel_rfl, rfl⟩
theorem fi65 : FnI Try.prog 65 Try.f65 := ⟨Try.func65, by kernel_rfl, rfl⟩
theorem fi66 : FnI Try.prog 66 Try.f66 := ⟨Try.func66, by kernel_rfl, rfl⟩
theorem fi67 : FnI Try.prog 67 Try.f67 := ⟨Try.func67, by kernel_rfl, rfl⟩
theorem fi68 : FnI Try.prog 68 Try.f68 := ⟨Try.func68, by kernel_rfl, rfl⟩
theorem fi69 : FnI Try.prog 69 Try.f69 := ⟨Try.func69, by kernel_rfl, rfl⟩
theorem fi70 : FnI Try.prog 70 Try.f70 := ⟨Try.func70, by kernel_rfl, rfl⟩
theorem fi71 : FnI Try.prog 71 Try.f71 := ⟨Try.func71, by kernel_rfl, rfl⟩
theorem fi72 : FnI Try.prog 72 Try.f72 := ⟨Try.func72, by kernel_rfl, rfl⟩
theorem fi73 : FnI Try.prog 73 Try.f73 := ⟨Try.func73, by kernel_rfl, rfl⟩
theorem fi74 : FnI Try.prog 74 Try.f74 := ⟨Try.func74, by kernel_rfl, rfl⟩
theorem fi75 : FnI Try.prog 75 Try.f75 := ⟨Try.func75, by kernel_rfl, rfl⟩
theorem fi76 : FnI Try.prog 76 Try.f76 := ⟨Try.func76, by kernel_rfl, rfl⟩
theorem fi77 : FnI Try.prog 77 Try.f77 := ⟨Try.func77, by kernel_rfl, rfl⟩
theorem fi78 : FnI Try.prog 78 Try.f78 := ⟨Try.func78, by kernel_rfl, rfl⟩
theorem fi79 : FnI Try.prog 79 Try.f79 := ⟨Try.func79, by kernel_rfl, rfl⟩
theorem fi80 : FnI Try.prog 80 Try.f80 := ⟨Try.func80, by kernel_rfl, rfl⟩
theorem fi81 : FnI Try.prog 81 Try.f81 := ⟨Try.func81, by kernel_rfl, rfl⟩
theorem fi82 : FnI Try.prog 82 Try.f82 := ⟨Try.func82, by kernel_rfl, rfl⟩
theorem fi83 : FnI Try.prog 83 Try.f83 := ⟨Try.func83, by kernel_rfl, rfl⟩
theorem fi84 : FnI Try.prog 84 Try.f84 := ⟨Try.func84, by kernel_rfl, rfl⟩
theorem fi85 : FnI Try.prog 85 Try.f85 := ⟨Try.func85, by kernel_rfl, rfl⟩
theorem fi86 : FnI Try.prog 86 Try.f86 := ⟨Try.func86, by kernel_rfl, rfl⟩
theorem fi87 : FnI Try.prog 87 Try.f87 := ⟨Try.func87, by kernel_rfl, rfl⟩
theorem fi88 : FnI Try.prog 88 Try.f88 := ⟨Try.func88, by kernel_rfl, rfl⟩
theorem fi89 : FnI Try.prog 89 Try.f89 := ⟨Try.func89, by kernel_rfl, rfl⟩
theorem fi90 : FnI Try.prog 90 Try.f90 := ⟨Try.func90, by kernel_rfl, rfl⟩
theorem fi92 : FnI Try.prog 92 Try.f92 := ⟨Try.func92, by kernel_rfl, rfl⟩
theorem fi95 : FnI Try.prog 95 Try.f95 := ⟨Try.func95, by kernel_rfl, rfl⟩
theorem fi96 : FnI Try.prog 96 Try.f96 := ⟨Try.func96, by kernel_rfl, rfl⟩
theorem fi99 : FnI Try.prog 99 Try.f99 := ⟨Try.func99, by kernel_rfl, rfl⟩
theorem fi100 : FnI Try.prog 100 Try.f100 := ⟨Try.func100, by kernel_rfl, rfl⟩
theorem fi101 : FnI Try.prog 101 Try.f101 := ⟨Try.func101, by kernel_rfl, rfl⟩
theorem fi102 : FnI Try.prog 102 Try.f102 := ⟨Try.func102, by kernel_rfl, rfl⟩
theorem fi103 : FnI Try.prog 103 Try.f103 := ⟨Try.func103, by kernel_rfl, rfl⟩
theorem fi104 : FnI Try.prog 104 Try.f104 := ⟨Try.func104, by kernel_rfl, rfl⟩
theorem fi105 : FnI Try.prog 105 Try.f105 := ⟨Try.func105, by kernel_rfl, rfl⟩
theorem fi106 : FnI Try.prog 106 Try.f106 := ⟨Try.func106, by kernel_rfl, rfl⟩
theorem fi107 : FnI Try.prog 107 Try.f107 := ⟨Try.func107, by kernel_rfl, rfl⟩
theorem fi108 : FnI Try.prog 108 Try.f108 := ⟨Try.func108, by kernel_rfl, rfl⟩
theorem fi109 : FnI Try.prog 109 Try.f109 := ⟨Try.func109, by kernel_rfl, rfl⟩
theorem fi110 : FnI Try.prog 110 Try.f110 := ⟨Try.func110, by kernel_rfl, rfl⟩
theorem fi111 : FnI Try.prog 111 Try.f111 := ⟨Try.func111, by kernel_rfl, rfl⟩
theorem fi112 : FnI Try.prog 112 Try.f112 := ⟨Try.func112, by kernel_rfl, rfl⟩
theorem fi113 : FnI Try.prog 113 Try.f113 := ⟨Try.func113, by kernel_rfl, rfl⟩
theorem fi118 : FnI Try.prog 118 Try.f118 := ⟨Try.func118, by kernel_rfl, rfl⟩
theorem fi121 : FnI Try.prog 121 Try.f121 := ⟨Try.func121, by kernel_rfl, rfl⟩
theorem fi122 : FnI Try.prog 122 Try.f122 := ⟨Try.func122, by kernel_rfl, rfl⟩
end Go.Proofs.Ytgedefcjngofkaa
