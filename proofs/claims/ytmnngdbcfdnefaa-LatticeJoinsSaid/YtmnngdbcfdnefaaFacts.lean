/- What the loaded program's tables say of its types and functions, each a closed fact. -/
import Derived.Test.YtmnngdbcfdnefaaAm18
import Derived.Test.YtmnngdbcfdnefaaProg
import Derived.KernelRfl
namespace Go.Proofs.Ytmnngdbcfdnefaa
open Go.Proofs.Ytmnngdbcfdnefaa.AM
def fsOf (P : Program) (T : TypeId) : Array Go.Field := match P.underlying T with
  | some (.struct fs) => fs
  | _ => #[]
theorem ty2 : TyI Try.prog 2 (.int .i64) 1 (some (.int .i64 0)) 8 := ⟨by kernel_rfl, by kernel_rfl⟩
theorem ty3 : TyI Try.prog 3 (.int .i64) 1 (some (.int .i64 0)) 8 := ⟨by kernel_rfl, by kernel_rfl⟩
theorem ty4 : TyI Try.prog 4 .bool 1 (some (.bool false)) 1 := ⟨by kernel_rfl, by kernel_rfl⟩
theorem ty5 : TyI Try.prog 5 (.int .u8) 1 (some (.int .u8 0)) 1 := ⟨by kernel_rfl, by kernel_rfl⟩
theorem ty6 : TyI Try.prog 6 (.int .u8) 1 (some (.int .u8 0)) 1 := ⟨by kernel_rfl, by kernel_rfl⟩
theorem ty7 : TyI Try.prog 7 (.struct (fsOf Try.prog 7)) 4 (some (.agg #[(.int .i64 0), (.int .i64 0), (.bool false), (.int .u8 0)])) 24 := ⟨by kernel_rfl, by kernel_rfl⟩
theorem fo7_0 : ((fsOf Try.prog 7)[0]?).map (fun x => (x.offset, x.type)) = some (0, 2) := by kernel_rfl
theorem fo7_1 : ((fsOf Try.prog 7)[1]?).map (fun x => (x.offset, x.type)) = some (1, 3) := by kernel_rfl
theorem fo7_2 : ((fsOf Try.prog 7)[2]?).map (fun x => (x.offset, x.type)) = some (2, 4) := by kernel_rfl
theorem fo7_3 : ((fsOf Try.prog 7)[3]?).map (fun x => (x.offset, x.type)) = some (3, 6) := by kernel_rfl
theorem pl7 : Places Try.prog (fsOf Try.prog 7) #[(0, 1), (1, 1), (2, 1), (3, 1)] := fun w => by kernel_rfl
theorem ty8 : TyI Try.prog 8 (.struct (fsOf Try.prog 8)) 4 (some (.agg #[(.int .i64 0), (.int .i64 0), (.bool false), (.int .u8 0)])) 24 := ⟨by kernel_rfl, by kernel_rfl⟩
theorem fo8_0 : ((fsOf Try.prog 8)[0]?).map (fun x => (x.offset, x.type)) = some (0, 2) := by kernel_rfl
theorem fo8_1 : ((fsOf Try.prog 8)[1]?).map (fun x => (x.offset, x.type)) = some (1, 3) := by kernel_rfl
theorem fo8_2 : ((fsOf Try.prog 8)[2]?).map (fun x => (x.offset, x.type)) = some (2, 4) := by kernel_rfl
theorem fo8_3 : ((fsOf Try.prog 8)[3]?).map (fun x => (x.offset, x.type)) = some (3, 6) := by kernel_rfl
theorem pl8 : Places Try.prog (fsOf Try.prog 8) #[(0, 1), (1, 1), (2, 1), (3, 1)] := fun w => by kernel_rfl
theorem ty9 : TyI Try.prog 9 .string 1 (some (.string ⟨#[]⟩)) 16 := ⟨by kernel_rfl, by kernel_rfl⟩
theorem ty10 : TyI Try.prog 10 .string 1 (some (.string ⟨#[]⟩)) 16 := ⟨by kernel_rfl, by kernel_rfl⟩
theorem ty11 : TyI Try.prog 11 .string 1 (some (.string ⟨#[]⟩)) 16 := ⟨by kernel_rfl, by kernel_rfl⟩
theorem ty12 : TyI Try.prog 12 (.int .u64) 1 (some (.int .u64 0)) 8 := ⟨by kernel_rfl, by kernel_rfl⟩
theorem ty13 : TyI Try.prog 13 (.struct (fsOf Try.prog 13)) 2 (some (.agg #[(.string ⟨#[]⟩), (.int .u64 0)])) 24 := ⟨by kernel_rfl, by kernel_rfl⟩
theorem fo13_0 : ((fsOf Try.prog 13)[0]?).map (fun x => (x.offset, x.type)) = some (0, 9) := by kernel_rfl
theorem fo13_1 : ((fsOf Try.prog 13)[1]?).map (fun x => (x.offset, x.type)) = some (1, 12) := by kernel_rfl
theorem pl13 : Places Try.prog (fsOf Try.prog 13) #[(0, 1), (1, 1)] := fun w => by kernel_rfl
theorem ty14 : TyI Try.prog 14 (.struct (fsOf Try.prog 14)) 2 (some (.agg #[(.string ⟨#[]⟩), (.int .u64 0)])) 24 := ⟨by kernel_rfl, by kernel_rfl⟩
theorem fo14_0 : ((fsOf Try.prog 14)[0]?).map (fun x => (x.offset, x.type)) = some (0, 9) := by kernel_rfl
theorem fo14_1 : ((fsOf Try.prog 14)[1]?).map (fun x => (x.offset, x.type)) = some (1, 12) := by kernel_rfl
theorem pl14 : Places Try.prog (fsOf Try.prog 14) #[(0, 1), (1, 1)] := fun w => by kernel_rfl
theorem ty15 : TyI Try.prog 15 (.pointer 122) 1 (some (.pointer none)) 8 := ⟨by kernel_rfl, by kernel_rfl⟩
theorem ty16 : TyI Try.prog 16 (.pointer 125) 1 (some (.pointer none)) 8 := ⟨by kernel_rfl, by kernel_rfl⟩
theorem ty17 : TyI Try.prog 17 (.pointer 134) 1 (some (.pointer none)) 8 := ⟨by kernel_rfl, by kernel_rfl⟩
theorem ty18 : TyI Try.prog 18 (.struct (fsOf Try.prog 18)) 1 (some (.agg #[(.pointer none)])) 8 := ⟨by kernel_rfl, by kernel_rfl⟩
theorem fo18_0 : ((fsOf Try.prog 18)[0]?).map (fun x => (x.offset, x.type)) = some (0, 17) := by kernel_rfl
theorem pl18 : Places Try.prog (fsOf Try.prog 18) #[(0, 1)] := fun w => by kernel_rfl
theorem ty19 : TyI Try.prog 19 (.struct (fsOf Try.prog 19)) 1 (some (.agg #[(.pointer none)])) 8 := ⟨by kernel_rfl, by kernel_rfl⟩
theorem fo19_0 : ((fsOf Try.prog 19)[0]?).map (fun x => (x.offset, x.type)) = some (0, 17) := by kernel_rfl
theorem pl19 : Places Try.prog (fsOf Try.prog 19) #[(0, 1)] := fun w => by kernel_rfl
theorem ty21 : TyI Try.prog 21 (.int .i32) 1 (some (.int .i32 0)) 4 := ⟨by kernel_rfl, by kernel_rfl⟩
theorem ty22 : TyI Try.prog 22 (.slice 3) 1 (some (.slice none 0 0)) 24 := ⟨by kernel_rfl, by kernel_rfl⟩
theorem ty24 : TyI Try.prog 24 (.pointer 84) 1 (some (.pointer none)) 8 := ⟨by kernel_rfl, by kernel_rfl⟩
theorem ty35 : TyI Try.prog 35 (.slice 42) 1 (some (.slice none 0 0)) 24 := ⟨by kernel_rfl, by kernel_rfl⟩
theorem ty36 : TyI Try.prog 36 (.struct (fsOf Try.prog 36)) 2 (some (.agg #[(.int .i64 0), (.int .i64 0)])) 16 := ⟨by kernel_rfl, by kernel_rfl⟩
theorem st36 : intFields Try.prog 36 = true := by kernel_rfl
theorem st36l : (fsOf Try.prog 36).toList.length = 2 := by kernel_rfl
theorem fo36_0 : ((fsOf Try.prog 36)[0]?).map (fun x => (x.offset, x.type)) = some (0, 3) := by kernel_rfl
theorem fo36_1 : ((fsOf Try.prog 36)[1]?).map (fun x => (x.offset, x.type)) = some (1, 3) := by kernel_rfl
theorem pl36 : Places Try.prog (fsOf Try.prog 36) #[(0, 1), (1, 1)] := fun w => by kernel_rfl
theorem ty37 : TyI Try.prog 37 (.struct (fsOf Try.prog 37)) 2 (some (.agg #[(.int .i64 0), (.int .i64 0)])) 16 := ⟨by kernel_rfl, by kernel_rfl⟩
theorem st37 : intFields Try.prog 37 = true := by kernel_rfl
theorem st37l : (fsOf Try.prog 37).toList.length = 2 := by kernel_rfl
theorem fo37_0 : ((fsOf Try.prog 37)[0]?).map (fun x => (x.offset, x.type)) = some (0, 3) := by kernel_rfl
theorem fo37_1 : ((fsOf Try.prog 37)[1]?).map (fun x => (x.offset, x.type)) = some (1, 3) := by kernel_rfl
theorem pl37 : Places Try.prog (fsOf Try.prog 37) #[(0, 1), (1, 1)] := fun w => by kernel_rfl
theorem ty38 : TyI Try.prog 38 (.pointer 88) 1 (some (.pointer none)) 8 := ⟨by kernel_rfl, by kernel_rfl⟩
theorem ty41 : TyI Try.prog 41 (.struct (fsOf Try.prog 41)) 4 (some (.agg #[(.int .i64 0), (.int .i64 0), (.int .i64 0), (.int .i64 0)])) 32 := ⟨by kernel_rfl, by kernel_rfl⟩
theorem fo41_0 : ((fsOf Try.prog 41)[0]?).map (fun x => (x.offset, x.type)) = some (0, 3) := by kernel_rfl
theorem fo41_1 : ((fsOf Try.prog 41)[1]?).map (fun x => (x.offset, x.type)) = some (1, 3) := by kernel_rfl
theorem fo41_2 : ((fsOf Try.prog 41)[2]?).map (fun x => (x.offset, x.type)) = some (2, 37) := by kernel_rfl
theorem pl41 : Places Try.prog (fsOf Try.prog 41) #[(0, 1), (1, 1), (2, 2)] := fun w => by kernel_rfl
theorem ty42 : TyI Try.prog 42 (.struct (fsOf Try.prog 42)) 4 (some (.agg #[(.int .i64 0), (.int .i64 0), (.int .i64 0), (.int .i64 0)])) 32 := ⟨by kernel_rfl, by kernel_rfl⟩
theorem fo42_0 : ((fsOf Try.prog 42)[0]?).map (fun x => (x.offset, x.type)) = some (0, 3) := by kernel_rfl
theorem fo42_1 : ((fsOf Try.prog 42)[1]?).map (fun x => (x.offset, x.type)) = some (1, 3) := by kernel_rfl
theorem fo42_2 : ((fsOf Try.prog 42)[2]?).map (fun x => (x.offset, x.type)) = some (2, 37) := by kernel_rfl
theorem pl42 : Places Try.prog (fsOf Try.prog 42) #[(0, 1), (1, 1), (2, 2)] := fun w => by kernel_rfl
theorem ty43 : TyI Try.prog 43 (.int .i64) 1 (some (.int .i64 0)) 8 := ⟨by kernel_rfl, by kernel_rfl⟩
theorem ty46 : TyI Try.prog 46 (.struct (fsOf Try.prog 46)) 3 (some (.agg #[(.int .i64 0), (.int .i64 0), (.int .i64 0)])) 24 := ⟨by kernel_rfl, by kernel_rfl⟩
theorem fo46_0 : ((fsOf Try.prog 46)[0]?).map (fun x => (x.offset, x.type)) = some (0, 3) := by kernel_rfl
theorem fo46_1 : ((fsOf Try.prog 46)[1]?).map (fun x => (x.offset, x.type)) = some (1, 37) := by kernel_rfl
theorem pl46 : Places Try.prog (fsOf Try.prog 46) #[(0, 1), (1, 2)] := fun w => by kernel_rfl
theorem ty47 : TyI Try.prog 47 (.struct (fsOf Try.prog 47)) 3 (some (.agg #[(.int .i64 0), (.int .i64 0), (.int .i64 0)])) 24 := ⟨by kernel_rfl, by kernel_rfl⟩
theorem fo47_0 : ((fsOf Try.prog 47)[0]?).map (fun x => (x.offset, x.type)) = some (0, 3) := by kernel_rfl
theorem fo47_1 : ((fsOf Try.prog 47)[1]?).map (fun x => (x.offset, x.type)) = some (1, 37) := by kernel_rfl
theorem pl47 : Places Try.prog (fsOf Try.prog 47) #[(0, 1), (1, 2)] := fun w => by kernel_rfl
theorem ty57 : TyI Try.prog 57 (.slice 9) 1 (some (.slice none 0 0)) 24 := ⟨by kernel_rfl, by kernel_rfl⟩
theorem ty59 : TyI Try.prog 59 (.slice 62) 1 (some (.slice none 0 0)) 24 := ⟨by kernel_rfl, by kernel_rfl⟩
theorem ty60 : TyI Try.prog 60 (.slice 93) 1 (some (.slice none 0 0)) 24 := ⟨by kernel_rfl, by kernel_rfl⟩
theorem ty61 : TyI Try.prog 61 (.struct (fsOf Try.prog 61)) 7 (some (.agg #[(.int .i64 0), (.int .i64 0), (.int .i64 0), (.int .i64 0), (.int .i64 0), (.bool false), (.slice none 0 0)])) 72 := ⟨by kernel_rfl, by kernel_rfl⟩
theorem fo61_0 : ((fsOf Try.prog 61)[0]?).map (fun x => (x.offset, x.type)) = some (0, 3) := by kernel_rfl
theorem fo61_1 : ((fsOf Try.prog 61)[1]?).map (fun x => (x.offset, x.type)) = some (1, 3) := by kernel_rfl
theorem fo61_2 : ((fsOf Try.prog 61)[2]?).map (fun x => (x.offset, x.type)) = some (2, 3) := by kernel_rfl
theorem fo61_3 : ((fsOf Try.prog 61)[3]?).map (fun x => (x.offset, x.type)) = some (3, 37) := by kernel_rfl
theorem fo61_4 : ((fsOf Try.prog 61)[4]?).map (fun x => (x.offset, x.type)) = some (5, 4) := by kernel_rfl
theorem fo61_5 : ((fsOf Try.prog 61)[5]?).map (fun x => (x.offset, x.type)) = some (6, 60) := by kernel_rfl
theorem pl61 : Places Try.prog (fsOf Try.prog 61) #[(0, 1), (1, 1), (2, 1), (3, 2), (5, 1), (6, 1)] := fun w => by kernel_rfl
theorem ty62 : TyI Try.prog 62 (.struct (fsOf Try.prog 62)) 7 (some (.agg #[(.int .i64 0), (.int .i64 0), (.int .i64 0), (.int .i64 0), (.int .i64 0), (.bool false), (.slice none 0 0)])) 72 := ⟨by kernel_rfl, by kernel_rfl⟩
theorem fo62_0 : ((fsOf Try.prog 62)[0]?).map (fun x => (x.offset, x.type)) = some (0, 3) := by kernel_rfl
theorem fo62_1 : ((fsOf Try.prog 62)[1]?).map (fun x => (x.offset, x.type)) = some (1, 3) := by kernel_rfl
theorem fo62_2 : ((fsOf Try.prog 62)[2]?).map (fun x => (x.offset, x.type)) = some (2, 3) := by kernel_rfl
theorem fo62_3 : ((fsOf Try.prog 62)[3]?).map (fun x => (x.offset, x.type)) = some (3, 37) := by kernel_rfl
theorem fo62_4 : ((fsOf Try.prog 62)[4]?).map (fun x => (x.offset, x.type)) = some (5, 4) := by kernel_rfl
theorem fo62_5 : ((fsOf Try.prog 62)[5]?).map (fun x => (x.offset, x.type)) = some (6, 60) := by kernel_rfl
theorem pl62 : Places Try.prog (fsOf Try.prog 62) #[(0, 1), (1, 1), (2, 1), (3, 2), (5, 1), (6, 1)] := fun w => by kernel_rfl
theorem ty63 : TyI Try.prog 63 (.struct (fsOf Try.prog 63)) 11 (some (.agg #[(.int .i64 0), (.int .i64 0), (.int .i64 0), (.int .i64 0), (.int .i64 0), (.int .i64 0), (.int .i64 0), (.int .i64 0), (.int .i64 0), (.int .i64 0), (.slice none 0 0)])) 104 := ⟨by kernel_rfl, by kernel_rfl⟩
theorem fo63_0 : ((fsOf Try.prog 63)[0]?).map (fun x => (x.offset, x.type)) = some (0, 3) := by kernel_rfl
theorem fo63_1 : ((fsOf Try.prog 63)[1]?).map (fun x => (x.offset, x.type)) = some (1, 3) := by kernel_rfl
theorem fo63_2 : ((fsOf Try.prog 63)[2]?).map (fun x => (x.offset, x.type)) = some (2, 3) := by kernel_rfl
theorem fo63_3 : ((fsOf Try.prog 63)[3]?).map (fun x => (x.offset, x.type)) = some (3, 37) := by kernel_rfl
theorem fo63_4 : ((fsOf Try.prog 63)[4]?).map (fun x => (x.offset, x.type)) = some (5, 3) := by kernel_rfl
theorem fo63_5 : ((fsOf Try.prog 63)[5]?).map (fun x => (x.offset, x.type)) = some (6, 3) := by kernel_rfl
theorem fo63_6 : ((fsOf Try.prog 63)[6]?).map (fun x => (x.offset, x.type)) = some (7, 3) := by kernel_rfl
theorem fo63_7 : ((fsOf Try.prog 63)[7]?).map (fun x => (x.offset, x.type)) = some (8, 3) := by kernel_rfl
theorem fo63_8 : ((fsOf Try.prog 63)[8]?).map (fun x => (x.offset, x.type)) = some (9, 3) := by kernel_rfl
theorem fo63_9 : ((fsOf Try.prog 63)[9]?).map (fun x => (x.offset, x.type)) = some (10, 59) := by kernel_rfl
theorem pl63 : Places Try.prog (fsOf Try.prog 63) #[(0, 1), (1, 1), (2, 1), (3, 2), (5, 1), (6, 1), (7, 1), (8, 1), (9, 1), (10, 1)] := fun w => by kernel_rfl
theorem ty64 : TyI Try.prog 64 (.struct (fsOf Try.prog 64)) 11 (some (.agg #[(.int .i64 0), (.int .i64 0), (.int .i64 0), (.int .i64 0), (.int .i64 0), (.int .i64 0), (.int .i64 0), (.int .i64 0), (.int .i64 0), (.int .i64 0), (.slice none 0 0)])) 104 := ⟨by kernel_rfl, by kernel_rfl⟩
theorem fo64_0 : ((fsOf Try.prog 64)[0]?).map (fun x => (x.offset, x.type)) = some (0, 3) := by kernel_rfl
theorem fo64_1 : ((fsOf Try.prog 64)[1]?).map (fun x => (x.offset, x.type)) = some (1, 3) := by kernel_rfl
theorem fo64_2 : ((fsOf Try.prog 64)[2]?).map (fun x => (x.offset, x.type)) = some (2, 3) := by kernel_rfl
theorem fo64_3 : ((fsOf Try.prog 64)[3]?).map (fun x => (x.offset, x.type)) = some (3, 37) := by kernel_rfl
theorem fo64_4 : ((fsOf Try.prog 64)[4]?).map (fun x => (x.offset, x.type)) = some (5, 3) := by kernel_rfl
theorem fo64_5 : ((fsOf Try.prog 64)[5]?).map (fun x => (x.offset, x.type)) = some (6, 3) := by kernel_rfl
theorem fo64_6 : ((fsOf Try.prog 64)[6]?).map (fun x => (x.offset, x.type)) = some (7, 3) := by kernel_rfl
theorem fo64_7 : ((fsOf Try.prog 64)[7]?).map (fun x => (x.offset, x.type)) = some (8, 3) := by kernel_rfl
theorem fo64_8 : ((fsOf Try.prog 64)[8]?).map (fun x => (x.offset, x.type)) = some (9, 3) := by kernel_rfl
theorem fo64_9 : ((fsOf Try.prog 64)[9]?).map (fun x => (x.offset, x.type)) = some (10, 59) := by kernel_rfl
theorem pl64 : Places Try.prog (fsOf Try.prog 64) #[(0, 1), (1, 1), (2, 1), (3, 2), (5, 1), (6, 1), (7, 1), (8, 1), (9, 1), (10, 1)] := fun w => by kernel_rfl
theorem ty68 : TyI Try.prog 68 (.int .i64) 1 (some (.int .i64 0)) 8 := ⟨by kernel_rfl, by kernel_rfl⟩
theorem ty83 : TyI Try.prog 83 (.struct (fsOf Try.prog 83)) 1 (some (.agg #[(.slice none 0 0)])) 24 := ⟨by kernel_rfl, by kernel_rfl⟩
theorem fo83_0 : ((fsOf Try.prog 83)[0]?).map (fun x => (x.offset, x.type)) = some (0, 22) := by kernel_rfl
theorem pl83 : Places Try.prog (fsOf Try.prog 83) #[(0, 1)] := fun w => by kernel_rfl
theorem ty84 : TyI Try.prog 84 (.struct (fsOf Try.prog 84)) 1 (some (.agg #[(.slice none 0 0)])) 24 := ⟨by kernel_rfl, by kernel_rfl⟩
theorem fo84_0 : ((fsOf Try.prog 84)[0]?).map (fun x => (x.offset, x.type)) = some (0, 22) := by kernel_rfl
theorem pl84 : Places Try.prog (fsOf Try.prog 84) #[(0, 1)] := fun w => by kernel_rfl
theorem ty86 : TyI Try.prog 86 (.map 3 47) 1 (some (.map none)) 8 := ⟨by kernel_rfl, by kernel_rfl⟩
theorem ty87 : TyI Try.prog 87 (.struct (fsOf Try.prog 87)) 1 (some (.agg #[(.map none)])) 8 := ⟨by kernel_rfl, by kernel_rfl⟩
theorem fo87_0 : ((fsOf Try.prog 87)[0]?).map (fun x => (x.offset, x.type)) = some (0, 86) := by kernel_rfl
theorem pl87 : Places Try.prog (fsOf Try.prog 87) #[(0, 1)] := fun w => by kernel_rfl
theorem ty88 : TyI Try.prog 88 (.struct (fsOf Try.prog 88)) 1 (some (.agg #[(.map none)])) 8 := ⟨by kernel_rfl, by kernel_rfl⟩
theorem fo88_0 : ((fsOf Try.prog 88)[0]?).map (fun x => (x.offset, x.type)) = some (0, 86) := by kernel_rfl
theorem pl88 : Places Try.prog (fsOf Try.prog 88) #[(0, 1)] := fun w => by kernel_rfl
theorem ty91 : TyI Try.prog 91 (.slice 5) 1 (some (.slice none 0 0)) 24 := ⟨by kernel_rfl, by kernel_rfl⟩
theorem ty92 : TyI Try.prog 92 (.struct (fsOf Try.prog 92)) 2 (some (.agg #[(.int .i64 0), (.slice none 0 0)])) 32 := ⟨by kernel_rfl, by kernel_rfl⟩
theorem fo92_0 : ((fsOf Try.prog 92)[0]?).map (fun x => (x.offset, x.type)) = some (0, 3) := by kernel_rfl
theorem fo92_1 : ((fsOf Try.prog 92)[1]?).map (fun x => (x.offset, x.type)) = some (1, 91) := by kernel_rfl
theorem pl92 : Places Try.prog (fsOf Try.prog 92) #[(0, 1), (1, 1)] := fun w => by kernel_rfl
theorem ty93 : TyI Try.prog 93 (.struct (fsOf Try.prog 93)) 2 (some (.agg #[(.int .i64 0), (.slice none 0 0)])) 32 := ⟨by kernel_rfl, by kernel_rfl⟩
theorem fo93_0 : ((fsOf Try.prog 93)[0]?).map (fun x => (x.offset, x.type)) = some (0, 3) := by kernel_rfl
theorem fo93_1 : ((fsOf Try.prog 93)[1]?).map (fun x => (x.offset, x.type)) = some (1, 91) := by kernel_rfl
theorem pl93 : Places Try.prog (fsOf Try.prog 93) #[(0, 1), (1, 1)] := fun w => by kernel_rfl
theorem ty95 : TyI Try.prog 95 (.array 4 9) 4 (some (.agg #[(.string ⟨#[]⟩), (.string ⟨#[]⟩), (.string ⟨#[]⟩), (.string ⟨#[]⟩)])) 64 := ⟨by kernel_rfl, by kernel_rfl⟩
theorem ty97 : TyI Try.prog 97 (.struct (fsOf Try.prog 97)) 2 (some (.agg #[(.string ⟨#[]⟩), (.int .u8 0)])) 24 := ⟨by kernel_rfl, by kernel_rfl⟩
theorem fo97_0 : ((fsOf Try.prog 97)[0]?).map (fun x => (x.offset, x.type)) = some (0, 9) := by kernel_rfl
theorem fo97_1 : ((fsOf Try.prog 97)[1]?).map (fun x => (x.offset, x.type)) = some (1, 5) := by kernel_rfl
theorem pl97 : Places Try.prog (fsOf Try.prog 97) #[(0, 1), (1, 1)] := fun w => by kernel_rfl
theorem ty98 : TyI Try.prog 98 (.struct (fsOf Try.prog 98)) 2 (some (.agg #[(.string ⟨#[]⟩), (.int .u8 0)])) 24 := ⟨by kernel_rfl, by kernel_rfl⟩
theorem fo98_0 : ((fsOf Try.prog 98)[0]?).map (fun x => (x.offset, x.type)) = some (0, 9) := by kernel_rfl
theorem fo98_1 : ((fsOf Try.prog 98)[1]?).map (fun x => (x.offset, x.type)) = some (1, 5) := by kernel_rfl
theorem pl98 : Places Try.prog (fsOf Try.prog 98) #[(0, 1), (1, 1)] := fun w => by kernel_rfl
theorem ty101 : TyI Try.prog 101 (.array 10 98) 20 (some (.agg #[(.string ⟨#[]⟩), (.int .u8 0), (.string ⟨#[]⟩), (.int .u8 0), (.string ⟨#[]⟩), (.int .u8 0), (.string ⟨#[]⟩), (.int .u8 0), (.string ⟨#[]⟩), (.int .u8 0), (.string ⟨#[]⟩), (.int .u8 0), (.string ⟨#[]⟩), (.int .u8 0), (.string ⟨#[]⟩), (.int .u8 0), (.string ⟨#[]⟩), (.int .u8 0), (.string ⟨#[]⟩), (.int .u8 0)])) 240 := ⟨by kernel_rfl, by kernel_rfl⟩
theorem ty115 : TyI Try.prog 115 (.slice 37) 1 (some (.slice none 0 0)) 24 := ⟨by kernel_rfl, by kernel_rfl⟩
theorem ty121 : TyI Try.prog 121 (.struct (fsOf Try.prog 121)) 4 (some (.agg #[(.pointer none), (.pointer none), (.pointer none), (.string ⟨#[]⟩)])) 40 := ⟨by kernel_rfl, by kernel_rfl⟩
theorem fo121_0 : ((fsOf Try.prog 121)[0]?).map (fun x => (x.offset, x.type)) = some (0, 17) := by kernel_rfl
theorem fo121_1 : ((fsOf Try.prog 121)[1]?).map (fun x => (x.offset, x.type)) = some (1, 17) := by kernel_rfl
theorem fo121_2 : ((fsOf Try.prog 121)[2]?).map (fun x => (x.offset, x.type)) = some (2, 17) := by kernel_rfl
theorem fo121_3 : ((fsOf Try.prog 121)[3]?).map (fun x => (x.offset, x.type)) = some (3, 9) := by kernel_rfl
theorem pl121 : Places Try.prog (fsOf Try.prog 121) #[(0, 1), (1, 1), (2, 1), (3, 1)] := fun w => by kernel_rfl
theorem ty122 : TyI Try.prog 122 (.struct (fsOf Try.prog 122)) 4 (some (.agg #[(.pointer none), (.pointer none), (.pointer none), (.string ⟨#[]⟩)])) 40 := ⟨by kernel_rfl, by kernel_rfl⟩
theorem fo122_0 : ((fsOf Try.prog 122)[0]?).map (fun x => (x.offset, x.type)) = some (0, 17) := by kernel_rfl
theorem fo122_1 : ((fsOf Try.prog 122)[1]?).map (fun x => (x.offset, x.type)) = some (1, 17) := by kernel_rfl
theorem fo122_2 : ((fsOf Try.prog 122)[2]?).map (fun x => (x.offset, x.type)) = some (2, 17) := by kernel_rfl
theorem fo122_3 : ((fsOf Try.prog 122)[3]?).map (fun x => (x.offset, x.type)) = some (3, 9) := by kernel_rfl
theorem pl122 : Places Try.prog (fsOf Try.prog 122) #[(0, 1), (1, 1), (2, 1), (3, 1)] := fun w => by kernel_rfl
theorem ty123 : TyI Try.prog 123 (.array 0 16) 0 (some (.agg #[])) 0 := ⟨by kernel_rfl, by kernel_rfl⟩
theorem ty124 : TyI Try.prog 124 (.struct (fsOf Try.prog 124)) 0 (some (.agg #[])) 0 := ⟨by kernel_rfl, by kernel_rfl⟩
theorem fo124_0 : ((fsOf Try.prog 124)[0]?).map (fun x => (x.offset, x.type)) = some (0, 123) := by kernel_rfl
theorem pl124 : Places Try.prog (fsOf Try.prog 124) #[(0, 0)] := fun w => by kernel_rfl
theorem ty125 : TyI Try.prog 125 (.struct (fsOf Try.prog 125)) 0 (some (.agg #[])) 0 := ⟨by kernel_rfl, by kernel_rfl⟩
theorem fo125_0 : ((fsOf Try.prog 125)[0]?).map (fun x => (x.offset, x.type)) = some (0, 123) := by kernel_rfl
theorem pl125 : Places Try.prog (fsOf Try.prog 125) #[(0, 0)] := fun w => by kernel_rfl
theorem ty126 : TyI Try.prog 126 (.int .u32) 1 (some (.int .u32 0)) 4 := ⟨by kernel_rfl, by kernel_rfl⟩
theorem ty127 : TyI Try.prog 127 (.int .u8) 1 (some (.int .u8 0)) 1 := ⟨by kernel_rfl, by kernel_rfl⟩
theorem ty128 : TyI Try.prog 128 (.int .u8) 1 (some (.int .u8 0)) 1 := ⟨by kernel_rfl, by kernel_rfl⟩
theorem ty130 : TyI Try.prog 130 (.pointer 5) 1 (some (.pointer none)) 8 := ⟨by kernel_rfl, by kernel_rfl⟩
theorem ty131 : TyI Try.prog 131 (.int .i32) 1 (some (.int .i32 0)) 4 := ⟨by kernel_rfl, by kernel_rfl⟩
theorem ty132 : TyI Try.prog 132 (.int .i32) 1 (some (.int .i32 0)) 4 := ⟨by kernel_rfl, by kernel_rfl⟩
theorem ty133 : TyI Try.prog 133 (.struct (fsOf Try.prog 133)) 11 (some (.agg #[(.int .u64 0), (.int .u64 0), (.int .u32 0), (.int .u8 0), (.int .u8 0), (.int .u8 0), (.int .u8 0), .nilFunc, (.pointer none), (.int .i32 0), (.int .i32 0)])) 48 := ⟨by kernel_rfl, by kernel_rfl⟩
theorem fo133_0 : ((fsOf Try.prog 133)[0]?).map (fun x => (x.offset, x.type)) = some (0, 12) := by kernel_rfl
theorem fo133_1 : ((fsOf Try.prog 133)[1]?).map (fun x => (x.offset, x.type)) = some (1, 12) := by kernel_rfl
theorem fo133_2 : ((fsOf Try.prog 133)[2]?).map (fun x => (x.offset, x.type)) = some (2, 126) := by kernel_rfl
theorem fo133_3 : ((fsOf Try.prog 133)[3]?).map (fun x => (x.offset, x.type)) = some (3, 127) := by kernel_rfl
theorem fo133_4 : ((fsOf Try.prog 133)[4]?).map (fun x => (x.offset, x.type)) = some (4, 5) := by kernel_rfl
theorem fo133_5 : ((fsOf Try.prog 133)[5]?).map (fun x => (x.offset, x.type)) = some (5, 5) := by kernel_rfl
theorem fo133_6 : ((fsOf Try.prog 133)[6]?).map (fun x => (x.offset, x.type)) = some (6, 128) := by kernel_rfl
theorem fo133_7 : ((fsOf Try.prog 133)[7]?).map (fun x => (x.offset, x.type)) = some (7, 129) := by kernel_rfl
theorem fo133_8 : ((fsOf Try.prog 133)[8]?).map (fun x => (x.offset, x.type)) = some (8, 130) := by kernel_rfl
theorem fo133_9 : ((fsOf Try.prog 133)[9]?).map (fun x => (x.offset, x.type)) = some (9, 131) := by kernel_rfl
theorem fo133_10 : ((fsOf Try.prog 133)[10]?).map (fun x => (x.offset, x.type)) = some (10, 132) := by kernel_rfl
theorem pl133 : Places Try.prog (fsOf Try.prog 133) #[(0, 1), (1, 1), (2, 1), (3, 1), (4, 1), (5, 1), (6, 1), (7, 1), (8, 1), (9, 1), (10, 1)] := fun w => by kernel_rfl
theorem ty134 : TyI Try.prog 134 (.struct (fsOf Try.prog 134)) 11 (some (.agg #[(.int .u64 0), (.int .u64 0), (.int .u32 0), (.int .u8 0), (.int .u8 0), (.int .u8 0), (.int .u8 0), .nilFunc, (.pointer none), (.int .i32 0), (.int .i32 0)])) 48 := ⟨by kernel_rfl, by kernel_rfl⟩
theorem fo134_0 : ((fsOf Try.prog 134)[0]?).map (fun x => (x.offset, x.type)) = some (0, 12) := by kernel_rfl
theorem fo134_1 : ((fsOf Try.prog 134)[1]?).map (fun x => (x.offset, x.type)) = some (1, 12) := by kernel_rfl
theorem fo134_2 : ((fsOf Try.prog 134)[2]?).map (fun x => (x.offset, x.type)) = some (2, 126) := by kernel_rfl
theorem fo134_3 : ((fsOf Try.prog 134)[3]?).map (fun x => (x.offset, x.type)) = some (3, 127) := by kernel_rfl
theorem fo134_4 : ((fsOf Try.prog 134)[4]?).map (fun x => (x.offset, x.type)) = some (4, 5) := by kernel_rfl
theorem fo134_5 : ((fsOf Try.prog 134)[5]?).map (fun x => (x.offset, x.type)) = some (5, 5) := by kernel_rfl
theorem fo134_6 : ((fsOf Try.prog 134)[6]?).map (fun x => (x.offset, x.type)) = some (6, 128) := by kernel_rfl
theorem fo134_7 : ((fsOf Try.prog 134)[7]?).map (fun x => (x.offset, x.type)) = some (7, 129) := by kernel_rfl
theorem fo134_8 : ((fsOf Try.prog 134)[8]?).map (fun x => (x.offset, x.type)) = some (8, 130) := by kernel_rfl
theorem fo134_9 : ((fsOf Try.prog 134)[9]?).map (fun x => (x.offset, x.type)) = some (9, 131) := by kernel_rfl
theorem fo134_10 : ((fsOf Try.prog 134)[10]?).map (fun x => (x.offset, x.type)) = some (10, 132) := by kernel_rfl
theorem pl134 : Places Try.prog (fsOf Try.prog 134) #[(0, 1), (1, 1), (2, 1), (3, 1), (4, 1), (5, 1), (6, 1), (7, 1), (8, 1), (9, 1), (10, 1)] := fun w => by kernel_rfl
theorem fi3 : FnI Try.prog 3 Try.f3 := ⟨Try.func3, by kernel_rfl, rfl⟩
theorem fi4 : FnI Try.prog 4 Try.f4 := ⟨Try.func4, by kernel_rfl, rfl⟩
theorem fi5 : FnI Try.prog 5 Try.f5 := ⟨Try.func5, by kernel_rfl, rfl⟩
theorem fi6 : FnI Try.prog 6 Try.f6 := ⟨Try.func6, by kernel_rfl, rfl⟩
theorem fi7 : FnI Try.prog 7 Try.f7 := ⟨Try.func7, by kernel_rfl, rfl⟩
theorem fi8 : FnI Try.prog 8 Try.f8 := ⟨Try.func8, by kernel_rfl, rfl⟩
theorem fi9 : FnI Try.prog 9 Try.f9 := ⟨Try.func9, by kernel_rfl, rfl⟩
theorem fi10 : FnI Try.prog 10 Try.f10 := ⟨Try.func10, by kernel_rfl, rfl⟩
theorem fi11 : FnI Try.prog 11 Try.f11 := ⟨Try.func11, by kernel_rfl, rfl⟩
theorem fi12 : FnI Try.prog 12 Try.f12 := ⟨Try.func12, by kernel_rfl, rfl⟩
theorem fi13 : FnI Try.prog 13 Try.f13 := ⟨Try.func13, by kernel_rfl, rfl⟩
theorem fi14 : FnI Try.prog 14 Try.f14 := ⟨Try.func14, by kernel_rfl, rfl⟩
theorem fi15 : FnI Try.prog 15 Try.f15 := ⟨Try.func15, by kernel_rfl, rfl⟩
theorem fi16 : FnI Try.prog 16 Try.f16 := ⟨Try.func16, by kernel_rfl, rfl⟩
theorem fi17 : FnI Try.prog 17 Try.f17 := ⟨Try.func17, by kernel_rfl, rfl⟩
theorem fi18 : FnI Try.prog 18 Try.f18 := ⟨Try.func18, by kernel_rfl, rfl⟩
theorem fi19 : FnI Try.prog 19 Try.f19 := ⟨Try.func19, by kernel_rfl, rfl⟩
theorem fi20 : FnI Try.prog 20 Try.f20 := ⟨Try.func20, by kernel_rfl, rfl⟩
theorem fi21 : FnI Try.prog 21 Try.f21 := ⟨Try.func21, by kernel_rfl, rfl⟩
theorem fi22 : FnI Try.prog 22 Try.f22 := ⟨Try.func22, by kernel_rfl, rfl⟩
theorem fi23 : FnI Try.prog 23 Try.f23 := ⟨Try.func23, by kernel_rfl, rfl⟩
theorem fi24 : FnI Try.prog 24 Try.f24 := ⟨Try.func24, by kernel_rfl, rfl⟩
theorem fi25 : FnI Try.prog 25 Try.f25 := ⟨Try.func25, by kernel_rfl, rfl⟩
theorem fi26 : FnI Try.prog 26 Try.f26 := ⟨Try.func26, by kernel_rfl, rfl⟩
theorem fi27 : FnI Try.prog 27 Try.f27 := ⟨Try.func27, by kernel_rfl, rfl⟩
theorem fi28 : FnI Try.prog 28 Try.f28 := ⟨Try.func28, by kernel_rfl, rfl⟩
theorem fi29 : FnI Try.prog 29 Try.f29 := ⟨Try.func29, by kernel_rfl, rfl⟩
theorem fi30 : FnI Try.prog 30 Try.f30 := ⟨Try.func30, by kernel_rfl, rfl⟩
theorem fi31 : FnI Try.prog 31 Try.f31 := ⟨Try.func31, by kernel_rfl, rfl⟩
theorem fi32 : FnI Try.prog 32 Try.f32 := ⟨Try.func32, by kernel_rfl, rfl⟩
theorem fi33 : FnI Try.prog 33 Try.f33 := ⟨Try.func33, by kernel_rfl, rfl⟩
theorem fi34 : FnI Try.prog 34 Try.f34 := ⟨Try.func34, by kernel_rfl, rfl⟩
theorem fi35 : FnI Try.prog 35 Try.f35 := ⟨Try.func35, by kernel_rfl, rfl⟩
theorem fi36 : FnI Try.prog 36 Try.f36 := ⟨Try.func36, by kernel_rfl, rfl⟩
theorem fi37 : FnI Try.prog 37 Try.f37 := ⟨Try.func37, by kernel_rfl, rfl⟩
theorem fi38 : FnI Try.prog 38 Try.f38 := ⟨Try.func38, by kernel_rfl, rfl⟩
theorem fi39 : FnI Try.prog 39 Try.f39 := ⟨Try.func39, by kernel_rfl, rfl⟩
theorem fi40 : FnI Try.prog 40 Try.f40 := ⟨Try.func40, by kernel_rfl, rfl⟩
theorem fi41 : FnI Try.prog 41 Try.f41 := ⟨Try.func41, by kernel_rfl, rfl⟩
theorem fi42 : FnI Try.prog 42 Try.f42 := ⟨Try.func42, by kernel_rfl, rfl⟩
theorem fi43 : FnI Try.prog 43 Try.f43 := ⟨Try.func43, by kernel_rfl, rfl⟩
theorem fi44 : FnI Try.prog 44 Try.f44 := ⟨Try.func44, by kernel_rfl, rfl⟩
theorem fi45 : FnI Try.prog 45 Try.f45 := ⟨Try.func45, by kernel_rfl, rfl⟩
theorem fi46 : FnI Try.prog 46 Try.f46 := ⟨Try.func46, by kernel_rfl, rfl⟩
theorem fi47 : FnI Try.prog 47 Try.f47 := ⟨Try.func47, by kernel_rfl, rfl⟩
theorem fi48 : FnI Try.prog 48 Try.f48 := ⟨Try.func48, by kernel_rfl, rfl⟩
theorem fi49 : FnI Try.prog 49 Try.f49 := ⟨Try.func49, by kernel_rfl, rfl⟩
theorem fi50 : FnI Try.prog 50 Try.f50 := ⟨Try.func50, by kernel_rfl, rfl⟩
theorem fi51 : FnI Try.prog 51 Try.f51 := ⟨Try.func51, by kernel_rfl, rfl⟩
theorem fi52 : FnI Try.prog 52 Try.f52 := ⟨Try.func52, by kernel_rfl, rfl⟩
theorem fi53 : FnI Try.prog 53 Try.f53 := ⟨Try.func53, by kernel_rfl, rfl⟩
theorem fi54 : FnI Try.prog 54 Try.f54 := ⟨Try.func54, by kernel_rfl, rfl⟩
theorem fi55 : FnI Try.prog 55 Try.f55 := ⟨Try.func55, by kernel_rfl, rfl⟩
theorem fi56 : FnI Try.prog 56 Try.f56 := ⟨Try.func56, by kernel_rfl, rfl⟩
theorem fi57 : FnI Try.prog 57 Try.f57 := ⟨Try.func57, by kernel_rfl, rfl⟩
theorem fi58 : FnI Try.prog 58 Try.f58 := ⟨Try.func58, by kernel_rfl, rfl⟩
theorem fi59 : FnI Try.prog 59 Try.f59 := ⟨Try.func59, by kernel_rfl, rfl⟩
theorem fi60 : FnI Try.prog 60 Try.f60 := ⟨Try.func60, by kernel_rfl, rfl⟩
theorem fi61 : FnI Try.prog 61 Try.f61 := ⟨Try.func61, by kernel_rfl, rfl⟩
theorem fi62 : FnI Try.prog 62 Try.f62 := ⟨Try.func62, by kernel_rfl, rfl⟩
theorem fi63 : FnI Try.prog 63 Try.f63 := ⟨Try.func63, by kernel_rfl, rfl⟩
theorem fi64 : FnI Try.prog 64 Try.f64 := ⟨Try.func64, by kernel_rfl, rfl⟩
theorem fi65 : FnI Try.prog 65 Try.f65 := ⟨Try.func65, by kernel_rfl, rfl⟩
theorem fi66 : FnI Try.prog 66 Try.f66 := ⟨Try.func66, by kernel_rfl, rfl⟩
theorem fi67 : FnI Try.prog 67 Try.f67 := ⟨Try.func67, by kernel_rfl, rfl⟩
theorem fi68 : FnI Try.prog 68 Try.f68 := ⟨Try.func68, by kernel_rfl, rfl⟩
theorem fi69 : FnI Try.prog 69 Try.f69 := ⟨Try.func69, by kernel_rfl, rfl⟩
theorem fi70 : FnI Try.prog 70 Try.f70 := ⟨Try.func70, by kernel_rfl, rfl⟩
theorem fi71 : FnI Try.prog 71 Try.f71 := ⟨Try.func71, by kernel_rfl, rfl⟩
theorem fi72 : FnI Try.prog 72 Try.f72 := ⟨Try.func72, by kernel_rfl, rfl⟩
theorem fi73 : FnI Try.prog 73 Try.f73 := ⟨Try.func73, by kernel_rfl, rfl⟩
theorem fi74 : FnI Try.prog 74 Try.f74 := ⟨Try.func74, by kernel_rfl, rfl⟩
theorem fi75 : FnI Try.prog 75 Try.f75 := ⟨Try.func75, by kernel_rfl, rfl⟩
theorem fi76 : FnI Try.prog 76 Try.f76 := ⟨Try.func76, by kernel_rfl, rfl⟩
theorem fi77 : FnI Try.prog 77 Try.f77 := ⟨Try.func77, by kernel_rfl, rfl⟩
theorem fi78 : FnI Try.prog 78 Try.f78 := ⟨Try.func78, by kernel_rfl, rfl⟩
theorem fi79 : FnI Try.prog 79 Try.f79 := ⟨Try.func79, by kernel_rfl, rfl⟩
theorem fi80 : FnI Try.prog 80 Try.f80 := ⟨Try.func80, by kernel_rfl, rfl⟩
theorem fi81 : FnI Try.prog 81 Try.f81 := ⟨Try.func81, by kernel_rfl, rfl⟩
theorem fi82 : FnI Try.prog 82 Try.f82 := ⟨Try.func82, by kernel_rfl, rfl⟩
theorem fi83 : FnI Try.prog 83 Try.f83 := ⟨Try.func83, by kernel_rfl, rfl⟩
theorem fi84 : FnI Try.prog 84 Try.f84 := ⟨Try.func84, by kernel_rfl, rfl⟩
theorem fi85 : FnI Try.prog 85 Try.f85 := ⟨Try.func85, by kernel_rfl, rfl⟩
theorem fi86 : FnI Try.prog 86 Try.f86 := ⟨Try.func86, by kernel_rfl, rfl⟩
theorem fi87 : FnI Try.prog 87 Try.f87 := ⟨Try.func87, by kernel_rfl, rfl⟩
theorem fi88 : FnI Try.prog 88 Try.f88 := ⟨Try.func88, by kernel_rfl, rfl⟩
theorem fi89 : FnI Try.prog 89 Try.f89 := ⟨Try.func89, by kernel_rfl, rfl⟩
theorem fi90 : FnI Try.prog 90 Try.f90 := ⟨Try.func90, by kernel_rfl, rfl⟩
theorem fi91 : FnI Try.prog 91 Try.f91 := ⟨Try.func91, by kernel_rfl, rfl⟩
end Go.Proofs.Ytmnngdbcfdnefaa
