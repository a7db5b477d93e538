/- What the loaded program's tables say of its types and functions, each a closed fact. -/
import Derived.Test.YtgipbhfblmblcaaAmB
import Derived.Test.YtgipbhfblmblcaaProg
import Derived.KernelRfl
namespace Go.Proofs.Ytgipbhfblmblcaa
open Go.Proofs.Ytgipbhfblmblcaa.AM
def fsOf (P : Program) (T : TypeId) : Array Go.Field := match P.underlying T with
  | some (.struct fs) => fs
  | _ => #[]
theorem ty2 : TyI Try.prog 2 (.int .i64) 1 (some (.int .i64 0)) 8 := ⟨by kernel_rfl, by kernel_rfl⟩
theorem ty3 : TyI Try.prog 3 (.int .i64) 1 (some (.int .i64 0)) 8 := ⟨by kernel_rfl, by kernel_rfl⟩
theorem ty4 : TyI Try.prog 4 .bool 1 (some (.bool false)) 1 := ⟨by kernel_rfl, by kernel_rfl⟩
theorem ty5 : TyI Try.prog 5 (.int .u8) 1 (some (.int .u8 0)) 1 := ⟨by kernel_rfl, by kernel_rfl⟩
theorem ty6 : TyI Try.prog 6 (.int .u8) 1 (some (.int .u8 0)) 1 := ⟨by kernel_rfl, by kernel_rfl⟩
theorem ty7 : TyI Try.prog 7 (.struct (fsOf Try.prog 7)) 4 (some (.agg #[(.int .i64 0), (.int .i64 0), (.bool false), (.int .u8 0)])) 24 := ⟨by kernel_rfl, by kernel_rfl⟩
theorem fo7_0 : ((fsOf Try.prog 7)[0]?).map (fun x => (x.offset, x.type)) = some (0, 2) := by kernel_rfl
theorem fo7_1 : ((fsOf Try.prog 7)[1]?).map (fun x => (x.offset, x.type)) = some (1, 3) := by kernel_rfl
theorem fo7_2 : ((fsOf Try.prog 7)[2]?).map (fun x => (x.offset, x.type)) = some (2, 4) := by kernel_rfl
theorem fo7_3 : ((fsOf Try.prog 7)[3]?).map (fun x => (x.offset, x.type)) = some (3, 6) := by kernel_rfl
theorem pl7 : Places Try.prog (fsOf Try.prog 7) #[(0, 1), (1, 1), (2, 1), (3, 1)] := fun w => by kernel_rfl
theorem ty8 : TyI Try.prog 8 (.struct (fsOf Try.prog 8)) 4 (some (.agg #[(.int .i64 0), (.int .i64 0), (.bool false), (.int .u8 0)])) 24 := ⟨by kernel_rfl, by kernel_rfl⟩
theorem fo8_0 : ((fsOf Try.prog 8)[0]?).map (fun x => (x.offset, x.type)) = some (0, 2) := by kernel_rfl
theorem fo8_1 : ((fsOf Try.prog 8)[1]?).map (fun x => (x.offset, x.type)) = some (1, 3) := by kernel_rfl
theorem fo8_2 : ((fsOf Try.prog 8)[2]?).map (fun x => (x.offset, x.type)) = some (2, 4) := by kernel_rfl
theorem fo8_3 : ((fsOf Try.prog 8)[3]?).map (fun x => (x.offset, x.type)) = some (3, 6) := by kernel_rfl
theorem pl8 : Places Try.prog (fsOf Try.prog 8) #[(0, 1), (1, 1), (2, 1), (3, 1)] := fun w => by kernel_rfl
theorem ty9 : TyI Try.prog 9 .string 1 (some (.string ⟨#[]⟩)) 16 := ⟨by kernel_rfl, by kernel_rfl⟩
theorem ty10 : TyI Try.prog 10 .string 1 (some (.string ⟨#[]⟩)) 16 := ⟨by kernel_rfl, by kernel_rfl⟩
theorem ty11 : TyI Try.prog 11 .string 1 (some (.string ⟨#[]⟩)) 16 := ⟨by kernel_rfl, by kernel_rfl⟩
theorem ty12 : TyI Try.prog 12 (.int .u64) 1 (some (.int .u64 0)) 8 := ⟨by kernel_rfl, by kernel_rfl⟩
theorem ty13 : TyI Try.prog 13 (.struct (fsOf Try.prog 13)) 2 (some (.agg #[(.string ⟨#[]⟩), (.int .u64 0)])) 24 := ⟨by kernel_rfl, by kernel_rfl⟩
theorem fo13_0 : ((fsOf Try.prog 13)[0]?).map (fun x => (x.offset, x.type)) = some (0, 9) := by kernel_rfl
theorem fo13_1 : ((fsOf Try.prog 13)[1]?).map (fun x => (x.offset, x.type)) = some (1, 12) := by kernel_rfl
theorem pl13 : Places Try.prog (fsOf Try.prog 13) #[(0, 1), (1, 1)] := fun w => by kernel_rfl
theorem ty14 : TyI Try.prog 14 (.struct (fsOf Try.prog 14)) 2 (some (.agg #[(.string ⟨#[]⟩), (.int .u64 0)])) 24 := ⟨by kernel_rfl, by kernel_rfl⟩
theorem fo14_0 : ((fsOf Try.prog 14)[0]?).map (fun x => (x.offset, x.type)) = some (0, 9) := by kernel_rfl
theorem fo14_1 : ((fsOf Try.prog 14)[1]?).map (fun x => (x.offset, x.type)) = some (1, 12) := by kernel_rfl
theorem pl14 : Places Try.prog (fsOf Try.prog 14) #[(0, 1), (1, 1)] := fun w => by kernel_rfl
theorem ty15 : TyI Try.prog 15 (.pointer 172) 1 (some (.pointer none)) 8 := ⟨by kernel_rfl, by kernel_rfl⟩
theorem ty16 : TyI Try.prog 16 (.pointer 175) 1 (some (.pointer none)) 8 := ⟨by kernel_rfl, by kernel_rfl⟩
theorem ty17 : TyI Try.prog 17 (.pointer 183) 1 (some (.pointer none)) 8 := ⟨by kernel_rfl, by kernel_rfl⟩
theorem ty18 : TyI Try.prog 18 (.struct (fsOf Try.prog 18)) 1 (some (.agg #[(.pointer none)])) 8 := ⟨by kernel_rfl, by kernel_rfl⟩
theorem fo18_0 : ((fsOf Try.prog 18)[0]?).map (fun x => (x.offset, x.type)) = some (0, 17) := by kernel_rfl
theorem pl18 : Places Try.prog (fsOf Try.prog 18) #[(0, 1)] := fun w => by kernel_rfl
theorem ty19 : TyI Try.prog 19 (.struct (fsOf Try.prog 19)) 1 (some (.agg #[(.pointer none)])) 8 := ⟨by kernel_rfl, by kernel_rfl⟩
theorem fo19_0 : ((fsOf Try.prog 19)[0]?).map (fun x => (x.offset, x.type)) = some (0, 17) := by kernel_rfl
theorem pl19 : Places Try.prog (fsOf Try.prog 19) #[(0, 1)] := fun w => by kernel_rfl
theorem ty21 : TyI Try.prog 21 (.int .i32) 1 (some (.int .i32 0)) 4 := ⟨by kernel_rfl, by kernel_rfl⟩
theorem ty22 : TyI Try.prog 22 (.slice 46) 1 (some (.slice none 0 0)) 24 := ⟨by kernel_rfl, by kernel_rfl⟩
theorem ty25 : TyI Try.prog 25 (.slice 37) 1 (some (.slice none 0 0)) 24 := ⟨by kernel_rfl, by kernel_rfl⟩
theorem ty31 : TyI Try.prog 31 (.slice 22) 1 (some (.slice none 0 0)) 24 := ⟨by kernel_rfl, by kernel_rfl⟩
theorem ty32 : TyI Try.prog 32 (.slice 9) 1 (some (.slice none 0 0)) 24 := ⟨by kernel_rfl, by kernel_rfl⟩
theorem ty35 : TyI Try.prog 35 (.int .i64) 1 (some (.int .i64 0)) 8 := ⟨by kernel_rfl, by kernel_rfl⟩
theorem ty36 : TyI Try.prog 36 (.struct (fsOf Try.prog 36)) 2 (some (.agg #[(.int .i64 0), (.int .i64 0)])) 16 := ⟨by kernel_rfl, by kernel_rfl⟩
theorem st36 : intFields Try.prog 36 = true := by kernel_rfl
theorem st36l : (fsOf Try.prog 36).toList.length = 2 := by kernel_rfl
theorem fo36_0 : ((fsOf Try.prog 36)[0]?).map (fun x => (x.offset, x.type)) = some (0, 35) := by kernel_rfl
theorem fo36_1 : ((fsOf Try.prog 36)[1]?).map (fun x => (x.offset, x.type)) = some (1, 3) := by kernel_rfl
theorem pl36 : Places Try.prog (fsOf Try.prog 36) #[(0, 1), (1, 1)] := fun w => by kernel_rfl
theorem ty37 : TyI Try.prog 37 (.struct (fsOf Try.prog 37)) 2 (some (.agg #[(.int .i64 0), (.int .i64 0)])) 16 := ⟨by kernel_rfl, by kernel_rfl⟩
theorem st37 : intFields Try.prog 37 = true := by kernel_rfl
theorem st37l : (fsOf Try.prog 37).toList.length = 2 := by kernel_rfl
theorem fo37_0 : ((fsOf Try.prog 37)[0]?).map (fun x => (x.offset, x.type)) = some (0, 35) := by kernel_rfl
theorem fo37_1 : ((fsOf Try.prog 37)[1]?).map (fun x => (x.offset, x.type)) = some (1, 3) := by kernel_rfl
theorem pl37 : Places Try.prog (fsOf Try.prog 37) #[(0, 1), (1, 1)] := fun w => by kernel_rfl
theorem ty42 : TyI Try.prog 42 (.struct (fsOf Try.prog 42)) 2 (some (.agg #[(.int .i64 0), (.int .i64 0)])) 16 := ⟨by kernel_rfl, by kernel_rfl⟩
theorem st42 : intFields Try.prog 42 = true := by kernel_rfl
theorem st42l : (fsOf Try.prog 42).toList.length = 2 := by kernel_rfl
theorem fo42_0 : ((fsOf Try.prog 42)[0]?).map (fun x => (x.offset, x.type)) = some (0, 3) := by kernel_rfl
theorem fo42_1 : ((fsOf Try.prog 42)[1]?).map (fun x => (x.offset, x.type)) = some (1, 3) := by kernel_rfl
theorem pl42 : Places Try.prog (fsOf Try.prog 42) #[(0, 1), (1, 1)] := fun w => by kernel_rfl
theorem ty43 : TyI Try.prog 43 (.struct (fsOf Try.prog 43)) 2 (some (.agg #[(.int .i64 0), (.int .i64 0)])) 16 := ⟨by kernel_rfl, by kernel_rfl⟩
theorem st43 : intFields Try.prog 43 = true := by kernel_rfl
theorem st43l : (fsOf Try.prog 43).toList.length = 2 := by kernel_rfl
theorem fo43_0 : ((fsOf Try.prog 43)[0]?).map (fun x => (x.offset, x.type)) = some (0, 3) := by kernel_rfl
theorem fo43_1 : ((fsOf Try.prog 43)[1]?).map (fun x => (x.offset, x.type)) = some (1, 3) := by kernel_rfl
theorem pl43 : Places Try.prog (fsOf Try.prog 43) #[(0, 1), (1, 1)] := fun w => by kernel_rfl
theorem ty44 : TyI Try.prog 44 (.slice 130) 1 (some (.slice none 0 0)) 24 := ⟨by kernel_rfl, by kernel_rfl⟩
theorem ty45 : TyI Try.prog 45 (.struct (fsOf Try.prog 45)) 7 (some (.agg #[(.int .i64 0), (.int .i64 0), (.int .i64 0), (.int .i64 0), (.int .i64 0), (.bool false), (.slice none 0 0)])) 72 := ⟨by kernel_rfl, by kernel_rfl⟩
theorem fo45_0 : ((fsOf Try.prog 45)[0]?).map (fun x => (x.offset, x.type)) = some (0, 3) := by kernel_rfl
theorem fo45_1 : ((fsOf Try.prog 45)[1]?).map (fun x => (x.offset, x.type)) = some (1, 3) := by kernel_rfl
theorem fo45_2 : ((fsOf Try.prog 45)[2]?).map (fun x => (x.offset, x.type)) = some (2, 3) := by kernel_rfl
theorem fo45_3 : ((fsOf Try.prog 45)[3]?).map (fun x => (x.offset, x.type)) = some (3, 43) := by kernel_rfl
theorem fo45_4 : ((fsOf Try.prog 45)[4]?).map (fun x => (x.offset, x.type)) = some (5, 4) := by kernel_rfl
theorem fo45_5 : ((fsOf Try.prog 45)[5]?).map (fun x => (x.offset, x.type)) = some (6, 44) := by kernel_rfl
theorem pl45 : Places Try.prog (fsOf Try.prog 45) #[(0, 1), (1, 1), (2, 1), (3, 2), (5, 1), (6, 1)] := fun w => by kernel_rfl
theorem ty46 : TyI Try.prog 46 (.struct (fsOf Try.prog 46)) 7 (some (.agg #[(.int .i64 0), (.int .i64 0), (.int .i64 0), (.int .i64 0), (.int .i64 0), (.bool false), (.slice none 0 0)])) 72 := ⟨by kernel_rfl, by kernel_rfl⟩
theorem fo46_0 : ((fsOf Try.prog 46)[0]?).map (fun x => (x.offset, x.type)) = some (0, 3) := by kernel_rfl
theorem fo46_1 : ((fsOf Try.prog 46)[1]?).map (fun x => (x.offset, x.type)) = some (1, 3) := by kernel_rfl
theorem fo46_2 : ((fsOf Try.prog 46)[2]?).map (fun x => (x.offset, x.type)) = some (2, 3) := by kernel_rfl
theorem fo46_3 : ((fsOf Try.prog 46)[3]?).map (fun x => (x.offset, x.type)) = some (3, 43) := by kernel_rfl
theorem fo46_4 : ((fsOf Try.prog 46)[4]?).map (fun x => (x.offset, x.type)) = some (5, 4) := by kernel_rfl
theorem fo46_5 : ((fsOf Try.prog 46)[5]?).map (fun x => (x.offset, x.type)) = some (6, 44) := by kernel_rfl
theorem pl46 : Places Try.prog (fsOf Try.prog 46) #[(0, 1), (1, 1), (2, 1), (3, 2), (5, 1), (6, 1)] := fun w => by kernel_rfl
theorem ty48 : TyI Try.prog 48 (.pointer 110) 1 (some (.pointer none)) 8 := ⟨by kernel_rfl, by kernel_rfl⟩
theorem ty49 : TyI Try.prog 49 (.int .i64) 1 (some (.int .i64 0)) 8 := ⟨by kernel_rfl, by kernel_rfl⟩
theorem ty52 : TyI Try.prog 52 (.int .i64) 1 (some (.int .i64 0)) 8 := ⟨by kernel_rfl, by kernel_rfl⟩
theorem ty58 : TyI Try.prog 58 (.slice 65) 1 (some (.slice none 0 0)) 24 := ⟨by kernel_rfl, by kernel_rfl⟩
theorem ty60 : TyI Try.prog 60 (.struct (fsOf Try.prog 60)) 3 (some (.agg #[(.int .i64 0), (.int .i64 0), (.slice none 0 0)])) 40 := ⟨by kernel_rfl, by kernel_rfl⟩
theorem fo60_0 : ((fsOf Try.prog 60)[0]?).map (fun x => (x.offset, x.type)) = some (0, 3) := by kernel_rfl
theorem fo60_1 : ((fsOf Try.prog 60)[1]?).map (fun x => (x.offset, x.type)) = some (1, 3) := by kernel_rfl
theorem fo60_2 : ((fsOf Try.prog 60)[2]?).map (fun x => (x.offset, x.type)) = some (2, 22) := by kernel_rfl
theorem pl60 : Places Try.prog (fsOf Try.prog 60) #[(0, 1), (1, 1), (2, 1)] := fun w => by kernel_rfl
theorem ty61 : TyI Try.prog 61 (.struct (fsOf Try.prog 61)) 3 (some (.agg #[(.int .i64 0), (.int .i64 0), (.slice none 0 0)])) 40 := ⟨by kernel_rfl, by kernel_rfl⟩
theorem fo61_0 : ((fsOf Try.prog 61)[0]?).map (fun x => (x.offset, x.type)) = some (0, 3) := by kernel_rfl
theorem fo61_1 : ((fsOf Try.prog 61)[1]?).map (fun x => (x.offset, x.type)) = some (1, 3) := by kernel_rfl
theorem fo61_2 : ((fsOf Try.prog 61)[2]?).map (fun x => (x.offset, x.type)) = some (2, 22) := by kernel_rfl
theorem pl61 : Places Try.prog (fsOf Try.prog 61) #[(0, 1), (1, 1), (2, 1)] := fun w => by kernel_rfl
theorem ty64 : TyI Try.prog 64 (.struct (fsOf Try.prog 64)) 8 (some (.agg #[(.int .i64 0), (.int .i64 0), (.int .i64 0), (.int .i64 0), (.int .i64 0), (.int .i64 0), (.bool false), (.slice none 0 0)])) 80 := ⟨by kernel_rfl, by kernel_rfl⟩
theorem fo64_0 : ((fsOf Try.prog 64)[0]?).map (fun x => (x.offset, x.type)) = some (0, 3) := by kernel_rfl
theorem fo64_1 : ((fsOf Try.prog 64)[1]?).map (fun x => (x.offset, x.type)) = some (1, 46) := by kernel_rfl
theorem pl64 : Places Try.prog (fsOf Try.prog 64) #[(0, 1), (1, 7)] := fun w => by kernel_rfl
theorem ty65 : TyI Try.prog 65 (.struct (fsOf Try.prog 65)) 8 (some (.agg #[(.int .i64 0), (.int .i64 0), (.int .i64 0), (.int .i64 0), (.int .i64 0), (.int .i64 0), (.bool false), (.slice none 0 0)])) 80 := ⟨by kernel_rfl, by kernel_rfl⟩
theorem fo65_0 : ((fsOf Try.prog 65)[0]?).map (fun x => (x.offset, x.type)) = some (0, 3) := by kernel_rfl
theorem fo65_1 : ((fsOf Try.prog 65)[1]?).map (fun x => (x.offset, x.type)) = some (1, 46) := by kernel_rfl
theorem pl65 : Places Try.prog (fsOf Try.prog 65) #[(0, 1), (1, 7)] := fun w => by kernel_rfl
theorem ty71 : TyI Try.prog 71 (.slice 3) 1 (some (.slice none 0 0)) 24 := ⟨by kernel_rfl, by kernel_rfl⟩
theorem ty76 : TyI Try.prog 76 (.slice 87) 1 (some (.slice none 0 0)) 24 := ⟨by kernel_rfl, by kernel_rfl⟩
theorem ty78 : TyI Try.prog 78 (.pointer 125) 1 (some (.pointer none)) 8 := ⟨by kernel_rfl, by kernel_rfl⟩
theorem ty81 : TyI Try.prog 81 (.slice 4) 1 (some (.slice none 0 0)) 24 := ⟨by kernel_rfl, by kernel_rfl⟩
theorem ty82 : TyI Try.prog 82 (.slice 61) 1 (some (.slice none 0 0)) 24 := ⟨by kernel_rfl, by kernel_rfl⟩
theorem ty83 : TyI Try.prog 83 (.slice 97) 1 (some (.slice none 0 0)) 24 := ⟨by kernel_rfl, by kernel_rfl⟩
theorem ty84 : TyI Try.prog 84 (.struct (fsOf Try.prog 84)) 4 (some (.agg #[(.slice none 0 0), (.slice none 0 0), (.slice none 0 0), (.slice none 0 0)])) 96 := ⟨by kernel_rfl, by kernel_rfl⟩
theorem fo84_0 : ((fsOf Try.prog 84)[0]?).map (fun x => (x.offset, x.type)) = some (0, 81) := by kernel_rfl
theorem fo84_1 : ((fsOf Try.prog 84)[1]?).map (fun x => (x.offset, x.type)) = some (1, 82) := by kernel_rfl
theorem fo84_2 : ((fsOf Try.prog 84)[2]?).map (fun x => (x.offset, x.type)) = some (2, 71) := by kernel_rfl
theorem fo84_3 : ((fsOf Try.prog 84)[3]?).map (fun x => (x.offset, x.type)) = some (3, 83) := by kernel_rfl
theorem pl84 : Places Try.prog (fsOf Try.prog 84) #[(0, 1), (1, 1), (2, 1), (3, 1)] := fun w => by kernel_rfl
theorem ty85 : TyI Try.prog 85 (.struct (fsOf Try.prog 85)) 4 (some (.agg #[(.slice none 0 0), (.slice none 0 0), (.slice none 0 0), (.slice none 0 0)])) 96 := ⟨by kernel_rfl, by kernel_rfl⟩
theorem fo85_0 : ((fsOf Try.prog 85)[0]?).map (fun x => (x.offset, x.type)) = some (0, 81) := by kernel_rfl
theorem fo85_1 : ((fsOf Try.prog 85)[1]?).map (fun x => (x.offset, x.type)) = some (1, 82) := by kernel_rfl
theorem fo85_2 : ((fsOf Try.prog 85)[2]?).map (fun x => (x.offset, x.type)) = some (2, 71) := by kernel_rfl
theorem fo85_3 : ((fsOf Try.prog 85)[3]?).map (fun x => (x.offset, x.type)) = some (3, 83) := by kernel_rfl
theorem pl85 : Places Try.prog (fsOf Try.prog 85) #[(0, 1), (1, 1), (2, 1), (3, 1)] := fun w => by kernel_rfl
theorem ty86 : TyI Try.prog 86 (.struct (fsOf Try.prog 86)) 6 (some (.agg #[(.int .i64 0), (.int .i64 0), (.int .i64 0), (.int .i64 0), (.int .i64 0), (.slice none 0 0)])) 64 := ⟨by kernel_rfl, by kernel_rfl⟩
theorem fo86_0 : ((fsOf Try.prog 86)[0]?).map (fun x => (x.offset, x.type)) = some (0, 3) := by kernel_rfl
theorem fo86_1 : ((fsOf Try.prog 86)[1]?).map (fun x => (x.offset, x.type)) = some (1, 3) := by kernel_rfl
theorem fo86_2 : ((fsOf Try.prog 86)[2]?).map (fun x => (x.offset, x.type)) = some (2, 3) := by kernel_rfl
theorem fo86_3 : ((fsOf Try.prog 86)[3]?).map (fun x => (x.offset, x.type)) = some (3, 3) := by kernel_rfl
theorem fo86_4 : ((fsOf Try.prog 86)[4]?).map (fun x => (x.offset, x.type)) = some (4, 3) := by kernel_rfl
theorem fo86_5 : ((fsOf Try.prog 86)[5]?).map (fun x => (x.offset, x.type)) = some (5, 22) := by kernel_rfl
theorem pl86 : Places Try.prog (fsOf Try.prog 86) #[(0, 1), (1, 1), (2, 1), (3, 1), (4, 1), (5, 1)] := fun w => by kernel_rfl
theorem ty87 : TyI Try.prog 87 (.struct (fsOf Try.prog 87)) 6 (some (.agg #[(.int .i64 0), (.int .i64 0), (.int .i64 0), (.int .i64 0), (.int .i64 0), (.slice none 0 0)])) 64 := ⟨by kernel_rfl, by kernel_rfl⟩
theorem fo87_0 : ((fsOf Try.prog 87)[0]?).map (fun x => (x.offset, x.type)) = some (0, 3) := by kernel_rfl
theorem fo87_1 : ((fsOf Try.prog 87)[1]?).map (fun x => (x.offset, x.type)) = some (1, 3) := by kernel_rfl
theorem fo87_2 : ((fsOf Try.prog 87)[2]?).map (fun x => (x.offset, x.type)) = some (2, 3) := by kernel_rfl
theorem fo87_3 : ((fsOf Try.prog 87)[3]?).map (fun x => (x.offset, x.type)) = some (3, 3) := by kernel_rfl
theorem fo87_4 : ((fsOf Try.prog 87)[4]?).map (fun x => (x.offset, x.type)) = some (4, 3) := by kernel_rfl
theorem fo87_5 : ((fsOf Try.prog 87)[5]?).map (fun x => (x.offset, x.type)) = some (5, 22) := by kernel_rfl
theorem pl87 : Places Try.prog (fsOf Try.prog 87) #[(0, 1), (1, 1), (2, 1), (3, 1), (4, 1), (5, 1)] := fun w => by kernel_rfl
theorem ty96 : TyI Try.prog 96 (.struct (fsOf Try.prog 96)) 2 (some (.agg #[(.int .i64 0), (.slice none 0 0)])) 32 := ⟨by kernel_rfl, by kernel_rfl⟩
theorem fo96_0 : ((fsOf Try.prog 96)[0]?).map (fun x => (x.offset, x.type)) = some (0, 3) := by kernel_rfl
theorem fo96_1 : ((fsOf Try.prog 96)[1]?).map (fun x => (x.offset, x.type)) = some (1, 22) := by kernel_rfl
theorem pl96 : Places Try.prog (fsOf Try.prog 96) #[(0, 1), (1, 1)] := fun w => by kernel_rfl
theorem ty97 : TyI Try.prog 97 (.struct (fsOf Try.prog 97)) 2 (some (.agg #[(.int .i64 0), (.slice none 0 0)])) 32 := ⟨by kernel_rfl, by kernel_rfl⟩
theorem fo97_0 : ((fsOf Try.prog 97)[0]?).map (fun x => (x.offset, x.type)) = some (0, 3) := by kernel_rfl
theorem fo97_1 : ((fsOf Try.prog 97)[1]?).map (fun x => (x.offset, x.type)) = some (1, 22) := by kernel_rfl
theorem pl97 : Places Try.prog (fsOf Try.prog 97) #[(0, 1), (1, 1)] := fun w => by kernel_rfl
theorem ty104 : TyI Try.prog 104 (.array 9 9) 9 (some (.agg #[(.string ⟨#[]⟩), (.string ⟨#[]⟩), (.string ⟨#[]⟩), (.string ⟨#[]⟩), (.string ⟨#[]⟩), (.string ⟨#[]⟩), (.string ⟨#[]⟩), (.string ⟨#[]⟩), (.string ⟨#[]⟩)])) 144 := ⟨by kernel_rfl, by kernel_rfl⟩
theorem ty105 : TyI Try.prog 105 (.map 3 46) 1 (some (.map none)) 8 := ⟨by kernel_rfl, by kernel_rfl⟩
theorem ty109 : TyI Try.prog 109 (.struct (fsOf Try.prog 109)) 3 (some (.agg #[(.int .i64 0), (.int .i64 0), (.slice none 0 0)])) 40 := ⟨by kernel_rfl, by kernel_rfl⟩
theorem fo109_0 : ((fsOf Try.prog 109)[0]?).map (fun x => (x.offset, x.type)) = some (0, 3) := by kernel_rfl
theorem fo109_1 : ((fsOf Try.prog 109)[1]?).map (fun x => (x.offset, x.type)) = some (1, 3) := by kernel_rfl
theorem fo109_2 : ((fsOf Try.prog 109)[2]?).map (fun x => (x.offset, x.type)) = some (2, 22) := by kernel_rfl
theorem pl109 : Places Try.prog (fsOf Try.prog 109) #[(0, 1), (1, 1), (2, 1)] := fun w => by kernel_rfl
theorem ty110 : TyI Try.prog 110 (.struct (fsOf Try.prog 110)) 3 (some (.agg #[(.int .i64 0), (.int .i64 0), (.slice none 0 0)])) 40 := ⟨by kernel_rfl, by kernel_rfl⟩
theorem fo110_0 : ((fsOf Try.prog 110)[0]?).map (fun x => (x.offset, x.type)) = some (0, 3) := by kernel_rfl
theorem fo110_1 : ((fsOf Try.prog 110)[1]?).map (fun x => (x.offset, x.type)) = some (1, 3) := by kernel_rfl
theorem fo110_2 : ((fsOf Try.prog 110)[2]?).map (fun x => (x.offset, x.type)) = some (2, 22) := by kernel_rfl
theorem pl110 : Places Try.prog (fsOf Try.prog 110) #[(0, 1), (1, 1), (2, 1)] := fun w => by kernel_rfl
theorem ty122 : TyI Try.prog 122 (.slice 48) 1 (some (.slice none 0 0)) 24 := ⟨by kernel_rfl, by kernel_rfl⟩
theorem ty123 : TyI Try.prog 123 (.map 3 22) 1 (some (.map none)) 8 := ⟨by kernel_rfl, by kernel_rfl⟩
theorem ty124 : TyI Try.prog 124 (.struct (fsOf Try.prog 124)) 4 (some (.agg #[(.int .i64 0), (.slice none 0 0), (.slice none 0 0), (.map none)])) 64 := ⟨by kernel_rfl, by kernel_rfl⟩
theorem fo124_0 : ((fsOf Try.prog 124)[0]?).map (fun x => (x.offset, x.type)) = some (0, 3) := by kernel_rfl
theorem fo124_1 : ((fsOf Try.prog 124)[1]?).map (fun x => (x.offset, x.type)) = some (1, 122) := by kernel_rfl
theorem fo124_2 : ((fsOf Try.prog 124)[2]?).map (fun x => (x.offset, x.type)) = some (2, 71) := by kernel_rfl
theorem fo124_3 : ((fsOf Try.prog 124)[3]?).map (fun x => (x.offset, x.type)) = some (3, 123) := by kernel_rfl
theorem pl124 : Places Try.prog (fsOf Try.prog 124) #[(0, 1), (1, 1), (2, 1), (3, 1)] := fun w => by kernel_rfl
theorem ty125 : TyI Try.prog 125 (.struct (fsOf Try.prog 125)) 4 (some (.agg #[(.int .i64 0), (.slice none 0 0), (.slice none 0 0), (.map none)])) 64 := ⟨by kernel_rfl, by kernel_rfl⟩
theorem fo125_0 : ((fsOf Try.prog 125)[0]?).map (fun x => (x.offset, x.type)) = some (0, 3) := by kernel_rfl
theorem fo125_1 : ((fsOf Try.prog 125)[1]?).map (fun x => (x.offset, x.type)) = some (1, 122) := by kernel_rfl
theorem fo125_2 : ((fsOf Try.prog 125)[2]?).map (fun x => (x.offset, x.type)) = some (2, 71) := by kernel_rfl
theorem fo125_3 : ((fsOf Try.prog 125)[3]?).map (fun x => (x.offset, x.type)) = some (3, 123) := by kernel_rfl
theorem pl125 : Places Try.prog (fsOf Try.prog 125) #[(0, 1), (1, 1), (2, 1), (3, 1)] := fun w => by kernel_rfl
theorem ty128 : TyI Try.prog 128 (.slice 5) 1 (some (.slice none 0 0)) 24 := ⟨by kernel_rfl, by kernel_rfl⟩
theorem ty129 : TyI Try.prog 129 (.struct (fsOf Try.prog 129)) 2 (some (.agg #[(.int .i64 0), (.slice none 0 0)])) 32 := ⟨by kernel_rfl, by kernel_rfl⟩
theorem fo129_0 : ((fsOf Try.prog 129)[0]?).map (fun x => (x.offset, x.type)) = some (0, 3) := by kernel_rfl
theorem fo129_1 : ((fsOf Try.prog 129)[1]?).map (fun x => (x.offset, x.type)) = some (1, 128) := by kernel_rfl
theorem pl129 : Places Try.prog (fsOf Try.prog 129) #[(0, 1), (1, 1)] := fun w => by kernel_rfl
theorem ty130 : TyI Try.prog 130 (.struct (fsOf Try.prog 130)) 2 (some (.agg #[(.int .i64 0), (.slice none 0 0)])) 32 := ⟨by kernel_rfl, by kernel_rfl⟩
theorem fo130_0 : ((fsOf Try.prog 130)[0]?).map (fun x => (x.offset, x.type)) = some (0, 3) := by kernel_rfl
theorem fo130_1 : ((fsOf Try.prog 130)[1]?).map (fun x => (x.offset, x.type)) = some (1, 128) := by kernel_rfl
theorem pl130 : Places Try.prog (fsOf Try.prog 130) #[(0, 1), (1, 1)] := fun w => by kernel_rfl
theorem ty135 : TyI Try.prog 135 (.int .u64) 1 (some (.int .u64 0)) 8 := ⟨by kernel_rfl, by kernel_rfl⟩
theorem ty136 : TyI Try.prog 136 (.pointer 46) 1 (some (.pointer none)) 8 := ⟨by kernel_rfl, by kernel_rfl⟩
theorem ty146 : TyI Try.prog 146 (.int .i64) 1 (some (.int .i64 0)) 8 := ⟨by kernel_rfl, by kernel_rfl⟩
theorem ty154 : TyI Try.prog 154 (.int .u32) 1 (some (.int .u32 0)) 4 := ⟨by kernel_rfl, by kernel_rfl⟩
theorem ty156 : TyI Try.prog 156 (.int .u64) 1 (some (.int .u64 0)) 8 := ⟨by kernel_rfl, by kernel_rfl⟩
theorem ty158 : TyI Try.prog 158 (.int .u64) 1 (some (.int .u64 0)) 8 := ⟨by kernel_rfl, by kernel_rfl⟩
theorem ty162 : TyI Try.prog 162 (.pointer 3) 1 (some (.pointer none)) 8 := ⟨by kernel_rfl, by kernel_rfl⟩
theorem ty165 : TyI Try.prog 165 (.pointer 158) 1 (some (.pointer none)) 8 := ⟨by kernel_rfl, by kernel_rfl⟩
theorem ty171 : TyI Try.prog 171 (.struct (fsOf Try.prog 171)) 4 (some (.agg #[(.pointer none), (.pointer none), (.pointer none), (.string ⟨#[]⟩)])) 40 := ⟨by kernel_rfl, by kernel_rfl⟩
theorem fo171_0 : ((fsOf Try.prog 171)[0]?).map (fun x => (x.offset, x.type)) = some (0, 17) := by kernel_rfl
theorem fo171_1 : ((fsOf Try.prog 171)[1]?).map (fun x => (x.offset, x.type)) = some (1, 17) := by kernel_rfl
theorem fo171_2 : ((fsOf Try.prog 171)[2]?).map (fun x => (x.offset, x.type)) = some (2, 17) := by kernel_rfl
theorem fo171_3 : ((fsOf Try.prog 171)[3]?).map (fun x => (x.offset, x.type)) = some (3, 9) := by kernel_rfl
theorem pl171 : Places Try.prog (fsOf Try.prog 171) #[(0, 1), (1, 1), (2, 1), (3, 1)] := fun w => by kernel_rfl
theorem ty172 : TyI Try.prog 172 (.struct (fsOf Try.prog 172)) 4 (some (.agg #[(.pointer none), (.pointer none), (.pointer none), (.string ⟨#[]⟩)])) 40 := ⟨by kernel_rfl, by kernel_rfl⟩
theorem fo172_0 : ((fsOf Try.prog 172)[0]?).map (fun x => (x.offset, x.type)) = some (0, 17) := by kernel_rfl
theorem fo172_1 : ((fsOf Try.prog 172)[1]?).map (fun x => (x.offset, x.type)) = some (1, 17) := by kernel_rfl
theorem fo172_2 : ((fsOf Try.prog 172)[2]?).map (fun x => (x.offset, x.type)) = some (2, 17) := by kernel_rfl
theorem fo172_3 : ((fsOf Try.prog 172)[3]?).map (fun x => (x.offset, x.type)) = some (3, 9) := by kernel_rfl
theorem pl172 : Places Try.prog (fsOf Try.prog 172) #[(0, 1), (1, 1), (2, 1), (3, 1)] := fun w => by kernel_rfl
theorem ty173 : TyI Try.prog 173 (.array 0 16) 0 (some (.agg #[])) 0 := ⟨by kernel_rfl, by kernel_rfl⟩
theorem ty174 : TyI Try.prog 174 (.struct (fsOf Try.prog 174)) 0 (some (.agg #[])) 0 := ⟨by kernel_rfl, by kernel_rfl⟩
theorem fo174_0 : ((fsOf Try.prog 174)[0]?).map (fun x => (x.offset, x.type)) = some (0, 173) := by kernel_rfl
theorem pl174 : Places Try.prog (fsOf Try.prog 174) #[(0, 0)] := fun w => by kernel_rfl
theorem ty175 : TyI Try.prog 175 (.struct (fsOf Try.prog 175)) 0 (some (.agg #[])) 0 := ⟨by kernel_rfl, by kernel_rfl⟩
theorem fo175_0 : ((fsOf Try.prog 175)[0]?).map (fun x => (x.offset, x.type)) = some (0, 173) := by kernel_rfl
theorem pl175 : Places Try.prog (fsOf Try.prog 175) #[(0, 0)] := fun w => by kernel_rfl
theorem ty176 : TyI Try.prog 176 (.int .u8) 1 (some (.int .u8 0)) 1 := ⟨by kernel_rfl, by kernel_rfl⟩
theorem ty177 : TyI Try.prog 177 (.int .u8) 1 (some (.int .u8 0)) 1 := ⟨by kernel_rfl, by kernel_rfl⟩
theorem ty179 : TyI Try.prog 179 (.pointer 5) 1 (some (.pointer none)) 8 := ⟨by kernel_rfl, by kernel_rfl⟩
theorem ty180 : TyI Try.prog 180 (.int .i32) 1 (some (.int .i32 0)) 4 := ⟨by kernel_rfl, by kernel_rfl⟩
theorem ty181 : TyI Try.prog 181 (.int .i32) 1 (some (.int .i32 0)) 4 := ⟨by kernel_rfl, by kernel_rfl⟩
theorem ty182 : TyI Try.prog 182 (.struct (fsOf Try.prog 182)) 11 (some (.agg #[(.int .u64 0), (.int .u64 0), (.int .u32 0), (.int .u8 0), (.int .u8 0), (.int .u8 0), (.int .u8 0), .nilFunc, (.pointer none), (.int .i32 0), (.int .i32 0)])) 48 := ⟨by kernel_rfl, by kernel_rfl⟩
theorem fo182_0 : ((fsOf Try.prog 182)[0]?).map (fun x => (x.offset, x.type)) = some (0, 12) := by kernel_rfl
theorem fo182_1 : ((fsOf Try.prog 182)[1]?).map (fun x => (x.offset, x.type)) = some (1, 12) := by kernel_rfl
theorem fo182_2 : ((fsOf Try.prog 182)[2]?).map (fun x => (x.offset, x.type)) = some (2, 154) := by kernel_rfl
theorem fo182_3 : ((fsOf Try.prog 182)[3]?).map (fun x => (x.offset, x.type)) = some (3, 176) := by kernel_rfl
theorem fo182_4 : ((fsOf Try.prog 182)[4]?).map (fun x => (x.offset, x.type)) = some (4, 5) := by kernel_rfl
theorem fo182_5 : ((fsOf Try.prog 182)[5]?).map (fun x => (x.offset, x.type)) = some (5, 5) := by kernel_rfl
theorem fo182_6 : ((fsOf Try.prog 182)[6]?).map (fun x => (x.offset, x.type)) = some (6, 177) := by kernel_rfl
theorem fo182_7 : ((fsOf Try.prog 182)[7]?).map (fun x => (x.offset, x.type)) = some (7, 178) := by kernel_rfl
theorem fo182_8 : ((fsOf Try.prog 182)[8]?).map (fun x => (x.offset, x.type)) = some (8, 179) := by kernel_rfl
theorem fo182_9 : ((fsOf Try.prog 182)[9]?).map (fun x => (x.offset, x.type)) = some (9, 180) := by kernel_rfl
theorem fo182_10 : ((fsOf Try.prog 182)[10]?).map (fun x => (x.offset, x.type)) = some (10, 181) := by kernel_rfl
theorem pl182 : Places Try.prog (fsOf Try.prog 182) #[(0, 1), (1, 1), (2, 1), (3, 1), (4, 1), (5, 1), (6, 1), (7, 1), (8, 1), (9, 1), (10, 1)] := fun w => by kernel_rfl
theorem ty183 : TyI Try.prog 183 (.struct (fsOf Try.prog 183)) 11 (some (.agg #[(.int .u64 0), (.int .u64 0), (.int .u32 0), (.int .u8 0), (.int .u8 0), (.int .u8 0), (.int .u8 0), .nilFunc, (.pointer none), (.int .i32 0), (.int .i32 0)])) 48 := ⟨by kernel_rfl, by kernel_rfl⟩
theorem fo183_0 : ((fsOf Try.prog 183)[0]?).map (fun x => (x.offset, x.type)) = some (0, 12) := by kernel_rfl
theorem fo183_1 : ((fsOf Try.prog 183)[1]?).map (fun x => (x.offset, x.type)) = some (1, 12) := by kernel_rfl
theorem fo183_2 : ((fsOf Try.prog 183)[2]?).map (fun x => (x.offset, x.type)) = some (2, 154) := by kernel_rfl
theorem fo183_3 : ((fsOf Try.prog 183)[3]?).map (fun x => (x.offset, x.type)) = some (3, 176) := by kernel_rfl
theorem fo183_4 : ((fsOf Try.prog 183)[4]?).map (fun x => (x.offset, x.type)) = some (4, 5) := by kernel_rfl
theorem fo183_5 : ((fsOf Try.prog 183)[5]?).map (fun x => (x.offset, x.type)) = some (5, 5) := by kernel_rfl
theorem fo183_6 : ((fsOf Try.prog 183)[6]?).map (fun x => (x.offset, x.type)) = some (6, 177) := by kernel_rfl
theorem fo183_7 : ((fsOf Try.prog 183)[7]?).map (fun x => (x.offset, x.type)) = some (7, 178) := by kernel_rfl
theorem fo183_8 : ((fsOf Try.prog 183)[8]?).map (fun x => (x.offset, x.type)) = some (8, 179) := by kernel_rfl
theorem fo183_9 : ((fsOf Try.prog 183)[9]?).map (fun x => (x.offset, x.type)) = some (9, 180) := by kernel_rfl
theorem fo183_10 : ((fsOf Try.prog 183)[10]?).map (fun x => (x.offset, x.type)) = some (10, 181) := by kernel_rfl
theorem pl183 : Places Try.prog (fsOf Try.prog 183) #[(0, 1), (1, 1), (2, 1), (3, 1), (4, 1), (5, 1), (6, 1), (7, 1), (8, 1), (9, 1), (10, 1)] := fun w => by kernel_rfl
theorem fi3 : FnI Try.prog 3 Try.f3 := ⟨Try.func3, by kernel_rfl, rfl⟩
theorem fi4 : FnI Try.prog 4 Try.f4 := ⟨Try.func4, by kernel_rfl, rfl⟩
theorem fi5 : FnI Try.prog 5 Try.f5 := ⟨Try.func5, by kernel_rfl, rfl⟩
theorem fi6 : FnI Try.prog 6 Try.f6 := ⟨Try.func6, by kernel_rfl, rfl⟩
theorem fi7 : FnI Try.prog 7 Try.f7 := ⟨Try.func7, by kernel_rfl, rfl⟩
theorem fi8 : FnI Try.prog 8 Try.f8 := ⟨Try.func8, by kernel_rfl, rfl⟩
theorem fi9 : FnI Try.prog 9 Try.f9 := ⟨Try.func9, by kernel_rfl, rfl⟩
theorem fi10 : FnI Try.prog 10 Try.f10 := ⟨Try.func10, by kernel_rfl, rfl⟩
theorem fi11 : FnI Try.prog 11 Try.f11 := ⟨Try.func11, by kernel_rfl, rfl⟩
theorem fi12 : FnI Try.prog 12 Try.f12 := ⟨Try.func12, by kernel_rfl, rfl⟩
theorem fi13 : FnI Try.prog 13 Try.f13 := ⟨Try.func13, by kernel_rfl, rfl⟩
theorem fi14 : FnI Try.prog 14 Try.f14 := ⟨Try.func14, by kernel_rfl, rfl⟩
theorem fi15 : FnI Try.prog 15 Try.f15 := ⟨Try.func15, by kernel_rfl, rfl⟩
theorem fi16 : FnI Try.prog 16 Try.f16 := ⟨Try.func16, by kernel_rfl, rfl⟩
theorem fi17 : FnI Try.prog 17 Try.f17 := ⟨Try.func17, by kernel_rfl, rfl⟩
theorem fi18 : FnI Try.prog 18 Try.f18 := ⟨Try.func18, by kernel_rfl, rfl⟩
theorem fi19 : FnI Try.prog 19 Try.f19 := ⟨Try.func19, by kernel_rfl, rfl⟩
theorem fi20 : FnI Try.prog 20 Try.f20 := ⟨Try.func20, by kernel_rfl, rfl⟩
theorem fi21 : FnI Try.prog 21 Try.f21 := ⟨Try.func21, by kernel_rfl, rfl⟩
theorem fi22 : FnI Try.prog 22 Try.f22 := ⟨Try.func22, by kernel_rfl, rfl⟩
theorem fi23 : FnI Try.prog 23 Try.f23 := ⟨Try.func23, by kernel_rfl, rfl⟩
theorem fi24 : FnI Try.prog 24 Try.f24 := ⟨Try.func24, by kernel_rfl, rfl⟩
theorem fi25 : FnI Try.prog 25 Try.f25 := ⟨Try.func25, by kernel_rfl, rfl⟩
theorem fi26 : FnI Try.prog 26 Try.f26 := ⟨Try.func26, by kernel_rfl, rfl⟩
theorem fi27 : FnI Try.prog 27 Try.f27 := ⟨Try.func27, by kernel_rfl, rfl⟩
theorem fi28 : FnI Try.prog 28 Try.f28 := ⟨Try.func28, by kernel_rfl, rfl⟩
theorem fi29 : FnI Try.prog 29 Try.f29 := ⟨Try.func29, by kernel_rfl, rfl⟩
theorem fi30 : FnI Try.prog 30 Try.f30 := ⟨Try.func30, by kernel_rfl, rfl⟩
theorem fi31 : FnI Try.prog 31 Try.f31 := ⟨Try.func31, by kernel_rfl, rfl⟩
theorem fi32 : FnI Try.prog 32 Try.f32 := ⟨Try.func32, by kernel_rfl, rfl⟩
theorem fi33 : FnI Try.prog 33 Try.f33 := ⟨Try.func33, by kernel_rfl, rfl⟩
theorem fi34 : FnI Try.prog 34 Try.f34 := ⟨Try.func34, by kernel_rfl, rfl⟩
theorem fi35 : FnI Try.prog 35 Try.f35 := ⟨Try.func35, by kernel_rfl, rfl⟩
theorem fi36 : FnI Try.prog 36 Try.f36 := ⟨Try.func36, by kernel_rfl, rfl⟩
theorem fi37 : FnI Try.prog 37 Try.f37 := ⟨Try.func37, by kernel_rfl, rfl⟩
theorem fi38 : FnI Try.prog 38 Try.f38 := ⟨Try.func38, by kernel_rfl, rfl⟩
theorem fi39 : FnI Try.prog 39 Try.f39 := ⟨Try.func39, by kernel_rfl, rfl⟩
theorem fi40 : FnI Try.prog 40 Try.f40 := ⟨Try.func40, by kernel_rfl, rfl⟩
theorem fi41 : FnI Try.prog 41 Try.f41 := ⟨Try.func41, by kernel_rfl, rfl⟩
theorem fi42 : FnI Try.prog 42 Try.f42 := ⟨Try.func42, by kernel_rfl, rfl⟩
theorem fi43 : FnI Try.prog 43 Try.f43 := ⟨Try.func43, by kernel_rfl, rfl⟩
theorem fi44 : FnI Try.prog 44 Try.f44 := ⟨Try.func44, by kernel_rfl, rfl⟩
theorem fi45 : FnI Try.prog 45 Try.f45 := ⟨Try.func45, by kernel_rfl, rfl⟩
theorem fi46 : FnI Try.prog 46 Try.f46 := ⟨Try.func46, by kernel_rfl, rfl⟩
theorem fi47 : FnI Try.prog 47 Try.f47 := ⟨Try.func47, by kernel_rfl, rfl⟩
theorem fi48 : FnI Try.prog 48 Try.f48 := ⟨Try.func48, by kernel_rfl, rfl⟩
theorem fi49 : FnI Try.prog 49 Try.f49 := ⟨Try.func49, by kernel_rfl, rfl⟩
theorem fi50 : FnI Try.prog 50 Try.f50 := ⟨Try.func50, by kernel_rfl, rfl⟩
theorem fi51 : FnI Try.prog 51 Try.f51 := ⟨Try.func51, by kernel_rfl, rfl⟩
theorem fi52 : FnI Try.prog 52 Try.f52 := ⟨Try.func52, by kernel_rfl, rfl⟩
theorem fi53 : FnI Try.prog 53 Try.f53 := ⟨Try.func53, by kernel_rfl, rfl⟩
theorem fi54 : FnI Try.prog 54 Try.f54 := ⟨Try.func54, by kernel_rfl, rfl⟩
theorem fi55 : FnI Try.prog 55 Try.f55 := ⟨Try.func55, by kernel_rfl, rfl⟩
theorem fi56 : FnI Try.prog 56 Try.f56 := ⟨Try.func56, by kernel_rfl, rfl⟩
theorem fi57 : FnI Try.prog 57 Try.f57 := ⟨Try.func57, by kernel_rfl, rfl⟩
theorem fi58 : FnI Try.prog 58 Try.f58 := ⟨Try.func58, by kernel_rfl, rfl⟩
theorem fi59 : FnI Try.prog 59 Try.f59 := ⟨Try.func59, by kernel_rfl, rfl⟩
theorem fi60 : FnI Try.prog 60 Try.f60 := ⟨Try.func60, by kernel_rfl, rfl⟩
theorem fi61 : FnI Try.prog 61 Try.f61 := ⟨Try.func61, by kernel_rfl, rfl⟩
theorem fi62 : FnI Try.prog 62 Try.f62 := ⟨Try.func62, by kernel_rfl, rfl⟩
theorem fi63 : FnI Try.prog 63 Try.f63 := ⟨Try.func63, by kernel_rfl, rfl⟩
theorem fi64 : FnI Try.prog 64 Try.f64 := ⟨Try.func64, by kernel_rfl, rfl⟩
theorem fi65 : FnI Try.prog 65 Try.f65 := ⟨Try.func65, by kernel_rfl, rfl⟩
theorem fi66 : FnI Try.prog 66 Try.f66 := ⟨Try.func66, by kernel_rfl, rfl⟩
theorem fi67 : FnI Try.prog 67 Try.f67 := ⟨Try.func67, by kernel_rfl, rfl⟩
theorem fi68 : FnI Try.prog 68 Try.f68 := ⟨Try.func68, by kernel_rfl, rfl⟩
theorem fi69 : FnI Try.prog 69 Try.f69 := ⟨Try.func69, by kernel_rfl, rfl⟩
theorem fi70 : FnI Try.prog 70 Try.f70 := ⟨Try.func70, by kernel_rfl, rfl⟩
theorem fi71 : FnI Try.prog 71 Try.f71 := ⟨Try.func71, by kernel_rfl, rfl⟩
theorem fi72 : FnI Try.prog 72 Try.f72 := ⟨Try.func72, by kernel_rfl, rfl⟩
theorem fi73 : FnI Try.prog 73 Try.f73 := ⟨Try.func73, by kernel_rfl, rfl⟩
theorem fi74 : FnI Try.prog 74 Try.f74 := ⟨Try.func74, by kernel_rfl, rfl⟩
theorem fi75 : FnI Try.prog 75 Try.f75 := ⟨Try.func75, by kernel_rfl, rfl⟩
theorem fi76 : FnI Try.prog 76 Try.f76 := ⟨Try.func76, by kernel_rfl, rfl⟩
theorem fi77 : FnI Try.prog 77 Try.f77 := ⟨Try.func77, by kernel_rfl, rfl⟩
theorem fi78 : FnI Try.prog 78 Try.f78 := ⟨Try.func78, by kernel_rfl, rfl⟩
theorem fi79 : FnI Try.prog 79 Try.f79 := ⟨Try.func79, by kernel_rfl, rfl⟩
theorem fi80 : FnI Try.prog 80 Try.f80 := ⟨Try.func80, by kernel_rfl, rfl⟩
theorem fi81 : FnI Try.prog 81 Try.f81 := ⟨Try.func81, by kernel_rfl, rfl⟩
theorem fi82 : FnI Try.prog 82 Try.f82 := ⟨Try.func82, by kernel_rfl, rfl⟩
theorem fi83 : FnI Try.prog 83 Try.f83 := ⟨Try.func83, by kernel_rfl, rfl⟩
theorem fi84 : FnI Try.prog 84 Try.f84 := ⟨Try.func84, by kernel_rfl, rfl⟩
theorem fi85 : FnI Try.prog 85 Try.f85 := ⟨Try.func85, by kernel_rfl, rfl⟩
theorem fi86 : FnI Try.prog 86 Try.f86 := ⟨Try.func86, by kernel_rfl, rfl⟩
theorem fi87 : FnI Try.prog 87 Try.f87 := ⟨Try.func87, by kernel_rfl, rfl⟩
theorem fi88 : FnI Try.prog 88 Try.f88 := ⟨Try.func88, by kernel_rfl, rfl⟩
theorem fi89 : FnI Try.prog 89 Try.f89 := ⟨Try.func89, by kernel_rfl, rfl⟩
theorem fi90 : FnI Try.prog 90 Try.f90 := ⟨Try.func90, by kernel_rfl, rfl⟩
theorem fi91 : FnI Try.prog 91 Try.f91 := ⟨Try.func91, by kernel_rfl, rfl⟩
theorem fi92 : FnI Try.prog 92 Try.f92 := ⟨Try.func92, by kernel_rfl, rfl⟩
theorem fi93 : FnI Try.prog 93 Try.f93 := ⟨Try.func93, by kernel_rfl, rfl⟩
theorem fi94 : FnI Try.prog 94 Try.f94 := ⟨Try.func94, by kernel_rfl, rfl⟩
theorem fi95 : FnI Try.prog 95 Try.f95 := ⟨Try.func95, by kernel_rfl, rfl⟩
theorem fi96 : FnI Try.prog 96 Try.f96 := ⟨Try.func96, by kernel_rfl, rfl⟩
theorem fi97 : FnI Try.prog 97 Try.f97 := ⟨Try.func97, by kernel_rfl, rfl⟩
theorem fi98 : FnI Try.prog 98 Try.f98 := ⟨Try.func98, by kernel_rfl, rfl⟩
theorem fi99 : FnI Try.prog 99 Try.f99 := ⟨Try.func99, by kernel_rfl, rfl⟩
theorem fi100 : FnI Try.prog 100 Try.f100 := ⟨Try.func100, by kernel_rfl, rfl⟩
theorem fi101 : FnI Try.prog 101 Try.f101 := ⟨Try.func101, by kernel_rfl, rfl⟩
theorem fi102 : FnI Try.prog 102 Try.f102 := ⟨Try.func102, by kernel_rfl, rfl⟩
theorem fi103 : FnI Try.prog 103 Try.f103 := ⟨Try.func103, by kernel_rfl, rfl⟩
theorem fi104 : FnI Try.prog 104 Try.f104 := ⟨Try.func104, by kernel_rfl, rfl⟩
theorem fi105 : FnI Try.prog 105 Try.f105 := ⟨Try.func105, by kernel_rfl, rfl⟩
theorem fi106 : FnI Try.prog 106 Try.f106 := ⟨Try.func106, by kernel_rfl, rfl⟩
theorem fi107 : FnI Try.prog 107 Try.f107 := ⟨Try.func107, by kernel_rfl, rfl⟩
theorem fi108 : FnI Try.prog 108 Try.f108 := ⟨Try.func108, by kernel_rfl, rfl⟩
theorem fi109 : FnI Try.prog 109 Try.f109 := ⟨Try.func109, by kernel_rfl, rfl⟩
theorem fi110 : FnI Try.prog 110 Try.f110 := ⟨Try.func110, by kernel_rfl, rfl⟩
theorem fi111 : FnI Try.prog 111 Try.f111 := ⟨Try.func111, by kernel_rfl, rfl⟩
theorem fi112 : FnI Try.prog 112 Try.f112 := ⟨Try.func112, by kernel_rfl, rfl⟩
theorem fi113 : FnI Try.prog 113 Try.f113 := ⟨Try.func113, by kernel_rfl, rfl⟩
theorem fi114 : FnI Try.prog 114 Try.f114 := ⟨Try.func114, by kernel_rfl, rfl⟩
theorem fi115 : FnI Try.prog 115 Try.f115 := ⟨Try.func115, by kernel_rfl, rfl⟩
theorem fi116 : FnI Try.prog 116 Try.f116 := ⟨Try.func116, by kernel_rfl, rfl⟩
theorem fi117 : FnI Try.prog 117 Try.f117 := ⟨Try.func117, by kernel_rfl, rfl⟩
theorem fi118 : FnI Try.prog 118 Try.f118 := ⟨Try.func118, by kernel_rfl, rfl⟩
theorem fi119 : FnI Try.prog 119 Try.f119 := ⟨Try.func119, by kernel_rfl, rfl⟩
theorem fi120 : FnI Try.prog 120 Try.f120 := ⟨Try.func120, by kernel_rfl, rfl⟩
theorem fi121 : FnI Try.prog 121 Try.f121 := ⟨Try.func121, by kernel_rfl, rfl⟩
theorem fi122 : FnI Try.prog 122 Try.f122 := ⟨Try.func122, by kernel_rfl, rfl⟩
theorem fi123 : FnI Try.prog 123 Try.f123 := ⟨Try.func123, by kernel_rfl, rfl⟩
theorem fi124 : FnI Try.prog 124 Try.f124 := ⟨Try.func124, by kernel_rfl, rfl⟩
end Go.Proofs.Ytgipbhfblmblcaa
