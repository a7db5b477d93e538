/- What the loaded program's tables say of its types and functions, each a closed fact. -/
import Derived.Test.YtobigfbgaiglkaaAmB
import Derived.Test.YtobigfbgaiglkaaProg
import Derived.KernelRfl
namespace Go.Proofs.Ytobigfbgaiglkaa
open Go.Proofs.Ytobigfbgaiglkaa.AM
def fsOf (P : Program) (T : TypeId) : Array Go.Field := match P.underlying T with
  | some (.struct fs) => fs
  | _ => #[]
theorem ty2 : TyI Try.prog 2 (.int .i64) 1 (some (.int .i64 0)) 8 := ⟨by kernel_rfl, by kernel_rfl⟩
theorem ty3 : TyI Try.prog 3 (.int .i64) 1 (some (.int .i64 0)) 8 := ⟨by kernel_rfl, by kernel_rfl⟩
theorem ty4 : TyI Try.prog 4 .bool 1 (some (.bool false)) 1 := ⟨by kernel_rfl, by kernel_rfl⟩
theorem ty5 : TyI Try.prog 5 (.int .u8) 1 (some (.int .u8 0)) 1 := ⟨by kernel_rfl, by kernel_rfl⟩
theorem ty6 : TyI Try.prog 6 (.int .u8) 1 (some (.int .u8 0)) 1 := ⟨by kernel_rfl, by kernel_rfl⟩
theorem ty7 : TyI Try.prog 7 (.struct (fsOf Try.prog 7)) 4 (some (.agg #[(.int .i64 0), (.int .i64 0), (.bool false), (.int .u8 0)])) 24 := ⟨by kernel_rfl, by kernel_rfl⟩
theorem fo7_0 : ((fsOf Try.prog 7)[0]?).map (fun x => (x.offset, x.type)) = some (0, 2) := by kernel_rfl
theorem fo7_1 : ((fsOf Try.prog 7)[1]?).map (fun x => (x.offset, x.type)) = some (1, 3) := by kernel_rfl
theorem fo7_2 : ((fsOf Try.prog 7)[2]?).map (fun x => (x.offset, x.type)) = some (2, 4) := by kernel_rfl
theorem fo7_3 : ((fsOf Try.prog 7)[3]?).map (fun x => (x.offset, x.type)) = some (3, 6) := by kernel_rfl
theorem pl7 : Places Try.prog (fsOf Try.prog 7) #[(0, 1), (1, 1), (2, 1), (3, 1)] := fun w => by kernel_rfl
theorem ty8 : TyI Try.prog 8 (.struct (fsOf Try.prog 8)) 4 (some (.agg #[(.int .i64 0), (.int .i64 0), (.bool false), (.int .u8 0)])) 24 := ⟨by kernel_rfl, by kernel_rfl⟩
theorem fo8_0 : ((fsOf Try.prog 8)[0]?).map (fun x => (x.offset, x.type)) = some (0, 2) := by kernel_rfl
theorem fo8_1 : ((fsOf Try.prog 8)[1]?).map (fun x => (x.offset, x.type)) = some (1, 3) := by kernel_rfl
theorem fo8_2 : ((fsOf Try.prog 8)[2]?).map (fun x => (x.offset, x.type)) = some (2, 4) := by kernel_rfl
theorem fo8_3 : ((fsOf Try.prog 8)[3]?).map (fun x => (x.offset, x.type)) = some (3, 6) := by kernel_rfl
theorem pl8 : Places Try.prog (fsOf Try.prog 8) #[(0, 1), (1, 1), (2, 1), (3, 1)] := fun w => by kernel_rfl
theorem ty9 : TyI Try.prog 9 .string 1 (some (.string ⟨#[]⟩)) 16 := ⟨by kernel_rfl, by kernel_rfl⟩
theorem ty10 : TyI Try.prog 10 .string 1 (some (.string ⟨#[]⟩)) 16 := ⟨by kernel_rfl, by kernel_rfl⟩
theorem ty11 : TyI Try.prog 11 .string 1 (some (.string ⟨#[]⟩)) 16 := ⟨by kernel_rfl, by kernel_rfl⟩
theorem ty12 : TyI Try.prog 12 (.int .u64) 1 (some (.int .u64 0)) 8 := ⟨by kernel_rfl, by kernel_rfl⟩
theorem ty13 : TyI Try.prog 13 (.struct (fsOf Try.prog 13)) 2 (some (.agg #[(.string ⟨#[]⟩), (.int .u64 0)])) 24 := ⟨by kernel_rfl, by kernel_rfl⟩
theorem fo13_0 : ((fsOf Try.prog 13)[0]?).map (fun x => (x.offset, x.type)) = some (0, 9) := by kernel_rfl
theorem fo13_1 : ((fsOf Try.prog 13)[1]?).map (fun x => (x.offset, x.type)) = some (1, 12) := by kernel_rfl
theorem pl13 : Places Try.prog (fsOf Try.prog 13) #[(0, 1), (1, 1)] := fun w => by kernel_rfl
theorem ty14 : TyI Try.prog 14 (.struct (fsOf Try.prog 14)) 2 (some (.agg #[(.string ⟨#[]⟩), (.int .u64 0)])) 24 := ⟨by kernel_rfl, by kernel_rfl⟩
theorem fo14_0 : ((fsOf Try.prog 14)[0]?).map (fun x => (x.offset, x.type)) = some (0, 9) := by kernel_rfl
theorem fo14_1 : ((fsOf Try.prog 14)[1]?).map (fun x => (x.offset, x.type)) = some (1, 12) := by kernel_rfl
theorem pl14 : Places Try.prog (fsOf Try.prog 14) #[(0, 1), (1, 1)] := fun w => by kernel_rfl
theorem ty15 : TyI Try.prog 15 (.pointer 227) 1 (some (.pointer none)) 8 := ⟨by kernel_rfl, by kernel_rfl⟩
theorem ty16 : TyI Try.prog 16 (.pointer 230) 1 (some (.pointer none)) 8 := ⟨by kernel_rfl, by kernel_rfl⟩
theorem ty17 : TyI Try.prog 17 (.pointer 238) 1 (some (.pointer none)) 8 := ⟨by kernel_rfl, by kernel_rfl⟩
theorem ty18 : TyI Try.prog 18 (.struct (fsOf Try.prog 18)) 1 (some (.agg #[(.pointer none)])) 8 := ⟨by kernel_rfl, by kernel_rfl⟩
theorem fo18_0 : ((fsOf Try.prog 18)[0]?).map (fun x => (x.offset, x.type)) = some (0, 17) := by kernel_rfl
theorem pl18 : Places Try.prog (fsOf Try.prog 18) #[(0, 1)] := fun w => by kernel_rfl
theorem ty19 : TyI Try.prog 19 (.struct (fsOf Try.prog 19)) 1 (some (.agg #[(.pointer none)])) 8 := ⟨by kernel_rfl, by kernel_rfl⟩
theorem fo19_0 : ((fsOf Try.prog 19)[0]?).map (fun x => (x.offset, x.type)) = some (0, 17) := by kernel_rfl
theorem pl19 : Places Try.prog (fsOf Try.prog 19) #[(0, 1)] := fun w => by kernel_rfl
theorem ty21 : TyI Try.prog 21 (.int .i32) 1 (some (.int .i32 0)) 4 := ⟨by kernel_rfl, by kernel_rfl⟩
theorem ty22 : TyI Try.prog 22 (.slice 28) 1 (some (.slice none 0 0)) 24 := ⟨by kernel_rfl, by kernel_rfl⟩
theorem ty24 : TyI Try.prog 24 (.pointer 119) 1 (some (.pointer none)) 8 := ⟨by kernel_rfl, by kernel_rfl⟩
theorem ty26 : TyI Try.prog 26 (.slice 32) 1 (some (.slice none 0 0)) 24 := ⟨by kernel_rfl, by kernel_rfl⟩
theorem ty27 : TyI Try.prog 27 (.struct (fsOf Try.prog 27)) 4 (some (.agg #[(.int .i64 0), (.int .i64 0), (.int .i64 0), (.int .i64 0)])) 32 := ⟨by kernel_rfl, by kernel_rfl⟩
theorem st27 : intFields Try.prog 27 = true := by kernel_rfl
theorem st27l : (fsOf Try.prog 27).toList.length = 4 := by kernel_rfl
theorem fo27_0 : ((fsOf Try.prog 27)[0]?).map (fun x => (x.offset, x.type)) = some (0, 3) := by kernel_rfl
theorem fo27_1 : ((fsOf Try.prog 27)[1]?).map (fun x => (x.offset, x.type)) = some (1, 3) := by kernel_rfl
theorem fo27_2 : ((fsOf Try.prog 27)[2]?).map (fun x => (x.offset, x.type)) = some (2, 3) := by kernel_rfl
theorem fo27_3 : ((fsOf Try.prog 27)[3]?).map (fun x => (x.offset, x.type)) = some (3, 3) := by kernel_rfl
theorem pl27 : Places Try.prog (fsOf Try.prog 27) #[(0, 1), (1, 1), (2, 1), (3, 1)] := fun w => by kernel_rfl
theorem ty28 : TyI Try.prog 28 (.struct (fsOf Try.prog 28)) 4 (some (.agg #[(.int .i64 0), (.int .i64 0), (.int .i64 0), (.int .i64 0)])) 32 := ⟨by kernel_rfl, by kernel_rfl⟩
theorem st28 : intFields Try.prog 28 = true := by kernel_rfl
theorem st28l : (fsOf Try.prog 28).toList.length = 4 := by kernel_rfl
theorem fo28_0 : ((fsOf Try.prog 28)[0]?).map (fun x => (x.offset, x.type)) = some (0, 3) := by kernel_rfl
theorem fo28_1 : ((fsOf Try.prog 28)[1]?).map (fun x => (x.offset, x.type)) = some (1, 3) := by kernel_rfl
theorem fo28_2 : ((fsOf Try.prog 28)[2]?).map (fun x => (x.offset, x.type)) = some (2, 3) := by kernel_rfl
theorem fo28_3 : ((fsOf Try.prog 28)[3]?).map (fun x => (x.offset, x.type)) = some (3, 3) := by kernel_rfl
theorem pl28 : Places Try.prog (fsOf Try.prog 28) #[(0, 1), (1, 1), (2, 1), (3, 1)] := fun w => by kernel_rfl
theorem ty31 : TyI Try.prog 31 (.struct (fsOf Try.prog 31)) 3 (some (.agg #[(.int .i64 0), (.int .i64 0), (.int .i64 0)])) 24 := ⟨by kernel_rfl, by kernel_rfl⟩
theorem st31 : intFields Try.prog 31 = true := by kernel_rfl
theorem st31l : (fsOf Try.prog 31).toList.length = 3 := by kernel_rfl
theorem fo31_0 : ((fsOf Try.prog 31)[0]?).map (fun x => (x.offset, x.type)) = some (0, 3) := by kernel_rfl
theorem fo31_1 : ((fsOf Try.prog 31)[1]?).map (fun x => (x.offset, x.type)) = some (1, 3) := by kernel_rfl
theorem fo31_2 : ((fsOf Try.prog 31)[2]?).map (fun x => (x.offset, x.type)) = some (2, 3) := by kernel_rfl
theorem pl31 : Places Try.prog (fsOf Try.prog 31) #[(0, 1), (1, 1), (2, 1)] := fun w => by kernel_rfl
theorem ty32 : TyI Try.prog 32 (.struct (fsOf Try.prog 32)) 3 (some (.agg #[(.int .i64 0), (.int .i64 0), (.int .i64 0)])) 24 := ⟨by kernel_rfl, by kernel_rfl⟩
theorem st32 : intFields Try.prog 32 = true := by kernel_rfl
theorem st32l : (fsOf Try.prog 32).toList.length = 3 := by kernel_rfl
theorem fo32_0 : ((fsOf Try.prog 32)[0]?).map (fun x => (x.offset, x.type)) = some (0, 3) := by kernel_rfl
theorem fo32_1 : ((fsOf Try.prog 32)[1]?).map (fun x => (x.offset, x.type)) = some (1, 3) := by kernel_rfl
theorem fo32_2 : ((fsOf Try.prog 32)[2]?).map (fun x => (x.offset, x.type)) = some (2, 3) := by kernel_rfl
theorem pl32 : Places Try.prog (fsOf Try.prog 32) #[(0, 1), (1, 1), (2, 1)] := fun w => by kernel_rfl
theorem ty41 : TyI Try.prog 41 (.slice 3) 1 (some (.slice none 0 0)) 24 := ⟨by kernel_rfl, by kernel_rfl⟩
theorem ty43 : TyI Try.prog 43 (.slice 41) 1 (some (.slice none 0 0)) 24 := ⟨by kernel_rfl, by kernel_rfl⟩
theorem ty44 : TyI Try.prog 44 (.pointer 125) 1 (some (.pointer none)) 8 := ⟨by kernel_rfl, by kernel_rfl⟩
theorem ty46 : TyI Try.prog 46 (.pointer 127) 1 (some (.pointer none)) 8 := ⟨by kernel_rfl, by kernel_rfl⟩
theorem ty60 : TyI Try.prog 60 (.slice 66) 1 (some (.slice none 0 0)) 24 := ⟨by kernel_rfl, by kernel_rfl⟩
theorem ty61 : TyI Try.prog 61 (.pointer 138) 1 (some (.pointer none)) 8 := ⟨by kernel_rfl, by kernel_rfl⟩
theorem ty63 : TyI Try.prog 63 (.slice 72) 1 (some (.slice none 0 0)) 24 := ⟨by kernel_rfl, by kernel_rfl⟩
theorem ty64 : TyI Try.prog 64 (.slice 135) 1 (some (.slice none 0 0)) 24 := ⟨by kernel_rfl, by kernel_rfl⟩
theorem ty65 : TyI Try.prog 65 (.struct (fsOf Try.prog 65)) 5 (some (.agg #[(.int .i64 0), (.int .i64 0), (.int .i64 0), (.int .i64 0), (.slice none 0 0)])) 56 := ⟨by kernel_rfl, by kernel_rfl⟩
theorem fo65_0 : ((fsOf Try.prog 65)[0]?).map (fun x => (x.offset, x.type)) = some (0, 3) := by kernel_rfl
theorem fo65_1 : ((fsOf Try.prog 65)[1]?).map (fun x => (x.offset, x.type)) = some (1, 3) := by kernel_rfl
theorem fo65_2 : ((fsOf Try.prog 65)[2]?).map (fun x => (x.offset, x.type)) = some (2, 3) := by kernel_rfl
theorem fo65_3 : ((fsOf Try.prog 65)[3]?).map (fun x => (x.offset, x.type)) = some (3, 3) := by kernel_rfl
theorem fo65_4 : ((fsOf Try.prog 65)[4]?).map (fun x => (x.offset, x.type)) = some (4, 64) := by kernel_rfl
theorem pl65 : Places Try.prog (fsOf Try.prog 65) #[(0, 1), (1, 1), (2, 1), (3, 1), (4, 1)] := fun w => by kernel_rfl
theorem ty66 : TyI Try.prog 66 (.struct (fsOf Try.prog 66)) 5 (some (.agg #[(.int .i64 0), (.int .i64 0), (.int .i64 0), (.int .i64 0), (.slice none 0 0)])) 56 := ⟨by kernel_rfl, by kernel_rfl⟩
theorem fo66_0 : ((fsOf Try.prog 66)[0]?).map (fun x => (x.offset, x.type)) = some (0, 3) := by kernel_rfl
theorem fo66_1 : ((fsOf Try.prog 66)[1]?).map (fun x => (x.offset, x.type)) = some (1, 3) := by kernel_rfl
theorem fo66_2 : ((fsOf Try.prog 66)[2]?).map (fun x => (x.offset, x.type)) = some (2, 3) := by kernel_rfl
theorem fo66_3 : ((fsOf Try.prog 66)[3]?).map (fun x => (x.offset, x.type)) = some (3, 3) := by kernel_rfl
theorem fo66_4 : ((fsOf Try.prog 66)[4]?).map (fun x => (x.offset, x.type)) = some (4, 64) := by kernel_rfl
theorem pl66 : Places Try.prog (fsOf Try.prog 66) #[(0, 1), (1, 1), (2, 1), (3, 1), (4, 1)] := fun w => by kernel_rfl
theorem ty68 : TyI Try.prog 68 (.struct (fsOf Try.prog 68)) 2 (some (.agg #[(.int .i64 0), (.slice none 0 0)])) 32 := ⟨by kernel_rfl, by kernel_rfl⟩
theorem fo68_0 : ((fsOf Try.prog 68)[0]?).map (fun x => (x.offset, x.type)) = some (0, 3) := by kernel_rfl
theorem fo68_1 : ((fsOf Try.prog 68)[1]?).map (fun x => (x.offset, x.type)) = some (1, 64) := by kernel_rfl
theorem pl68 : Places Try.prog (fsOf Try.prog 68) #[(0, 1), (1, 1)] := fun w => by kernel_rfl
theorem ty69 : TyI Try.prog 69 (.struct (fsOf Try.prog 69)) 2 (some (.agg #[(.int .i64 0), (.slice none 0 0)])) 32 := ⟨by kernel_rfl, by kernel_rfl⟩
theorem fo69_0 : ((fsOf Try.prog 69)[0]?).map (fun x => (x.offset, x.type)) = some (0, 3) := by kernel_rfl
theorem fo69_1 : ((fsOf Try.prog 69)[1]?).map (fun x => (x.offset, x.type)) = some (1, 64) := by kernel_rfl
theorem pl69 : Places Try.prog (fsOf Try.prog 69) #[(0, 1), (1, 1)] := fun w => by kernel_rfl
theorem ty70 : TyI Try.prog 70 (.slice 69) 1 (some (.slice none 0 0)) 24 := ⟨by kernel_rfl, by kernel_rfl⟩
theorem ty71 : TyI Try.prog 71 (.struct (fsOf Try.prog 71)) 4 (some (.agg #[(.int .i64 0), (.int .i64 0), (.slice none 0 0), (.slice none 0 0)])) 64 := ⟨by kernel_rfl, by kernel_rfl⟩
theorem fo71_0 : ((fsOf Try.prog 71)[0]?).map (fun x => (x.offset, x.type)) = some (0, 3) := by kernel_rfl
theorem fo71_1 : ((fsOf Try.prog 71)[1]?).map (fun x => (x.offset, x.type)) = some (1, 69) := by kernel_rfl
theorem fo71_2 : ((fsOf Try.prog 71)[2]?).map (fun x => (x.offset, x.type)) = some (3, 70) := by kernel_rfl
theorem pl71 : Places Try.prog (fsOf Try.prog 71) #[(0, 1), (1, 2), (3, 1)] := fun w => by kernel_rfl
theorem ty72 : TyI Try.prog 72 (.struct (fsOf Try.prog 72)) 4 (some (.agg #[(.int .i64 0), (.int .i64 0), (.slice none 0 0), (.slice none 0 0)])) 64 := ⟨by kernel_rfl, by kernel_rfl⟩
theorem fo72_0 : ((fsOf Try.prog 72)[0]?).map (fun x => (x.offset, x.type)) = some (0, 3) := by kernel_rfl
theorem fo72_1 : ((fsOf Try.prog 72)[1]?).map (fun x => (x.offset, x.type)) = some (1, 69) := by kernel_rfl
theorem fo72_2 : ((fsOf Try.prog 72)[2]?).map (fun x => (x.offset, x.type)) = some (3, 70) := by kernel_rfl
theorem pl72 : Places Try.prog (fsOf Try.prog 72) #[(0, 1), (1, 2), (3, 1)] := fun w => by kernel_rfl
theorem ty78 : TyI Try.prog 78 (.slice 83) 1 (some (.slice none 0 0)) 24 := ⟨by kernel_rfl, by kernel_rfl⟩
theorem ty79 : TyI Try.prog 79 (.pointer 161) 1 (some (.pointer none)) 8 := ⟨by kernel_rfl, by kernel_rfl⟩
theorem ty81 : TyI Try.prog 81 (.slice 85) 1 (some (.slice none 0 0)) 24 := ⟨by kernel_rfl, by kernel_rfl⟩
theorem ty82 : TyI Try.prog 82 (.struct (fsOf Try.prog 82)) 5 (some (.agg #[(.int .i64 0), (.int .i64 0), (.int .i64 0), (.int .i64 0), (.slice none 0 0)])) 56 := ⟨by kernel_rfl, by kernel_rfl⟩
theorem fo82_0 : ((fsOf Try.prog 82)[0]?).map (fun x => (x.offset, x.type)) = some (0, 3) := by kernel_rfl
theorem fo82_1 : ((fsOf Try.prog 82)[1]?).map (fun x => (x.offset, x.type)) = some (1, 3) := by kernel_rfl
theorem fo82_2 : ((fsOf Try.prog 82)[2]?).map (fun x => (x.offset, x.type)) = some (2, 3) := by kernel_rfl
theorem fo82_3 : ((fsOf Try.prog 82)[3]?).map (fun x => (x.offset, x.type)) = some (3, 3) := by kernel_rfl
theorem fo82_4 : ((fsOf Try.prog 82)[4]?).map (fun x => (x.offset, x.type)) = some (4, 64) := by kernel_rfl
theorem pl82 : Places Try.prog (fsOf Try.prog 82) #[(0, 1), (1, 1), (2, 1), (3, 1), (4, 1)] := fun w => by kernel_rfl
theorem ty83 : TyI Try.prog 83 (.struct (fsOf Try.prog 83)) 5 (some (.agg #[(.int .i64 0), (.int .i64 0), (.int .i64 0), (.int .i64 0), (.slice none 0 0)])) 56 := ⟨by kernel_rfl, by kernel_rfl⟩
theorem fo83_0 : ((fsOf Try.prog 83)[0]?).map (fun x => (x.offset, x.type)) = some (0, 3) := by kernel_rfl
theorem fo83_1 : ((fsOf Try.prog 83)[1]?).map (fun x => (x.offset, x.type)) = some (1, 3) := by kernel_rfl
theorem fo83_2 : ((fsOf Try.prog 83)[2]?).map (fun x => (x.offset, x.type)) = some (2, 3) := by kernel_rfl
theorem fo83_3 : ((fsOf Try.prog 83)[3]?).map (fun x => (x.offset, x.type)) = some (3, 3) := by kernel_rfl
theorem fo83_4 : ((fsOf Try.prog 83)[4]?).map (fun x => (x.offset, x.type)) = some (4, 64) := by kernel_rfl
theorem pl83 : Places Try.prog (fsOf Try.prog 83) #[(0, 1), (1, 1), (2, 1), (3, 1), (4, 1)] := fun w => by kernel_rfl
theorem ty84 : TyI Try.prog 84 (.struct (fsOf Try.prog 84)) 3 (some (.agg #[(.bool false), (.int .i64 0), (.slice none 0 0)])) 40 := ⟨by kernel_rfl, by kernel_rfl⟩
theorem fo84_0 : ((fsOf Try.prog 84)[0]?).map (fun x => (x.offset, x.type)) = some (0, 4) := by kernel_rfl
theorem fo84_1 : ((fsOf Try.prog 84)[1]?).map (fun x => (x.offset, x.type)) = some (1, 3) := by kernel_rfl
theorem fo84_2 : ((fsOf Try.prog 84)[2]?).map (fun x => (x.offset, x.type)) = some (2, 70) := by kernel_rfl
theorem pl84 : Places Try.prog (fsOf Try.prog 84) #[(0, 1), (1, 1), (2, 1)] := fun w => by kernel_rfl
theorem ty85 : TyI Try.prog 85 (.struct (fsOf Try.prog 85)) 3 (some (.agg #[(.bool false), (.int .i64 0), (.slice none 0 0)])) 40 := ⟨by kernel_rfl, by kernel_rfl⟩
theorem fo85_0 : ((fsOf Try.prog 85)[0]?).map (fun x => (x.offset, x.type)) = some (0, 4) := by kernel_rfl
theorem fo85_1 : ((fsOf Try.prog 85)[1]?).map (fun x => (x.offset, x.type)) = some (1, 3) := by kernel_rfl
theorem fo85_2 : ((fsOf Try.prog 85)[2]?).map (fun x => (x.offset, x.type)) = some (2, 70) := by kernel_rfl
theorem pl85 : Places Try.prog (fsOf Try.prog 85) #[(0, 1), (1, 1), (2, 1)] := fun w => by kernel_rfl
theorem ty92 : TyI Try.prog 92 (.slice 96) 1 (some (.slice none 0 0)) 24 := ⟨by kernel_rfl, by kernel_rfl⟩
theorem ty93 : TyI Try.prog 93 (.slice 99) 1 (some (.slice none 0 0)) 24 := ⟨by kernel_rfl, by kernel_rfl⟩
theorem ty94 : TyI Try.prog 94 (.slice 101) 1 (some (.slice none 0 0)) 24 := ⟨by kernel_rfl, by kernel_rfl⟩
theorem ty95 : TyI Try.prog 95 (.struct (fsOf Try.prog 95)) 3 (some (.agg #[(.int .i64 0), (.int .i64 0), (.slice none 0 0)])) 40 := ⟨by kernel_rfl, by kernel_rfl⟩
theorem fo95_0 : ((fsOf Try.prog 95)[0]?).map (fun x => (x.offset, x.type)) = some (0, 3) := by kernel_rfl
theorem fo95_1 : ((fsOf Try.prog 95)[1]?).map (fun x => (x.offset, x.type)) = some (1, 3) := by kernel_rfl
theorem fo95_2 : ((fsOf Try.prog 95)[2]?).map (fun x => (x.offset, x.type)) = some (2, 64) := by kernel_rfl
theorem pl95 : Places Try.prog (fsOf Try.prog 95) #[(0, 1), (1, 1), (2, 1)] := fun w => by kernel_rfl
theorem ty96 : TyI Try.prog 96 (.struct (fsOf Try.prog 96)) 3 (some (.agg #[(.int .i64 0), (.int .i64 0), (.slice none 0 0)])) 40 := ⟨by kernel_rfl, by kernel_rfl⟩
theorem fo96_0 : ((fsOf Try.prog 96)[0]?).map (fun x => (x.offset, x.type)) = some (0, 3) := by kernel_rfl
theorem fo96_1 : ((fsOf Try.prog 96)[1]?).map (fun x => (x.offset, x.type)) = some (1, 3) := by kernel_rfl
theorem fo96_2 : ((fsOf Try.prog 96)[2]?).map (fun x => (x.offset, x.type)) = some (2, 64) := by kernel_rfl
theorem pl96 : Places Try.prog (fsOf Try.prog 96) #[(0, 1), (1, 1), (2, 1)] := fun w => by kernel_rfl
theorem ty98 : TyI Try.prog 98 (.struct (fsOf Try.prog 98)) 6 (some (.agg #[(.int .i64 0), (.int .i64 0), (.int .i64 0), (.slice none 0 0), (.slice none 0 0), (.slice none 0 0)])) 96 := ⟨by kernel_rfl, by kernel_rfl⟩
theorem fo98_0 : ((fsOf Try.prog 98)[0]?).map (fun x => (x.offset, x.type)) = some (0, 3) := by kernel_rfl
theorem fo98_1 : ((fsOf Try.prog 98)[1]?).map (fun x => (x.offset, x.type)) = some (1, 3) := by kernel_rfl
theorem fo98_2 : ((fsOf Try.prog 98)[2]?).map (fun x => (x.offset, x.type)) = some (2, 3) := by kernel_rfl
theorem fo98_3 : ((fsOf Try.prog 98)[3]?).map (fun x => (x.offset, x.type)) = some (3, 64) := by kernel_rfl
theorem fo98_4 : ((fsOf Try.prog 98)[4]?).map (fun x => (x.offset, x.type)) = some (4, 64) := by kernel_rfl
theorem fo98_5 : ((fsOf Try.prog 98)[5]?).map (fun x => (x.offset, x.type)) = some (5, 64) := by kernel_rfl
theorem pl98 : Places Try.prog (fsOf Try.prog 98) #[(0, 1), (1, 1), (2, 1), (3, 1), (4, 1), (5, 1)] := fun w => by kernel_rfl
theorem ty99 : TyI Try.prog 99 (.struct (fsOf Try.prog 99)) 6 (some (.agg #[(.int .i64 0), (.int .i64 0), (.int .i64 0), (.slice none 0 0), (.slice none 0 0), (.slice none 0 0)])) 96 := ⟨by kernel_rfl, by kernel_rfl⟩
theorem fo99_0 : ((fsOf Try.prog 99)[0]?).map (fun x => (x.offset, x.type)) = some (0, 3) := by kernel_rfl
theorem fo99_1 : ((fsOf Try.prog 99)[1]?).map (fun x => (x.offset, x.type)) = some (1, 3) := by kernel_rfl
theorem fo99_2 : ((fsOf Try.prog 99)[2]?).map (fun x => (x.offset, x.type)) = some (2, 3) := by kernel_rfl
theorem fo99_3 : ((fsOf Try.prog 99)[3]?).map (fun x => (x.offset, x.type)) = some (3, 64) := by kernel_rfl
theorem fo99_4 : ((fsOf Try.prog 99)[4]?).map (fun x => (x.offset, x.type)) = some (4, 64) := by kernel_rfl
theorem fo99_5 : ((fsOf Try.prog 99)[5]?).map (fun x => (x.offset, x.type)) = some (5, 64) := by kernel_rfl
theorem pl99 : Places Try.prog (fsOf Try.prog 99) #[(0, 1), (1, 1), (2, 1), (3, 1), (4, 1), (5, 1)] := fun w => by kernel_rfl
theorem ty100 : TyI Try.prog 100 (.struct (fsOf Try.prog 100)) 3 (some (.agg #[(.int .i64 0), (.int .i64 0), (.bool false)])) 24 := ⟨by kernel_rfl, by kernel_rfl⟩
theorem fo100_0 : ((fsOf Try.prog 100)[0]?).map (fun x => (x.offset, x.type)) = some (0, 3) := by kernel_rfl
theorem fo100_1 : ((fsOf Try.prog 100)[1]?).map (fun x => (x.offset, x.type)) = some (1, 3) := by kernel_rfl
theorem fo100_2 : ((fsOf Try.prog 100)[2]?).map (fun x => (x.offset, x.type)) = some (2, 4) := by kernel_rfl
theorem pl100 : Places Try.prog (fsOf Try.prog 100) #[(0, 1), (1, 1), (2, 1)] := fun w => by kernel_rfl
theorem ty101 : TyI Try.prog 101 (.struct (fsOf Try.prog 101)) 3 (some (.agg #[(.int .i64 0), (.int .i64 0), (.bool false)])) 24 := ⟨by kernel_rfl, by kernel_rfl⟩
theorem fo101_0 : ((fsOf Try.prog 101)[0]?).map (fun x => (x.offset, x.type)) = some (0, 3) := by kernel_rfl
theorem fo101_1 : ((fsOf Try.prog 101)[1]?).map (fun x => (x.offset, x.type)) = some (1, 3) := by kernel_rfl
theorem fo101_2 : ((fsOf Try.prog 101)[2]?).map (fun x => (x.offset, x.type)) = some (2, 4) := by kernel_rfl
theorem pl101 : Places Try.prog (fsOf Try.prog 101) #[(0, 1), (1, 1), (2, 1)] := fun w => by kernel_rfl
theorem ty103 : TyI Try.prog 103 (.slice 113) 1 (some (.slice none 0 0)) 24 := ⟨by kernel_rfl, by kernel_rfl⟩
theorem ty104 : TyI Try.prog 104 (.pointer 177) 1 (some (.pointer none)) 8 := ⟨by kernel_rfl, by kernel_rfl⟩
theorem ty106 : TyI Try.prog 106 (.struct (fsOf Try.prog 106)) 2 (some (.agg #[(.int .i64 0), (.int .i64 0)])) 16 := ⟨by kernel_rfl, by kernel_rfl⟩
theorem st106 : intFields Try.prog 106 = true := by kernel_rfl
theorem st106l : (fsOf Try.prog 106).toList.length = 2 := by kernel_rfl
theorem fo106_0 : ((fsOf Try.prog 106)[0]?).map (fun x => (x.offset, x.type)) = some (0, 3) := by kernel_rfl
theorem fo106_1 : ((fsOf Try.prog 106)[1]?).map (fun x => (x.offset, x.type)) = some (1, 3) := by kernel_rfl
theorem pl106 : Places Try.prog (fsOf Try.prog 106) #[(0, 1), (1, 1)] := fun w => by kernel_rfl
theorem ty107 : TyI Try.prog 107 (.struct (fsOf Try.prog 107)) 2 (some (.agg #[(.int .i64 0), (.int .i64 0)])) 16 := ⟨by kernel_rfl, by kernel_rfl⟩
theorem st107 : intFields Try.prog 107 = true := by kernel_rfl
theorem st107l : (fsOf Try.prog 107).toList.length = 2 := by kernel_rfl
theorem fo107_0 : ((fsOf Try.prog 107)[0]?).map (fun x => (x.offset, x.type)) = some (0, 3) := by kernel_rfl
theorem fo107_1 : ((fsOf Try.prog 107)[1]?).map (fun x => (x.offset, x.type)) = some (1, 3) := by kernel_rfl
theorem pl107 : Places Try.prog (fsOf Try.prog 107) #[(0, 1), (1, 1)] := fun w => by kernel_rfl
theorem ty108 : TyI Try.prog 108 (.struct (fsOf Try.prog 108)) 3 (some (.agg #[(.int .i64 0), (.int .i64 0), (.int .i64 0)])) 24 := ⟨by kernel_rfl, by kernel_rfl⟩
theorem fo108_0 : ((fsOf Try.prog 108)[0]?).map (fun x => (x.offset, x.type)) = some (0, 3) := by kernel_rfl
theorem fo108_1 : ((fsOf Try.prog 108)[1]?).map (fun x => (x.offset, x.type)) = some (1, 107) := by kernel_rfl
theorem pl108 : Places Try.prog (fsOf Try.prog 108) #[(0, 1), (1, 2)] := fun w => by kernel_rfl
theorem ty109 : TyI Try.prog 109 (.struct (fsOf Try.prog 109)) 3 (some (.agg #[(.int .i64 0), (.int .i64 0), (.int .i64 0)])) 24 := ⟨by kernel_rfl, by kernel_rfl⟩
theorem fo109_0 : ((fsOf Try.prog 109)[0]?).map (fun x => (x.offset, x.type)) = some (0, 3) := by kernel_rfl
theorem fo109_1 : ((fsOf Try.prog 109)[1]?).map (fun x => (x.offset, x.type)) = some (1, 107) := by kernel_rfl
theorem pl109 : Places Try.prog (fsOf Try.prog 109) #[(0, 1), (1, 2)] := fun w => by kernel_rfl
theorem ty112 : TyI Try.prog 112 (.struct (fsOf Try.prog 112)) 4 (some (.agg #[(.int .i64 0), (.int .i64 0), (.int .i64 0), (.int .i64 0)])) 32 := ⟨by kernel_rfl, by kernel_rfl⟩
theorem fo112_0 : ((fsOf Try.prog 112)[0]?).map (fun x => (x.offset, x.type)) = some (0, 3) := by kernel_rfl
theorem fo112_1 : ((fsOf Try.prog 112)[1]?).map (fun x => (x.offset, x.type)) = some (1, 3) := by kernel_rfl
theorem fo112_2 : ((fsOf Try.prog 112)[2]?).map (fun x => (x.offset, x.type)) = some (2, 107) := by kernel_rfl
theorem pl112 : Places Try.prog (fsOf Try.prog 112) #[(0, 1), (1, 1), (2, 2)] := fun w => by kernel_rfl
theorem ty113 : TyI Try.prog 113 (.struct (fsOf Try.prog 113)) 4 (some (.agg #[(.int .i64 0), (.int .i64 0), (.int .i64 0), (.int .i64 0)])) 32 := ⟨by kernel_rfl, by kernel_rfl⟩
theorem fo113_0 : ((fsOf Try.prog 113)[0]?).map (fun x => (x.offset, x.type)) = some (0, 3) := by kernel_rfl
theorem fo113_1 : ((fsOf Try.prog 113)[1]?).map (fun x => (x.offset, x.type)) = some (1, 3) := by kernel_rfl
theorem fo113_2 : ((fsOf Try.prog 113)[2]?).map (fun x => (x.offset, x.type)) = some (2, 107) := by kernel_rfl
theorem pl113 : Places Try.prog (fsOf Try.prog 113) #[(0, 1), (1, 1), (2, 2)] := fun w => by kernel_rfl
theorem ty117 : TyI Try.prog 117 (.map 3 121) 1 (some (.map none)) 8 := ⟨by kernel_rfl, by kernel_rfl⟩
theorem ty118 : TyI Try.prog 118 (.struct (fsOf Try.prog 118)) 1 (some (.agg #[(.map none)])) 8 := ⟨by kernel_rfl, by kernel_rfl⟩
theorem fo118_0 : ((fsOf Try.prog 118)[0]?).map (fun x => (x.offset, x.type)) = some (0, 117) := by kernel_rfl
theorem pl118 : Places Try.prog (fsOf Try.prog 118) #[(0, 1)] := fun w => by kernel_rfl
theorem ty119 : TyI Try.prog 119 (.struct (fsOf Try.prog 119)) 1 (some (.agg #[(.map none)])) 8 := ⟨by kernel_rfl, by kernel_rfl⟩
theorem fo119_0 : ((fsOf Try.prog 119)[0]?).map (fun x => (x.offset, x.type)) = some (0, 117) := by kernel_rfl
theorem pl119 : Places Try.prog (fsOf Try.prog 119) #[(0, 1)] := fun w => by kernel_rfl
theorem ty120 : TyI Try.prog 120 (.struct (fsOf Try.prog 120)) 3 (some (.agg #[(.int .i64 0), (.int .i64 0), (.int .i64 0)])) 24 := ⟨by kernel_rfl, by kernel_rfl⟩
theorem fo120_0 : ((fsOf Try.prog 120)[0]?).map (fun x => (x.offset, x.type)) = some (0, 32) := by kernel_rfl
theorem pl120 : Places Try.prog (fsOf Try.prog 120) #[(0, 3)] := fun w => by kernel_rfl
theorem ty121 : TyI Try.prog 121 (.struct (fsOf Try.prog 121)) 3 (some (.agg #[(.int .i64 0), (.int .i64 0), (.int .i64 0)])) 24 := ⟨by kernel_rfl, by kernel_rfl⟩
theorem fo121_0 : ((fsOf Try.prog 121)[0]?).map (fun x => (x.offset, x.type)) = some (0, 32) := by kernel_rfl
theorem pl121 : Places Try.prog (fsOf Try.prog 121) #[(0, 3)] := fun w => by kernel_rfl
theorem ty124 : TyI Try.prog 124 (.struct (fsOf Try.prog 124)) 2 (some (.agg #[(.slice none 0 0), (.slice none 0 0)])) 48 := ⟨by kernel_rfl, by kernel_rfl⟩
theorem fo124_0 : ((fsOf Try.prog 124)[0]?).map (fun x => (x.offset, x.type)) = some (0, 41) := by kernel_rfl
theorem fo124_1 : ((fsOf Try.prog 124)[1]?).map (fun x => (x.offset, x.type)) = some (1, 41) := by kernel_rfl
theorem pl124 : Places Try.prog (fsOf Try.prog 124) #[(0, 1), (1, 1)] := fun w => by kernel_rfl
theorem ty125 : TyI Try.prog 125 (.struct (fsOf Try.prog 125)) 2 (some (.agg #[(.slice none 0 0), (.slice none 0 0)])) 48 := ⟨by kernel_rfl, by kernel_rfl⟩
theorem fo125_0 : ((fsOf Try.prog 125)[0]?).map (fun x => (x.offset, x.type)) = some (0, 41) := by kernel_rfl
theorem fo125_1 : ((fsOf Try.prog 125)[1]?).map (fun x => (x.offset, x.type)) = some (1, 41) := by kernel_rfl
theorem pl125 : Places Try.prog (fsOf Try.prog 125) #[(0, 1), (1, 1)] := fun w => by kernel_rfl
theorem ty126 : TyI Try.prog 126 (.struct (fsOf Try.prog 126)) 1 (some (.agg #[(.slice none 0 0)])) 24 := ⟨by kernel_rfl, by kernel_rfl⟩
theorem fo126_0 : ((fsOf Try.prog 126)[0]?).map (fun x => (x.offset, x.type)) = some (0, 41) := by kernel_rfl
theorem pl126 : Places Try.prog (fsOf Try.prog 126) #[(0, 1)] := fun w => by kernel_rfl
theorem ty127 : TyI Try.prog 127 (.struct (fsOf Try.prog 127)) 1 (some (.agg #[(.slice none 0 0)])) 24 := ⟨by kernel_rfl, by kernel_rfl⟩
theorem fo127_0 : ((fsOf Try.prog 127)[0]?).map (fun x => (x.offset, x.type)) = some (0, 41) := by kernel_rfl
theorem pl127 : Places Try.prog (fsOf Try.prog 127) #[(0, 1)] := fun w => by kernel_rfl
theorem ty133 : TyI Try.prog 133 (.slice 187) 1 (some (.slice none 0 0)) 24 := ⟨by kernel_rfl, by kernel_rfl⟩
theorem ty134 : TyI Try.prog 134 (.struct (fsOf Try.prog 134)) 7 (some (.agg #[(.int .i64 0), (.int .i64 0), (.int .i64 0), (.int .i64 0), (.int .i64 0), (.bool false), (.slice none 0 0)])) 72 := ⟨by kernel_rfl, by kernel_rfl⟩
theorem fo134_0 : ((fsOf Try.prog 134)[0]?).map (fun x => (x.offset, x.type)) = some (0, 3) := by kernel_rfl
theorem fo134_1 : ((fsOf Try.prog 134)[1]?).map (fun x => (x.offset, x.type)) = some (1, 3) := by kernel_rfl
theorem fo134_2 : ((fsOf Try.prog 134)[2]?).map (fun x => (x.offset, x.type)) = some (2, 3) := by kernel_rfl
theorem fo134_3 : ((fsOf Try.prog 134)[3]?).map (fun x => (x.offset, x.type)) = some (3, 107) := by kernel_rfl
theorem fo134_4 : ((fsOf Try.prog 134)[4]?).map (fun x => (x.offset, x.type)) = some (5, 4) := by kernel_rfl
theorem fo134_5 : ((fsOf Try.prog 134)[5]?).map (fun x => (x.offset, x.type)) = some (6, 133) := by kernel_rfl
theorem pl134 : Places Try.prog (fsOf Try.prog 134) #[(0, 1), (1, 1), (2, 1), (3, 2), (5, 1), (6, 1)] := fun w => by kernel_rfl
theorem ty135 : TyI Try.prog 135 (.struct (fsOf Try.prog 135)) 7 (some (.agg #[(.int .i64 0), (.int .i64 0), (.int .i64 0), (.int .i64 0), (.int .i64 0), (.bool false), (.slice none 0 0)])) 72 := ⟨by kernel_rfl, by kernel_rfl⟩
theorem fo135_0 : ((fsOf Try.prog 135)[0]?).map (fun x => (x.offset, x.type)) = some (0, 3) := by kernel_rfl
theorem fo135_1 : ((fsOf Try.prog 135)[1]?).map (fun x => (x.offset, x.type)) = some (1, 3) := by kernel_rfl
theorem fo135_2 : ((fsOf Try.prog 135)[2]?).map (fun x => (x.offset, x.type)) = some (2, 3) := by kernel_rfl
theorem fo135_3 : ((fsOf Try.prog 135)[3]?).map (fun x => (x.offset, x.type)) = some (3, 107) := by kernel_rfl
theorem fo135_4 : ((fsOf Try.prog 135)[4]?).map (fun x => (x.offset, x.type)) = some (5, 4) := by kernel_rfl
theorem fo135_5 : ((fsOf Try.prog 135)[5]?).map (fun x => (x.offset, x.type)) = some (6, 133) := by kernel_rfl
theorem pl135 : Places Try.prog (fsOf Try.prog 135) #[(0, 1), (1, 1), (2, 1), (3, 2), (5, 1), (6, 1)] := fun w => by kernel_rfl
theorem ty136 : TyI Try.prog 136 (.map 3 140) 1 (some (.map none)) 8 := ⟨by kernel_rfl, by kernel_rfl⟩
theorem ty137 : TyI Try.prog 137 (.struct (fsOf Try.prog 137)) 2 (some (.agg #[(.int .i64 0), (.map none)])) 16 := ⟨by kernel_rfl, by kernel_rfl⟩
theorem fo137_0 : ((fsOf Try.prog 137)[0]?).map (fun x => (x.offset, x.type)) = some (0, 3) := by kernel_rfl
theorem fo137_1 : ((fsOf Try.prog 137)[1]?).map (fun x => (x.offset, x.type)) = some (1, 136) := by kernel_rfl
theorem pl137 : Places Try.prog (fsOf Try.prog 137) #[(0, 1), (1, 1)] := fun w => by kernel_rfl
theorem ty138 : TyI Try.prog 138 (.struct (fsOf Try.prog 138)) 2 (some (.agg #[(.int .i64 0), (.map none)])) 16 := ⟨by kernel_rfl, by kernel_rfl⟩
theorem fo138_0 : ((fsOf Try.prog 138)[0]?).map (fun x => (x.offset, x.type)) = some (0, 3) := by kernel_rfl
theorem fo138_1 : ((fsOf Try.prog 138)[1]?).map (fun x => (x.offset, x.type)) = some (1, 136) := by kernel_rfl
theorem pl138 : Places Try.prog (fsOf Try.prog 138) #[(0, 1), (1, 1)] := fun w => by kernel_rfl
theorem ty140 : TyI Try.prog 140 (.pointer 148) 1 (some (.pointer none)) 8 := ⟨by kernel_rfl, by kernel_rfl⟩
theorem ty141 : TyI Try.prog 141 (.struct (fsOf Try.prog 141)) 1 (some (.agg #[(.slice none 0 0)])) 24 := ⟨by kernel_rfl, by kernel_rfl⟩
theorem fo141_0 : ((fsOf Try.prog 141)[0]?).map (fun x => (x.offset, x.type)) = some (0, 64) := by kernel_rfl
theorem pl141 : Places Try.prog (fsOf Try.prog 141) #[(0, 1)] := fun w => by kernel_rfl
theorem ty142 : TyI Try.prog 142 (.struct (fsOf Try.prog 142)) 1 (some (.agg #[(.slice none 0 0)])) 24 := ⟨by kernel_rfl, by kernel_rfl⟩
theorem fo142_0 : ((fsOf Try.prog 142)[0]?).map (fun x => (x.offset, x.type)) = some (0, 64) := by kernel_rfl
theorem pl142 : Places Try.prog (fsOf Try.prog 142) #[(0, 1)] := fun w => by kernel_rfl
theorem ty143 : TyI Try.prog 143 (.struct (fsOf Try.prog 143)) 2 (some (.agg #[(.slice none 0 0), (.int .i64 0)])) 32 := ⟨by kernel_rfl, by kernel_rfl⟩
theorem fo143_0 : ((fsOf Try.prog 143)[0]?).map (fun x => (x.offset, x.type)) = some (0, 142) := by kernel_rfl
theorem fo143_1 : ((fsOf Try.prog 143)[1]?).map (fun x => (x.offset, x.type)) = some (1, 3) := by kernel_rfl
theorem pl143 : Places Try.prog (fsOf Try.prog 143) #[(0, 1), (1, 1)] := fun w => by kernel_rfl
theorem ty144 : TyI Try.prog 144 (.struct (fsOf Try.prog 144)) 2 (some (.agg #[(.slice none 0 0), (.int .i64 0)])) 32 := ⟨by kernel_rfl, by kernel_rfl⟩
theorem fo144_0 : ((fsOf Try.prog 144)[0]?).map (fun x => (x.offset, x.type)) = some (0, 142) := by kernel_rfl
theorem fo144_1 : ((fsOf Try.prog 144)[1]?).map (fun x => (x.offset, x.type)) = some (1, 3) := by kernel_rfl
theorem pl144 : Places Try.prog (fsOf Try.prog 144) #[(0, 1), (1, 1)] := fun w => by kernel_rfl
theorem ty145 : TyI Try.prog 145 (.slice 144) 1 (some (.slice none 0 0)) 24 := ⟨by kernel_rfl, by kernel_rfl⟩
theorem ty146 : TyI Try.prog 146 (.slice 144) 1 (some (.slice none 0 0)) 24 := ⟨by kernel_rfl, by kernel_rfl⟩
theorem ty147 : TyI Try.prog 147 (.struct (fsOf Try.prog 147)) 4 (some (.agg #[(.int .i64 0), (.slice none 0 0), (.int .i64 0), (.slice none 0 0)])) 64 := ⟨by kernel_rfl, by kernel_rfl⟩
theorem fo147_0 : ((fsOf Try.prog 147)[0]?).map (fun x => (x.offset, x.type)) = some (0, 3) := by kernel_rfl
theorem fo147_1 : ((fsOf Try.prog 147)[1]?).map (fun x => (x.offset, x.type)) = some (1, 144) := by kernel_rfl
theorem fo147_2 : ((fsOf Try.prog 147)[2]?).map (fun x => (x.offset, x.type)) = some (3, 146) := by kernel_rfl
theorem pl147 : Places Try.prog (fsOf Try.prog 147) #[(0, 1), (1, 2), (3, 1)] := fun w => by kernel_rfl
theorem ty148 : TyI Try.prog 148 (.struct (fsOf Try.prog 148)) 4 (some (.agg #[(.int .i64 0), (.slice none 0 0), (.int .i64 0), (.slice none 0 0)])) 64 := ⟨by kernel_rfl, by kernel_rfl⟩
theorem fo148_0 : ((fsOf Try.prog 148)[0]?).map (fun x => (x.offset, x.type)) = some (0, 3) := by kernel_rfl
theorem fo148_1 : ((fsOf Try.prog 148)[1]?).map (fun x => (x.offset, x.type)) = some (1, 144) := by kernel_rfl
theorem fo148_2 : ((fsOf Try.prog 148)[2]?).map (fun x => (x.offset, x.type)) = some (3, 146) := by kernel_rfl
theorem pl148 : Places Try.prog (fsOf Try.prog 148) #[(0, 1), (1, 2), (3, 1)] := fun w => by kernel_rfl
theorem ty159 : TyI Try.prog 159 (.map 3 162) 1 (some (.map none)) 8 := ⟨by kernel_rfl, by kernel_rfl⟩
theorem ty160 : TyI Try.prog 160 (.struct (fsOf Try.prog 160)) 1 (some (.agg #[(.map none)])) 8 := ⟨by kernel_rfl, by kernel_rfl⟩
theorem fo160_0 : ((fsOf Try.prog 160)[0]?).map (fun x => (x.offset, x.type)) = some (0, 159) := by kernel_rfl
theorem pl160 : Places Try.prog (fsOf Try.prog 160) #[(0, 1)] := fun w => by kernel_rfl
theorem ty161 : TyI Try.prog 161 (.struct (fsOf Try.prog 161)) 1 (some (.agg #[(.map none)])) 8 := ⟨by kernel_rfl, by kernel_rfl⟩
theorem fo161_0 : ((fsOf Try.prog 161)[0]?).map (fun x => (x.offset, x.type)) = some (0, 159) := by kernel_rfl
theorem pl161 : Places Try.prog (fsOf Try.prog 161) #[(0, 1)] := fun w => by kernel_rfl
theorem ty162 : TyI Try.prog 162 (.pointer 164) 1 (some (.pointer none)) 8 := ⟨by kernel_rfl, by kernel_rfl⟩
theorem ty163 : TyI Try.prog 163 (.struct (fsOf Try.prog 163)) 2 (some (.agg #[(.int .i64 0), (.slice none 0 0)])) 32 := ⟨by kernel_rfl, by kernel_rfl⟩
theorem fo163_0 : ((fsOf Try.prog 163)[0]?).map (fun x => (x.offset, x.type)) = some (0, 3) := by kernel_rfl
theorem fo163_1 : ((fsOf Try.prog 163)[1]?).map (fun x => (x.offset, x.type)) = some (1, 146) := by kernel_rfl
theorem pl163 : Places Try.prog (fsOf Try.prog 163) #[(0, 1), (1, 1)] := fun w => by kernel_rfl
theorem ty164 : TyI Try.prog 164 (.struct (fsOf Try.prog 164)) 2 (some (.agg #[(.int .i64 0), (.slice none 0 0)])) 32 := ⟨by kernel_rfl, by kernel_rfl⟩
theorem fo164_0 : ((fsOf Try.prog 164)[0]?).map (fun x => (x.offset, x.type)) = some (0, 3) := by kernel_rfl
theorem fo164_1 : ((fsOf Try.prog 164)[1]?).map (fun x => (x.offset, x.type)) = some (1, 146) := by kernel_rfl
theorem pl164 : Places Try.prog (fsOf Try.prog 164) #[(0, 1), (1, 1)] := fun w => by kernel_rfl
theorem ty170 : TyI Try.prog 170 (.pointer 135) 1 (some (.pointer none)) 8 := ⟨by kernel_rfl, by kernel_rfl⟩
theorem ty172 : TyI Try.prog 172 (.int .i64) 1 (some (.int .i64 0)) 8 := ⟨by kernel_rfl, by kernel_rfl⟩
theorem ty175 : TyI Try.prog 175 (.map 3 109) 1 (some (.map none)) 8 := ⟨by kernel_rfl, by kernel_rfl⟩
theorem ty176 : TyI Try.prog 176 (.struct (fsOf Try.prog 176)) 1 (some (.agg #[(.map none)])) 8 := ⟨by kernel_rfl, by kernel_rfl⟩
theorem fo176_0 : ((fsOf Try.prog 176)[0]?).map (fun x => (x.offset, x.type)) = some (0, 175) := by kernel_rfl
theorem pl176 : Places Try.prog (fsOf Try.prog 176) #[(0, 1)] := fun w => by kernel_rfl
theorem ty177 : TyI Try.prog 177 (.struct (fsOf Try.prog 177)) 1 (some (.agg #[(.map none)])) 8 := ⟨by kernel_rfl, by kernel_rfl⟩
theorem fo177_0 : ((fsOf Try.prog 177)[0]?).map (fun x => (x.offset, x.type)) = some (0, 175) := by kernel_rfl
theorem pl177 : Places Try.prog (fsOf Try.prog 177) #[(0, 1)] := fun w => by kernel_rfl
theorem ty180 : TyI Try.prog 180 (.int .u64) 1 (some (.int .u64 0)) 8 := ⟨by kernel_rfl, by kernel_rfl⟩
theorem ty185 : TyI Try.prog 185 (.slice 5) 1 (some (.slice none 0 0)) 24 := ⟨by kernel_rfl, by kernel_rfl⟩
theorem ty186 : TyI Try.prog 186 (.struct (fsOf Try.prog 186)) 2 (some (.agg #[(.int .i64 0), (.slice none 0 0)])) 32 := ⟨by kernel_rfl, by kernel_rfl⟩
theorem fo186_0 : ((fsOf Try.prog 186)[0]?).map (fun x => (x.offset, x.type)) = some (0, 3) := by kernel_rfl
theorem fo186_1 : ((fsOf Try.prog 186)[1]?).map (fun x => (x.offset, x.type)) = some (1, 185) := by kernel_rfl
theorem pl186 : Places Try.prog (fsOf Try.prog 186) #[(0, 1), (1, 1)] := fun w => by kernel_rfl
theorem ty187 : TyI Try.prog 187 (.struct (fsOf Try.prog 187)) 2 (some (.agg #[(.int .i64 0), (.slice none 0 0)])) 32 := ⟨by kernel_rfl, by kernel_rfl⟩
theorem fo187_0 : ((fsOf Try.prog 187)[0]?).map (fun x => (x.offset, x.type)) = some (0, 3) := by kernel_rfl
theorem fo187_1 : ((fsOf Try.prog 187)[1]?).map (fun x => (x.offset, x.type)) = some (1, 185) := by kernel_rfl
theorem pl187 : Places Try.prog (fsOf Try.prog 187) #[(0, 1), (1, 1)] := fun w => by kernel_rfl
theorem ty195 : TyI Try.prog 195 (.int .i64) 1 (some (.int .i64 0)) 8 := ⟨by kernel_rfl, by kernel_rfl⟩
theorem ty202 : TyI Try.prog 202 (.int .u32) 1 (some (.int .u32 0)) 4 := ⟨by kernel_rfl, by kernel_rfl⟩
theorem ty204 : TyI Try.prog 204 (.int .u64) 1 (some (.int .u64 0)) 8 := ⟨by kernel_rfl, by kernel_rfl⟩
theorem ty209 : TyI Try.prog 209 (.int .u64) 1 (some (.int .u64 0)) 8 := ⟨by kernel_rfl, by kernel_rfl⟩
theorem ty213 : TyI Try.prog 213 (.pointer 3) 1 (some (.pointer none)) 8 := ⟨by kernel_rfl, by kernel_rfl⟩
theorem ty218 : TyI Try.prog 218 (.slice 107) 1 (some (.slice none 0 0)) 24 := ⟨by kernel_rfl, by kernel_rfl⟩
theorem ty219 : TyI Try.prog 219 (.pointer 209) 1 (some (.pointer none)) 8 := ⟨by kernel_rfl, by kernel_rfl⟩
theorem ty226 : TyI Try.prog 226 (.struct (fsOf Try.prog 226)) 4 (some (.agg #[(.pointer none), (.pointer none), (.pointer none), (.string ⟨#[]⟩)])) 40 := ⟨by kernel_rfl, by kernel_rfl⟩
theorem fo226_0 : ((fsOf Try.prog 226)[0]?).map (fun x => (x.offset, x.type)) = some (0, 17) := by kernel_rfl
theorem fo226_1 : ((fsOf Try.prog 226)[1]?).map (fun x => (x.offset, x.type)) = some (1, 17) := by kernel_rfl
theorem fo226_2 : ((fsOf Try.prog 226)[2]?).map (fun x => (x.offset, x.type)) = some (2, 17) := by kernel_rfl
theorem fo226_3 : ((fsOf Try.prog 226)[3]?).map (fun x => (x.offset, x.type)) = some (3, 9) := by kernel_rfl
theorem pl226 : Places Try.prog (fsOf Try.prog 226) #[(0, 1), (1, 1), (2, 1), (3, 1)] := fun w => by kernel_rfl
theorem ty227 : TyI Try.prog 227 (.struct (fsOf Try.prog 227)) 4 (some (.agg #[(.pointer none), (.pointer none), (.pointer none), (.string ⟨#[]⟩)])) 40 := ⟨by kernel_rfl, by kernel_rfl⟩
theorem fo227_0 : ((fsOf Try.prog 227)[0]?).map (fun x => (x.offset, x.type)) = some (0, 17) := by kernel_rfl
theorem fo227_1 : ((fsOf Try.prog 227)[1]?).map (fun x => (x.offset, x.type)) = some (1, 17) := by kernel_rfl
theorem fo227_2 : ((fsOf Try.prog 227)[2]?).map (fun x => (x.offset, x.type)) = some (2, 17) := by kernel_rfl
theorem fo227_3 : ((fsOf Try.prog 227)[3]?).map (fun x => (x.offset, x.type)) = some (3, 9) := by kernel_rfl
theorem pl227 : Places Try.prog (fsOf Try.prog 227) #[(0, 1), (1, 1), (2, 1), (3, 1)] := fun w => by kernel_rfl
theorem ty228 : TyI Try.prog 228 (.array 0 16) 0 (some (.agg #[])) 0 := ⟨by kernel_rfl, by kernel_rfl⟩
theorem ty229 : TyI Try.prog 229 (.struct (fsOf Try.prog 229)) 0 (some (.agg #[])) 0 := ⟨by kernel_rfl, by kernel_rfl⟩
theorem fo229_0 : ((fsOf Try.prog 229)[0]?).map (fun x => (x.offset, x.type)) = some (0, 228) := by kernel_rfl
theorem pl229 : Places Try.prog (fsOf Try.prog 229) #[(0, 0)] := fun w => by kernel_rfl
theorem ty230 : TyI Try.prog 230 (.struct (fsOf Try.prog 230)) 0 (some (.agg #[])) 0 := ⟨by kernel_rfl, by kernel_rfl⟩
theorem fo230_0 : ((fsOf Try.prog 230)[0]?).map (fun x => (x.offset, x.type)) = some (0, 228) := by kernel_rfl
theorem pl230 : Places Try.prog (fsOf Try.prog 230) #[(0, 0)] := fun w => by kernel_rfl
theorem ty231 : TyI Try.prog 231 (.int .u8) 1 (some (.int .u8 0)) 1 := ⟨by kernel_rfl, by kernel_rfl⟩
theorem ty232 : TyI Try.prog 232 (.int .u8) 1 (some (.int .u8 0)) 1 := ⟨by kernel_rfl, by kernel_rfl⟩
theorem ty234 : TyI Try.prog 234 (.pointer 5) 1 (some (.pointer none)) 8 := ⟨by kernel_rfl, by kernel_rfl⟩
theorem ty235 : TyI Try.prog 235 (.int .i32) 1 (some (.int .i32 0)) 4 := ⟨by kernel_rfl, by kernel_rfl⟩
theorem ty236 : TyI Try.prog 236 (.int .i32) 1 (some (.int .i32 0)) 4 := ⟨by kernel_rfl, by kernel_rfl⟩
theorem ty237 : TyI Try.prog 237 (.struct (fsOf Try.prog 237)) 11 (some (.agg #[(.int .u64 0), (.int .u64 0), (.int .u32 0), (.int .u8 0), (.int .u8 0), (.int .u8 0), (.int .u8 0), .nilFunc, (.pointer none), (.int .i32 0), (.int .i32 0)])) 48 := ⟨by kernel_rfl, by kernel_rfl⟩
theorem fo237_0 : ((fsOf Try.prog 237)[0]?).map (fun x => (x.offset, x.type)) = some (0, 12) := by kernel_rfl
theorem fo237_1 : ((fsOf Try.prog 237)[1]?).map (fun x => (x.offset, x.type)) = some (1, 12) := by kernel_rfl
theorem fo237_2 : ((fsOf Try.prog 237)[2]?).map (fun x => (x.offset, x.type)) = some (2, 202) := by kernel_rfl
theorem fo237_3 : ((fsOf Try.prog 237)[3]?).map (fun x => (x.offset, x.type)) = some (3, 231) := by kernel_rfl
theorem fo237_4 : ((fsOf Try.prog 237)[4]?).map (fun x => (x.offset, x.type)) = some (4, 5) := by kernel_rfl
theorem fo237_5 : ((fsOf Try.prog 237)[5]?).map (fun x => (x.offset, x.type)) = some (5, 5) := by kernel_rfl
theorem fo237_6 : ((fsOf Try.prog 237)[6]?).map (fun x => (x.offset, x.type)) = some (6, 232) := by kernel_rfl
theorem fo237_7 : ((fsOf Try.prog 237)[7]?).map (fun x => (x.offset, x.type)) = some (7, 233) := by kernel_rfl
theorem fo237_8 : ((fsOf Try.prog 237)[8]?).map (fun x => (x.offset, x.type)) = some (8, 234) := by kernel_rfl
theorem fo237_9 : ((fsOf Try.prog 237)[9]?).map (fun x => (x.offset, x.type)) = some (9, 235) := by kernel_rfl
theorem fo237_10 : ((fsOf Try.prog 237)[10]?).map (fun x => (x.offset, x.type)) = some (10, 236) := by kernel_rfl
theorem pl237 : Places Try.prog (fsOf Try.prog 237) #[(0, 1), (1, 1), (2, 1), (3, 1), (4, 1), (5, 1), (6, 1), (7, 1), (8, 1), (9, 1), (10, 1)] := fun w => by kernel_rfl
theorem ty238 : TyI Try.prog 238 (.struct (fsOf Try.prog 238)) 11 (some (.agg #[(.int .u64 0), (.int .u64 0), (.int .u32 0), (.int .u8 0), (.int .u8 0), (.int .u8 0), (.int .u8 0), .nilFunc, (.pointer none), (.int .i32 0), (.int .i32 0)])) 48 := ⟨by kernel_rfl, by kernel_rfl⟩
theorem fo238_0 : ((fsOf Try.prog 238)[0]?).map (fun x => (x.offset, x.type)) = some (0, 12) := by kernel_rfl
theorem fo238_1 : ((fsOf Try.prog 238)[1]?).map (fun x => (x.offset, x.type)) = some (1, 12) := by kernel_rfl
theorem fo238_2 : ((fsOf Try.prog 238)[2]?).map (fun x => (x.offset, x.type)) = some (2, 202) := by kernel_rfl
theorem fo238_3 : ((fsOf Try.prog 238)[3]?).map (fun x => (x.offset, x.type)) = some (3, 231) := by kernel_rfl
theorem fo238_4 : ((fsOf Try.prog 238)[4]?).map (fun x => (x.offset, x.type)) = some (4, 5) := by kernel_rfl
theorem fo238_5 : ((fsOf Try.prog 238)[5]?).map (fun x => (x.offset, x.type)) = some (5, 5) := by kernel_rfl
theorem fo238_6 : ((fsOf Try.prog 238)[6]?).map (fun x => (x.offset, x.type)) = some (6, 232) := by kernel_rfl
theorem fo238_7 : ((fsOf Try.prog 238)[7]?).map (fun x => (x.offset, x.type)) = some (7, 233) := by kernel_rfl
theorem fo238_8 : ((fsOf Try.prog 238)[8]?).map (fun x => (x.offset, x.type)) = some (8, 234) := by kernel_rfl
theorem fo238_9 : ((fsOf Try.prog 238)[9]?).map (fun x => (x.offset, x.type)) = some (9, 235) := by kernel_rfl
theorem fo238_10 : ((fsOf Try.prog 238)[10]?).map (fun x => (x.offset, x.type)) = some (10, 236) := by kernel_rfl
theorem pl238 : Places Try.prog (fsOf Try.prog 238) #[(0, 1), (1, 1), (2, 1), (3, 1), (4, 1), (5, 1), (6, 1), (7, 1), (8, 1), (9, 1), (10, 1)] := fun w => by kernel_rfl
theorem ov97 : OvI Try.prog 97 41 := ⟨⟨Try.f97, 4, by kernel_rfl, by kernel_rfl, by kernel_rfl, by kernel_rfl, by kernel_rfl⟩⟩
theorem ov106 : OvI Try.prog 106 145 := ⟨⟨Try.f106, 4, by kernel_rfl, by kernel_rfl, by kernel_rfl, by kernel_rfl, by kernel_rfl⟩⟩
theorem fi3 : FnI Try.prog 3 Try.f3 := ⟨Try.func3, by kernel_rfl, rfl⟩
theorem fi4 : FnI Try.prog 4 Try.f4 := ⟨Try.func4, by kernel_rfl, rfl⟩
theorem fi5 : FnI Try.prog 5 Try.f5 := ⟨Try.func5, by kernel_rfl, rfl⟩
theorem fi6 : FnI Try.prog 6 Try.f6 := ⟨Try.func6, by kernel_rfl, rfl⟩
theorem fi7 : FnI Try.prog 7 Try.f7 := ⟨Try.func7, by kernel_rfl, rfl⟩
theorem fi8 : FnI Try.prog 8 Try.f8 := ⟨Try.func8, by kernel_rfl, rfl⟩
theorem fi9 : FnI Try.prog 9 Try.f9 := ⟨Try.func9, by kernel_rfl, rfl⟩
theorem fi10 : FnI Try.prog 10 Try.f10 := ⟨Try.func10, by kernel_rfl, rfl⟩
theorem fi11 : FnI Try.prog 11 Try.f11 := ⟨Try.func11, by kernel_rfl, rfl⟩
theorem fi12 : FnI Try.prog 12 Try.f12 := ⟨Try.func12, by kernel_rfl, rfl⟩
theorem fi13 : FnI Try.prog 13 Try.f13 := ⟨Try.func13, by kernel_rfl, rfl⟩
theorem fi14 : FnI Try.prog 14 Try.f14 := ⟨Try.func14, by kernel_rfl, rfl⟩
theorem fi15 : FnI Try.prog 15 Try.f15 := ⟨Try.func15, by kernel_rfl, rfl⟩
theorem fi16 : FnI Try.prog 16 Try.f16 := ⟨Try.func16, by kernel_rfl, rfl⟩
theorem fi17 : FnI Try.prog 17 Try.f17 := ⟨Try.func17, by kernel_rfl, rfl⟩
theorem fi18 : FnI Try.prog 18 Try.f18 := ⟨Try.func18, by kernel_rfl, rfl⟩
theorem fi19 : FnI Try.prog 19 Try.f19 := ⟨Try.func19, by kernel_rfl, rfl⟩
theorem fi20 : FnI Try.prog 20 Try.f20 := ⟨Try.func20, by kernel_rfl, rfl⟩
theorem fi21 : FnI Try.prog 21 Try.f21 := ⟨Try.func21, by kernel_rfl, rfl⟩
theorem fi22 : FnI Try.prog 22 Try.f22 := ⟨Try.func22, by kernel_rfl, rfl⟩
theorem fi23 : FnI Try.prog 23 Try.f23 := ⟨Try.func23, by kernel_rfl, rfl⟩
theorem fi24 : FnI Try.prog 24 Try.f24 := ⟨Try.func24, by kernel_rfl, rfl⟩
theorem fi25 : FnI Try.prog 25 Try.f25 := ⟨Try.func25, by kernel_rfl, rfl⟩
theorem fi26 : FnI Try.prog 26 Try.f26 := ⟨Try.func26, by kernel_rfl, rfl⟩
theorem fi27 : FnI Try.prog 27 Try.f27 := ⟨Try.func27, by kernel_rfl, rfl⟩
theorem fi28 : FnI Try.prog 28 Try.f28 := ⟨Try.func28, by kernel_rfl, rfl⟩
theorem fi29 : FnI Try.prog 29 Try.f29 := ⟨Try.func29, by kernel_rfl, rfl⟩
theorem fi30 : FnI Try.prog 30 Try.f30 := ⟨Try.func30, by kernel_rfl, rfl⟩
theorem fi31 : FnI Try.prog 31 Try.f31 := ⟨Try.func31, by kernel_rfl, rfl⟩
theorem fi32 : FnI Try.prog 32 Try.f32 := ⟨Try.func32, by kernel_rfl, rfl⟩
theorem fi33 : FnI Try.prog 33 Try.f33 := ⟨Try.func33, by kernel_rfl, rfl⟩
theorem fi34 : FnI Try.prog 34 Try.f34 := ⟨Try.func34, by kernel_rfl, rfl⟩
theorem fi35 : FnI Try.prog 35 Try.f35 := ⟨Try.func35, by kernel_rfl, rfl⟩
theorem fi36 : FnI Try.prog 36 Try.f36 := ⟨Try.func36, by kernel_rfl, rfl⟩
theorem fi37 : FnI Try.prog 37 Try.f37 := ⟨Try.func37, by kernel_rfl, rfl⟩
theorem fi38 : FnI Try.prog 38 Try.f38 := ⟨Try.func38, by kernel_rfl, rfl⟩
theorem fi39 : FnI Try.prog 39 Try.f39 := ⟨Try.func39, by kernel_rfl, rfl⟩
theorem fi40 : FnI Try.prog 40 Try.f40 := ⟨Try.func40, by kernel_rfl, rfl⟩
theorem fi41 : FnI Try.prog 41 Try.f41 := ⟨Try.func41, by kernel_rfl, rfl⟩
theorem fi42 : FnI Try.prog 42 Try.f42 := ⟨Try.func42, by kernel_rfl, rfl⟩
theorem fi43 : FnI Try.prog 43 Try.f43 := ⟨Try.func43, by kernel_rfl, rfl⟩
theorem fi44 : FnI Try.prog 44 Try.f44 := ⟨Try.func44, by kernel_rfl, rfl⟩
theorem fi45 : FnI Try.prog 45 Try.f45 := ⟨Try.func45, by kernel_rfl, rfl⟩
theorem fi46 : FnI Try.prog 46 Try.f46 := ⟨Try.func46, by kernel_rfl, rfl⟩
theorem fi47 : FnI Try.prog 47 Try.f47 := ⟨Try.func47, by kernel_rfl, rfl⟩
theorem fi48 : FnI Try.prog 48 Try.f48 := ⟨Try.func48, by kernel_rfl, rfl⟩
theorem fi49 : FnI Try.prog 49 Try.f49 := ⟨Try.func49, by kernel_rfl, rfl⟩
theorem fi50 : FnI Try.prog 50 Try.f50 := ⟨Try.func50, by kernel_rfl, rfl⟩
theorem fi51 : FnI Try.prog 51 Try.f51 := ⟨Try.func51, by kernel_rfl, rfl⟩
theorem fi52 : FnI Try.prog 52 Try.f52 := ⟨Try.func52, by kernel_rfl, rfl⟩
theorem fi53 : FnI Try.prog 53 Try.f53 := ⟨Try.func53, by kernel_rfl, rfl⟩
theorem fi54 : FnI Try.prog 54 Try.f54 := ⟨Try.func54, by kernel_rfl, rfl⟩
theorem fi55 : FnI Try.prog 55 Try.f55 := ⟨Try.func55, by kernel_rfl, rfl⟩
theorem fi56 : FnI Try.prog 56 Try.f56 := ⟨Try.func56, by kernel_rfl, rfl⟩
theorem fi57 : FnI Try.prog 57 Try.f57 := ⟨Try.func57, by kernel_rfl, rfl⟩
theorem fi58 : FnI Try.prog 58 Try.f58 := ⟨Try.func58, by kernel_rfl, rfl⟩
theorem fi59 : FnI Try.prog 59 Try.f59 := ⟨Try.func59, by kernel_rfl, rfl⟩
theorem fi60 : FnI Try.prog 60 Try.f60 := ⟨Try.func60, by kernel_rfl, rfl⟩
theorem fi61 : FnI Try.prog 61 Try.f61 := ⟨Try.func61, by kernel_rfl, rfl⟩
theorem fi62 : FnI Try.prog 62 Try.f62 := ⟨Try.func62, by kernel_rfl, rfl⟩
theorem fi63 : FnI Try.prog 63 Try.f63 := ⟨Try.func63, by kernel_rfl, rfl⟩
theorem fi64 : FnI Try.prog 64 Try.f64 := ⟨Try.func64, by kernel_rfl, rfl⟩
theorem fi65 : FnI Try.prog 65 Try.f65 := ⟨Try.func65, by kernel_rfl, rfl⟩
theorem fi66 : FnI Try.prog 66 Try.f66 := ⟨Try.func66, by kernel_rfl, rfl⟩
theorem fi67 : FnI Try.prog 67 Try.f67 := ⟨Try.func67, by kernel_rfl, rfl⟩
theorem fi68 : FnI Try.prog 68 Try.f68 := ⟨Try.func68, by kernel_rfl, rfl⟩
theorem fi69 : FnI Try.prog 69 Try.f69 := ⟨Try.func69, by kernel_rfl, rfl⟩
theorem fi70 : FnI Try.prog 70 Try.f70 := ⟨Try.func70, by kernel_rfl, rfl⟩
theorem fi71 : FnI Try.prog 71 Try.f71 := ⟨Try.func71, by kernel_rfl, rfl⟩
theorem fi72 : FnI Try.prog 72 Try.f72 := ⟨Try.func72, by kernel_rfl, rfl⟩
theorem fi73 : FnI Try.prog 73 Try.f73 := ⟨Try.func73, by kernel_rfl, rfl⟩
theorem fi74 : FnI Try.prog 74 Try.f74 := ⟨Try.func74, by kernel_rfl, rfl⟩
theorem fi75 : FnI Try.prog 75 Try.f75 := ⟨Try.func75, by kernel_rfl, rfl⟩
theorem fi76 : FnI Try.prog 76 Try.f76 := ⟨Try.func76, by kernel_rfl, rfl⟩
theorem fi77 : FnI Try.prog 77 Try.f77 := ⟨Try.func77, by kernel_rfl, rfl⟩
theorem fi78 : FnI Try.prog 78 Try.f78 := ⟨Try.func78, by kernel_rfl, rfl⟩
theorem fi79 : FnI Try.prog 79 Try.f79 := ⟨Try.func79, by kernel_rfl, rfl⟩
theorem fi80 : FnI Try.prog 80 Try.f80 := ⟨Try.func80, by kernel_rfl, rfl⟩
theorem fi81 : FnI Try.prog 81 Try.f81 := ⟨Try.func81, by kernel_rfl, rfl⟩
theorem fi82 : FnI Try.prog 82 Try.f82 := ⟨Try.func82, by kernel_rfl, rfl⟩
theorem fi83 : FnI Try.prog 83 Try.f83 := ⟨Try.func83, by kernel_rfl, rfl⟩
theorem fi84 : FnI Try.prog 84 Try.f84 := ⟨Try.func84, by kernel_rfl, rfl⟩
theorem fi85 : FnI Try.prog 85 Try.f85 := ⟨Try.func85, by kernel_rfl, rfl⟩
theorem fi86 : FnI Try.prog 86 Try.f86 := ⟨Try.func86, by kernel_rfl, rfl⟩
theorem fi87 : FnI Try.prog 87 Try.f87 := ⟨Try.func87, by kernel_rfl, rfl⟩
theorem fi88 : FnI Try.prog 88 Try.f88 := ⟨Try.func88, by kernel_rfl, rfl⟩
theorem fi89 : FnI Try.prog 89 Try.f89 := ⟨Try.func89, by kernel_rfl, rfl⟩
theorem fi90 : FnI Try.prog 90 Try.f90 := ⟨Try.func90, by kernel_rfl, rfl⟩
theorem fi91 : FnI Try.prog 91 Try.f91 := ⟨Try.func91, by kernel_rfl, rfl⟩
theorem fi92 : FnI Try.prog 92 Try.f92 := ⟨Try.func92, by kernel_rfl, rfl⟩
theorem fi93 : FnI Try.prog 93 Try.f93 := ⟨Try.func93, by kernel_rfl, rfl⟩
theorem fi94 : FnI Try.prog 94 Try.f94 := ⟨Try.func94, by kernel_rfl, rfl⟩
theorem fi95 : FnI Try.prog 95 Try.f95 := ⟨Try.func95, by kernel_rfl, rfl⟩
theorem fi96 : FnI Try.prog 96 Try.f96 := ⟨Try.func96, by kernel_rfl, rfl⟩
theorem fi98 : FnI Try.prog 98 Try.f98 := ⟨Try.func98, by kernel_rfl, rfl⟩
theorem fi99 : FnI Try.prog 99 Try.f99 := ⟨Try.func99, by kernel_rfl, rfl⟩
theorem fi100 : FnI Try.prog 100 Try.f100 := ⟨Try.func100, by kernel_rfl, rfl⟩
theorem fi101 : FnI Try.prog 101 Try.f101 := ⟨Try.func101, by kernel_rfl, rfl⟩
theorem fi102 : FnI Try.prog 102 Try.f102 := ⟨Try.func102, by kernel_rfl, rfl⟩
theorem fi103 : FnI Try.prog 103 Try.f103 := ⟨Try.func103, by kernel_rfl, rfl⟩
theorem fi104 : FnI Try.prog 104 Try.f104 := ⟨Try.func104, by kernel_rfl, rfl⟩
theorem fi105 : FnI Try.prog 105 Try.f105 := ⟨Try.func105, by kernel_rfl, rfl⟩
theorem fi107 : FnI Try.prog 107 Try.f107 := ⟨Try.func107, by kernel_rfl, rfl⟩
theorem fi108 : FnI Try.prog 108 Try.f108 := ⟨Try.func108, by kernel_rfl, rfl⟩
theorem fi109 : FnI Try.prog 109 Try.f109 := ⟨Try.func109, by kernel_rfl, rfl⟩
theorem fi110 : FnI Try.prog 110 Try.f110 := ⟨Try.func110, by kernel_rfl, rfl⟩
theorem fi111 : FnI Try.prog 111 Try.f111 := ⟨Try.func111, by kernel_rfl, rfl⟩
theorem fi112 : FnI Try.prog 112 Try.f112 := ⟨Try.func112, by kernel_rfl, rfl⟩
theorem fi113 : FnI Try.prog 113 Try.f113 := ⟨Try.func113, by kernel_rfl, rfl⟩
theorem fi114 : FnI Try.prog 114 Try.f114 := ⟨Try.func114, by kernel_rfl, rfl⟩
theorem fi115 : FnI Try.prog 115 Try.f115 := ⟨Try.func115, by kernel_rfl, rfl⟩
theorem fi116 : FnI Try.prog 116 Try.f116 := ⟨Try.func116, by kernel_rfl, rfl⟩
theorem fi117 : FnI Try.prog 117 Try.f117 := ⟨Try.func117, by kernel_rfl, rfl⟩
theorem fi118 : FnI Try.prog 118 Try.f118 := ⟨Try.func118, by kernel_rfl, rfl⟩
theorem fi119 : FnI Try.prog 119 Try.f119 := ⟨Try.func119, by kernel_rfl, rfl⟩
theorem fi120 : FnI Try.prog 120 Try.f120 := ⟨Try.func120, by kernel_rfl, rfl⟩
theorem fi121 : FnI Try.prog 121 Try.f121 := ⟨Try.func121, by kernel_rfl, rfl⟩
theorem fi122 : FnI Try.prog 122 Try.f122 := ⟨Try.func122, by kernel_rfl, rfl⟩
theorem fi123 : FnI Try.prog 123 Try.f123 := ⟨Try.func123, by kernel_rfl, rfl⟩
theorem fi124 : FnI Try.prog 124 Try.f124 := ⟨Try.func124, by kernel_rfl, rfl⟩
theorem fi125 : FnI Try.prog 125 Try.f125 := ⟨Try.func125, by kernel_rfl, rfl⟩
theorem fi126 : FnI Try.prog 126 Try.f126 := ⟨Try.func126, by kernel_rfl, rfl⟩
theorem fi127 : FnI Try.prog 127 Try.f127 := ⟨Try.func127, by kernel_rfl, rfl⟩
theorem fi128 : FnI Try.prog 128 Try.f128 := ⟨Try.func128, by kernel_rfl, rfl⟩
theorem fi129 : FnI Try.prog 129 Try.f129 := ⟨Try.func129, by kernel_rfl, rfl⟩
theorem fi130 : FnI Try.prog 130 Try.f130 := ⟨Try.func130, by kernel_rfl, rfl⟩
theorem fi131 : FnI Try.prog 131 Try.f131 := ⟨Try.func131, by kernel_rfl, rfl⟩
theorem fi132 : FnI Try.prog 132 Try.f132 := ⟨Try.func132, by kernel_rfl, rfl⟩
theorem fi133 : FnI Try.prog 133 Try.f133 := ⟨Try.func133, by kernel_rfl, rfl⟩
theorem fi134 : FnI Try.prog 134 Try.f134 := ⟨Try.func134, by kernel_rfl, rfl⟩
theorem fi135 : FnI Try.prog 135 Try.f135 := ⟨Try.func135, by kernel_rfl, rfl⟩
theorem fi136 : FnI Try.prog 136 Try.f136 := ⟨Try.func136, by kernel_rfl, rfl⟩
theorem fi137 : FnI Try.prog 137 Try.f137 := ⟨Try.func137, by kernel_rfl, rfl⟩
theorem fi138 : FnI Try.prog 138 Try.f138 := ⟨Try.func138, by kernel_rfl, rfl⟩
end Go.Proofs.Ytobigfbgaiglkaa
