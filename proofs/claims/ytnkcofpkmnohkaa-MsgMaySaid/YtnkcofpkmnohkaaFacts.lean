/- What the loaded program's tables say of its types and functions, each a closed fact. -/
import Derived.Test.YtnkcofpkmnohkaaAm24
import Derived.Test.YtnkcofpkmnohkaaProg
import Derived.KernelRfl
namespace Go.Proofs.Ytnkcofpkmnohkaa
open Go.Proofs.Ytnkcofpkmnohkaa.AM
def fsOf (P : Program) (T : TypeId) : Array Go.Field := match P.underlying T with
  | some (.struct fs) => fs
  | _ => #[]
theorem ty2 : TyI Try.prog 2 (.int .i64) 1 (some (.int .i64 0)) 8 := ⟨by kernel_rfl, by kernel_rfl⟩
theorem ty3 : TyI Try.prog 3 (.int .i64) 1 (some (.int .i64 0)) 8 := ⟨by kernel_rfl, by kernel_rfl⟩
theorem ty4 : TyI Try.prog 4 .bool 1 (some (.bool false)) 1 := ⟨by kernel_rfl, by kernel_rfl⟩
theorem ty5 : TyI Try.prog 5 (.int .u8) 1 (some (.int .u8 0)) 1 := ⟨by kernel_rfl, by kernel_rfl⟩
theorem ty6 : TyI Try.prog 6 (.int .u8) 1 (some (.int .u8 0)) 1 := ⟨by kernel_rfl, by kernel_rfl⟩
theorem ty7 : TyI Try.prog 7 (.struct (fsOf Try.prog 7)) 4 (some (.agg #[(.int .i64 0), (.int .i64 0), (.bool false), (.int .u8 0)])) 24 := ⟨by kernel_rfl, by kernel_rfl⟩
theorem fo7_0 : ((fsOf Try.prog 7)[0]?).map (fun x => (x.offset, x.type)) = some (0, 2) := by kernel_rfl
theorem fo7_1 : ((fsOf Try.prog 7)[1]?).map (fun x => (x.offset, x.type)) = some (1, 3) := by kernel_rfl
theorem fo7_2 : ((fsOf Try.prog 7)[2]?).map (fun x => (x.offset, x.type)) = some (2, 4) := by kernel_rfl
theorem fo7_3 : ((fsOf Try.prog 7)[3]?).map (fun x => (x.offset, x.type)) = some (3, 6) := by kernel_rfl
theorem pl7 : Places Try.prog (fsOf Try.prog 7) #[(0, 1), (1, 1), (2, 1), (3, 1)] := fun w => by kernel_rfl
theorem ty8 : TyI Try.prog 8 (.struct (fsOf Try.prog 8)) 4 (some (.agg #[(.int .i64 0), (.int .i64 0), (.bool false), (.int .u8 0)])) 24 := ⟨by kernel_rfl, by kernel_rfl⟩
theorem fo8_0 : ((fsOf Try.prog 8)[0]?).map (fun x => (x.offset, x.type)) = some (0, 2) := by kernel_rfl
theorem fo8_1 : ((fsOf Try.prog 8)[1]?).map (fun x => (x.offset, x.type)) = some (1, 3) := by kernel_rfl
theorem fo8_2 : ((fsOf Try.prog 8)[2]?).map (fun x => (x.offset, x.type)) = some (2, 4) := by kernel_rfl
theorem fo8_3 : ((fsOf Try.prog 8)[3]?).map (fun x => (x.offset, x.type)) = some (3, 6) := by kernel_rfl
theorem pl8 : Places Try.prog (fsOf Try.prog 8) #[(0, 1), (1, 1), (2, 1), (3, 1)] := fun w => by kernel_rfl
theorem ty9 : TyI Try.prog 9 .string 1 (some (.string ⟨#[]⟩)) 16 := ⟨by kernel_rfl, by kernel_rfl⟩
theorem ty10 : TyI Try.prog 10 .string 1 (some (.string ⟨#[]⟩)) 16 := ⟨by kernel_rfl, by kernel_rfl⟩
theorem ty11 : TyI Try.prog 11 .string 1 (some (.string ⟨#[]⟩)) 16 := ⟨by kernel_rfl, by kernel_rfl⟩
theorem ty12 : TyI Try.prog 12 (.int .u64) 1 (some (.int .u64 0)) 8 := ⟨by kernel_rfl, by kernel_rfl⟩
theorem ty13 : TyI Try.prog 13 (.struct (fsOf Try.prog 13)) 2 (some (.agg #[(.string ⟨#[]⟩), (.int .u64 0)])) 24 := ⟨by kernel_rfl, by kernel_rfl⟩
theorem fo13_0 : ((fsOf Try.prog 13)[0]?).map (fun x => (x.offset, x.type)) = some (0, 9) := by kernel_rfl
theorem fo13_1 : ((fsOf Try.prog 13)[1]?).map (fun x => (x.offset, x.type)) = some (1, 12) := by kernel_rfl
theorem pl13 : Places Try.prog (fsOf Try.prog 13) #[(0, 1), (1, 1)] := fun w => by kernel_rfl
theorem ty14 : TyI Try.prog 14 (.struct (fsOf Try.prog 14)) 2 (some (.agg #[(.string ⟨#[]⟩), (.int .u64 0)])) 24 := ⟨by kernel_rfl, by kernel_rfl⟩
theorem fo14_0 : ((fsOf Try.prog 14)[0]?).map (fun x => (x.offset, x.type)) = some (0, 9) := by kernel_rfl
theorem fo14_1 : ((fsOf Try.prog 14)[1]?).map (fun x => (x.offset, x.type)) = some (1, 12) := by kernel_rfl
theorem pl14 : Places Try.prog (fsOf Try.prog 14) #[(0, 1), (1, 1)] := fun w => by kernel_rfl
theorem ty15 : TyI Try.prog 15 (.pointer 95) 1 (some (.pointer none)) 8 := ⟨by kernel_rfl, by kernel_rfl⟩
theorem ty16 : TyI Try.prog 16 (.pointer 98) 1 (some (.pointer none)) 8 := ⟨by kernel_rfl, by kernel_rfl⟩
theorem ty17 : TyI Try.prog 17 (.pointer 108) 1 (some (.pointer none)) 8 := ⟨by kernel_rfl, by kernel_rfl⟩
theorem ty18 : TyI Try.prog 18 (.struct (fsOf Try.prog 18)) 1 (some (.agg #[(.pointer none)])) 8 := ⟨by kernel_rfl, by kernel_rfl⟩
theorem fo18_0 : ((fsOf Try.prog 18)[0]?).map (fun x => (x.offset, x.type)) = some (0, 17) := by kernel_rfl
theorem pl18 : Places Try.prog (fsOf Try.prog 18) #[(0, 1)] := fun w => by kernel_rfl
theorem ty19 : TyI Try.prog 19 (.struct (fsOf Try.prog 19)) 1 (some (.agg #[(.pointer none)])) 8 := ⟨by kernel_rfl, by kernel_rfl⟩
theorem fo19_0 : ((fsOf Try.prog 19)[0]?).map (fun x => (x.offset, x.type)) = some (0, 17) := by kernel_rfl
theorem pl19 : Places Try.prog (fsOf Try.prog 19) #[(0, 1)] := fun w => by kernel_rfl
theorem ty21 : TyI Try.prog 21 (.int .i32) 1 (some (.int .i32 0)) 4 := ⟨by kernel_rfl, by kernel_rfl⟩
theorem ty23 : TyI Try.prog 23 (.slice 28) 1 (some (.slice none 0 0)) 24 := ⟨by kernel_rfl, by kernel_rfl⟩
theorem ty24 : TyI Try.prog 24 (.struct (fsOf Try.prog 24)) 2 (some (.agg #[(.int .i64 0), (.int .i64 0)])) 16 := ⟨by kernel_rfl, by kernel_rfl⟩
theorem st24 : intFields Try.prog 24 = true := by kernel_rfl
theorem st24l : (fsOf Try.prog 24).toList.length = 2 := by kernel_rfl
theorem fo24_0 : ((fsOf Try.prog 24)[0]?).map (fun x => (x.offset, x.type)) = some (0, 3) := by kernel_rfl
theorem fo24_1 : ((fsOf Try.prog 24)[1]?).map (fun x => (x.offset, x.type)) = some (1, 3) := by kernel_rfl
theorem pl24 : Places Try.prog (fsOf Try.prog 24) #[(0, 1), (1, 1)] := fun w => by kernel_rfl
theorem ty25 : TyI Try.prog 25 (.struct (fsOf Try.prog 25)) 2 (some (.agg #[(.int .i64 0), (.int .i64 0)])) 16 := ⟨by kernel_rfl, by kernel_rfl⟩
theorem st25 : intFields Try.prog 25 = true := by kernel_rfl
theorem st25l : (fsOf Try.prog 25).toList.length = 2 := by kernel_rfl
theorem fo25_0 : ((fsOf Try.prog 25)[0]?).map (fun x => (x.offset, x.type)) = some (0, 3) := by kernel_rfl
theorem fo25_1 : ((fsOf Try.prog 25)[1]?).map (fun x => (x.offset, x.type)) = some (1, 3) := by kernel_rfl
theorem pl25 : Places Try.prog (fsOf Try.prog 25) #[(0, 1), (1, 1)] := fun w => by kernel_rfl
theorem ty26 : TyI Try.prog 26 (.slice 77) 1 (some (.slice none 0 0)) 24 := ⟨by kernel_rfl, by kernel_rfl⟩
theorem ty27 : TyI Try.prog 27 (.struct (fsOf Try.prog 27)) 7 (some (.agg #[(.int .i64 0), (.int .i64 0), (.int .i64 0), (.int .i64 0), (.int .i64 0), (.bool false), (.slice none 0 0)])) 72 := ⟨by kernel_rfl, by kernel_rfl⟩
theorem fo27_0 : ((fsOf Try.prog 27)[0]?).map (fun x => (x.offset, x.type)) = some (0, 3) := by kernel_rfl
theorem fo27_1 : ((fsOf Try.prog 27)[1]?).map (fun x => (x.offset, x.type)) = some (1, 3) := by kernel_rfl
theorem fo27_2 : ((fsOf Try.prog 27)[2]?).map (fun x => (x.offset, x.type)) = some (2, 3) := by kernel_rfl
theorem fo27_3 : ((fsOf Try.prog 27)[3]?).map (fun x => (x.offset, x.type)) = some (3, 25) := by kernel_rfl
theorem fo27_4 : ((fsOf Try.prog 27)[4]?).map (fun x => (x.offset, x.type)) = some (5, 4) := by kernel_rfl
theorem fo27_5 : ((fsOf Try.prog 27)[5]?).map (fun x => (x.offset, x.type)) = some (6, 26) := by kernel_rfl
theorem pl27 : Places Try.prog (fsOf Try.prog 27) #[(0, 1), (1, 1), (2, 1), (3, 2), (5, 1), (6, 1)] := fun w => by kernel_rfl
theorem ty28 : TyI Try.prog 28 (.struct (fsOf Try.prog 28)) 7 (some (.agg #[(.int .i64 0), (.int .i64 0), (.int .i64 0), (.int .i64 0), (.int .i64 0), (.bool false), (.slice none 0 0)])) 72 := ⟨by kernel_rfl, by kernel_rfl⟩
theorem fo28_0 : ((fsOf Try.prog 28)[0]?).map (fun x => (x.offset, x.type)) = some (0, 3) := by kernel_rfl
theorem fo28_1 : ((fsOf Try.prog 28)[1]?).map (fun x => (x.offset, x.type)) = some (1, 3) := by kernel_rfl
theorem fo28_2 : ((fsOf Try.prog 28)[2]?).map (fun x => (x.offset, x.type)) = some (2, 3) := by kernel_rfl
theorem fo28_3 : ((fsOf Try.prog 28)[3]?).map (fun x => (x.offset, x.type)) = some (3, 25) := by kernel_rfl
theorem fo28_4 : ((fsOf Try.prog 28)[4]?).map (fun x => (x.offset, x.type)) = some (5, 4) := by kernel_rfl
theorem fo28_5 : ((fsOf Try.prog 28)[5]?).map (fun x => (x.offset, x.type)) = some (6, 26) := by kernel_rfl
theorem pl28 : Places Try.prog (fsOf Try.prog 28) #[(0, 1), (1, 1), (2, 1), (3, 2), (5, 1), (6, 1)] := fun w => by kernel_rfl
theorem ty29 : TyI Try.prog 29 (.struct (fsOf Try.prog 29)) 11 (some (.agg #[(.int .i64 0), (.int .i64 0), (.int .i64 0), (.int .i64 0), (.int .i64 0), (.int .i64 0), (.int .i64 0), (.int .i64 0), (.int .i64 0), (.int .i64 0), (.slice none 0 0)])) 104 := ⟨by kernel_rfl, by kernel_rfl⟩
theorem fo29_0 : ((fsOf Try.prog 29)[0]?).map (fun x => (x.offset, x.type)) = some (0, 3) := by kernel_rfl
theorem fo29_1 : ((fsOf Try.prog 29)[1]?).map (fun x => (x.offset, x.type)) = some (1, 3) := by kernel_rfl
theorem fo29_2 : ((fsOf Try.prog 29)[2]?).map (fun x => (x.offset, x.type)) = some (2, 3) := by kernel_rfl
theorem fo29_3 : ((fsOf Try.prog 29)[3]?).map (fun x => (x.offset, x.type)) = some (3, 25) := by kernel_rfl
theorem fo29_4 : ((fsOf Try.prog 29)[4]?).map (fun x => (x.offset, x.type)) = some (5, 3) := by kernel_rfl
theorem fo29_5 : ((fsOf Try.prog 29)[5]?).map (fun x => (x.offset, x.type)) = some (6, 3) := by kernel_rfl
theorem fo29_6 : ((fsOf Try.prog 29)[6]?).map (fun x => (x.offset, x.type)) = some (7, 3) := by kernel_rfl
theorem fo29_7 : ((fsOf Try.prog 29)[7]?).map (fun x => (x.offset, x.type)) = some (8, 3) := by kernel_rfl
theorem fo29_8 : ((fsOf Try.prog 29)[8]?).map (fun x => (x.offset, x.type)) = some (9, 3) := by kernel_rfl
theorem fo29_9 : ((fsOf Try.prog 29)[9]?).map (fun x => (x.offset, x.type)) = some (10, 23) := by kernel_rfl
theorem pl29 : Places Try.prog (fsOf Try.prog 29) #[(0, 1), (1, 1), (2, 1), (3, 2), (5, 1), (6, 1), (7, 1), (8, 1), (9, 1), (10, 1)] := fun w => by kernel_rfl
theorem ty30 : TyI Try.prog 30 (.struct (fsOf Try.prog 30)) 11 (some (.agg #[(.int .i64 0), (.int .i64 0), (.int .i64 0), (.int .i64 0), (.int .i64 0), (.int .i64 0), (.int .i64 0), (.int .i64 0), (.int .i64 0), (.int .i64 0), (.slice none 0 0)])) 104 := ⟨by kernel_rfl, by kernel_rfl⟩
theorem fo30_0 : ((fsOf Try.prog 30)[0]?).map (fun x => (x.offset, x.type)) = some (0, 3) := by kernel_rfl
theorem fo30_1 : ((fsOf Try.prog 30)[1]?).map (fun x => (x.offset, x.type)) = some (1, 3) := by kernel_rfl
theorem fo30_2 : ((fsOf Try.prog 30)[2]?).map (fun x => (x.offset, x.type)) = some (2, 3) := by kernel_rfl
theorem fo30_3 : ((fsOf Try.prog 30)[3]?).map (fun x => (x.offset, x.type)) = some (3, 25) := by kernel_rfl
theorem fo30_4 : ((fsOf Try.prog 30)[4]?).map (fun x => (x.offset, x.type)) = some (5, 3) := by kernel_rfl
theorem fo30_5 : ((fsOf Try.prog 30)[5]?).map (fun x => (x.offset, x.type)) = some (6, 3) := by kernel_rfl
theorem fo30_6 : ((fsOf Try.prog 30)[6]?).map (fun x => (x.offset, x.type)) = some (7, 3) := by kernel_rfl
theorem fo30_7 : ((fsOf Try.prog 30)[7]?).map (fun x => (x.offset, x.type)) = some (8, 3) := by kernel_rfl
theorem fo30_8 : ((fsOf Try.prog 30)[8]?).map (fun x => (x.offset, x.type)) = some (9, 3) := by kernel_rfl
theorem fo30_9 : ((fsOf Try.prog 30)[9]?).map (fun x => (x.offset, x.type)) = some (10, 23) := by kernel_rfl
theorem pl30 : Places Try.prog (fsOf Try.prog 30) #[(0, 1), (1, 1), (2, 1), (3, 2), (5, 1), (6, 1), (7, 1), (8, 1), (9, 1), (10, 1)] := fun w => by kernel_rfl
theorem ty34 : TyI Try.prog 34 (.int .i64) 1 (some (.int .i64 0)) 8 := ⟨by kernel_rfl, by kernel_rfl⟩
theorem ty36 : TyI Try.prog 36 (.slice 9) 1 (some (.slice none 0 0)) 24 := ⟨by kernel_rfl, by kernel_rfl⟩
theorem ty41 : TyI Try.prog 41 (.slice 3) 1 (some (.slice none 0 0)) 24 := ⟨by kernel_rfl, by kernel_rfl⟩
theorem ty68 : TyI Try.prog 68 (.struct (fsOf Try.prog 68)) 2 (some (.agg #[(.string ⟨#[]⟩), (.int .u8 0)])) 24 := ⟨by kernel_rfl, by kernel_rfl⟩
theorem fo68_0 : ((fsOf Try.prog 68)[0]?).map (fun x => (x.offset, x.type)) = some (0, 9) := by kernel_rfl
theorem fo68_1 : ((fsOf Try.prog 68)[1]?).map (fun x => (x.offset, x.type)) = some (1, 5) := by kernel_rfl
theorem pl68 : Places Try.prog (fsOf Try.prog 68) #[(0, 1), (1, 1)] := fun w => by kernel_rfl
theorem ty69 : TyI Try.prog 69 (.struct (fsOf Try.prog 69)) 2 (some (.agg #[(.string ⟨#[]⟩), (.int .u8 0)])) 24 := ⟨by kernel_rfl, by kernel_rfl⟩
theorem fo69_0 : ((fsOf Try.prog 69)[0]?).map (fun x => (x.offset, x.type)) = some (0, 9) := by kernel_rfl
theorem fo69_1 : ((fsOf Try.prog 69)[1]?).map (fun x => (x.offset, x.type)) = some (1, 5) := by kernel_rfl
theorem pl69 : Places Try.prog (fsOf Try.prog 69) #[(0, 1), (1, 1)] := fun w => by kernel_rfl
theorem ty73 : TyI Try.prog 73 (.array 10 69) 20 (some (.agg #[(.string ⟨#[]⟩), (.int .u8 0), (.string ⟨#[]⟩), (.int .u8 0), (.string ⟨#[]⟩), (.int .u8 0), (.string ⟨#[]⟩), (.int .u8 0), (.string ⟨#[]⟩), (.int .u8 0), (.string ⟨#[]⟩), (.int .u8 0), (.string ⟨#[]⟩), (.int .u8 0), (.string ⟨#[]⟩), (.int .u8 0), (.string ⟨#[]⟩), (.int .u8 0), (.string ⟨#[]⟩), (.int .u8 0)])) 240 := ⟨by kernel_rfl, by kernel_rfl⟩
theorem ty75 : TyI Try.prog 75 (.slice 5) 1 (some (.slice none 0 0)) 24 := ⟨by kernel_rfl, by kernel_rfl⟩
theorem ty76 : TyI Try.prog 76 (.struct (fsOf Try.prog 76)) 2 (some (.agg #[(.int .i64 0), (.slice none 0 0)])) 32 := ⟨by kernel_rfl, by kernel_rfl⟩
theorem fo76_0 : ((fsOf Try.prog 76)[0]?).map (fun x => (x.offset, x.type)) = some (0, 3) := by kernel_rfl
theorem fo76_1 : ((fsOf Try.prog 76)[1]?).map (fun x => (x.offset, x.type)) = some (1, 75) := by kernel_rfl
theorem pl76 : Places Try.prog (fsOf Try.prog 76) #[(0, 1), (1, 1)] := fun w => by kernel_rfl
theorem ty77 : TyI Try.prog 77 (.struct (fsOf Try.prog 77)) 2 (some (.agg #[(.int .i64 0), (.slice none 0 0)])) 32 := ⟨by kernel_rfl, by kernel_rfl⟩
theorem fo77_0 : ((fsOf Try.prog 77)[0]?).map (fun x => (x.offset, x.type)) = some (0, 3) := by kernel_rfl
theorem fo77_1 : ((fsOf Try.prog 77)[1]?).map (fun x => (x.offset, x.type)) = some (1, 75) := by kernel_rfl
theorem pl77 : Places Try.prog (fsOf Try.prog 77) #[(0, 1), (1, 1)] := fun w => by kernel_rfl
theorem ty81 : TyI Try.prog 81 (.pointer 28) 1 (some (.pointer none)) 8 := ⟨by kernel_rfl, by kernel_rfl⟩
theorem ty94 : TyI Try.prog 94 (.struct (fsOf Try.prog 94)) 4 (some (.agg #[(.pointer none), (.pointer none), (.pointer none), (.string ⟨#[]⟩)])) 40 := ⟨by kernel_rfl, by kernel_rfl⟩
theorem fo94_0 : ((fsOf Try.prog 94)[0]?).map (fun x => (x.offset, x.type)) = some (0, 17) := by kernel_rfl
theorem fo94_1 : ((fsOf Try.prog 94)[1]?).map (fun x => (x.offset, x.type)) = some (1, 17) := by kernel_rfl
theorem fo94_2 : ((fsOf Try.prog 94)[2]?).map (fun x => (x.offset, x.type)) = some (2, 17) := by kernel_rfl
theorem fo94_3 : ((fsOf Try.prog 94)[3]?).map (fun x => (x.offset, x.type)) = some (3, 9) := by kernel_rfl
theorem pl94 : Places Try.prog (fsOf Try.prog 94) #[(0, 1), (1, 1), (2, 1), (3, 1)] := fun w => by kernel_rfl
theorem ty95 : TyI Try.prog 95 (.struct (fsOf Try.prog 95)) 4 (some (.agg #[(.pointer none), (.pointer none), (.pointer none), (.string ⟨#[]⟩)])) 40 := ⟨by kernel_rfl, by kernel_rfl⟩
theorem fo95_0 : ((fsOf Try.prog 95)[0]?).map (fun x => (x.offset, x.type)) = some (0, 17) := by kernel_rfl
theorem fo95_1 : ((fsOf Try.prog 95)[1]?).map (fun x => (x.offset, x.type)) = some (1, 17) := by kernel_rfl
theorem fo95_2 : ((fsOf Try.prog 95)[2]?).map (fun x => (x.offset, x.type)) = some (2, 17) := by kernel_rfl
theorem fo95_3 : ((fsOf Try.prog 95)[3]?).map (fun x => (x.offset, x.type)) = some (3, 9) := by kernel_rfl
theorem pl95 : Places Try.prog (fsOf Try.prog 95) #[(0, 1), (1, 1), (2, 1), (3, 1)] := fun w => by kernel_rfl
theorem ty96 : TyI Try.prog 96 (.array 0 16) 0 (some (.agg #[])) 0 := ⟨by kernel_rfl, by kernel_rfl⟩
theorem ty97 : TyI Try.prog 97 (.struct (fsOf Try.prog 97)) 0 (some (.agg #[])) 0 := ⟨by kernel_rfl, by kernel_rfl⟩
theorem fo97_0 : ((fsOf Try.prog 97)[0]?).map (fun x => (x.offset, x.type)) = some (0, 96) := by kernel_rfl
theorem pl97 : Places Try.prog (fsOf Try.prog 97) #[(0, 0)] := fun w => by kernel_rfl
theorem ty98 : TyI Try.prog 98 (.struct (fsOf Try.prog 98)) 0 (some (.agg #[])) 0 := ⟨by kernel_rfl, by kernel_rfl⟩
theorem fo98_0 : ((fsOf Try.prog 98)[0]?).map (fun x => (x.offset, x.type)) = some (0, 96) := by kernel_rfl
theorem pl98 : Places Try.prog (fsOf Try.prog 98) #[(0, 0)] := fun w => by kernel_rfl
theorem ty100 : TyI Try.prog 100 (.int .u32) 1 (some (.int .u32 0)) 4 := ⟨by kernel_rfl, by kernel_rfl⟩
theorem ty101 : TyI Try.prog 101 (.int .u8) 1 (some (.int .u8 0)) 1 := ⟨by kernel_rfl, by kernel_rfl⟩
theorem ty102 : TyI Try.prog 102 (.int .u8) 1 (some (.int .u8 0)) 1 := ⟨by kernel_rfl, by kernel_rfl⟩
theorem ty104 : TyI Try.prog 104 (.pointer 5) 1 (some (.pointer none)) 8 := ⟨by kernel_rfl, by kernel_rfl⟩
theorem ty105 : TyI Try.prog 105 (.int .i32) 1 (some (.int .i32 0)) 4 := ⟨by kernel_rfl, by kernel_rfl⟩
theorem ty106 : TyI Try.prog 106 (.int .i32) 1 (some (.int .i32 0)) 4 := ⟨by kernel_rfl, by kernel_rfl⟩
theorem ty107 : TyI Try.prog 107 (.struct (fsOf Try.prog 107)) 11 (some (.agg #[(.int .u64 0), (.int .u64 0), (.int .u32 0), (.int .u8 0), (.int .u8 0), (.int .u8 0), (.int .u8 0), .nilFunc, (.pointer none), (.int .i32 0), (.int .i32 0)])) 48 := ⟨by kernel_rfl, by kernel_rfl⟩
theorem fo107_0 : ((fsOf Try.prog 107)[0]?).map (fun x => (x.offset, x.type)) = some (0, 12) := by kernel_rfl
theorem fo107_1 : ((fsOf Try.prog 107)[1]?).map (fun x => (x.offset, x.type)) = some (1, 12) := by kernel_rfl
theorem fo107_2 : ((fsOf Try.prog 107)[2]?).map (fun x => (x.offset, x.type)) = some (2, 100) := by kernel_rfl
theorem fo107_3 : ((fsOf Try.prog 107)[3]?).map (fun x => (x.offset, x.type)) = some (3, 101) := by kernel_rfl
theorem fo107_4 : ((fsOf Try.prog 107)[4]?).map (fun x => (x.offset, x.type)) = some (4, 5) := by kernel_rfl
theorem fo107_5 : ((fsOf Try.prog 107)[5]?).map (fun x => (x.offset, x.type)) = some (5, 5) := by kernel_rfl
theorem fo107_6 : ((fsOf Try.prog 107)[6]?).map (fun x => (x.offset, x.type)) = some (6, 102) := by kernel_rfl
theorem fo107_7 : ((fsOf Try.prog 107)[7]?).map (fun x => (x.offset, x.type)) = some (7, 103) := by kernel_rfl
theorem fo107_8 : ((fsOf Try.prog 107)[8]?).map (fun x => (x.offset, x.type)) = some (8, 104) := by kernel_rfl
theorem fo107_9 : ((fsOf Try.prog 107)[9]?).map (fun x => (x.offset, x.type)) = some (9, 105) := by kernel_rfl
theorem fo107_10 : ((fsOf Try.prog 107)[10]?).map (fun x => (x.offset, x.type)) = some (10, 106) := by kernel_rfl
theorem pl107 : Places Try.prog (fsOf Try.prog 107) #[(0, 1), (1, 1), (2, 1), (3, 1), (4, 1), (5, 1), (6, 1), (7, 1), (8, 1), (9, 1), (10, 1)] := fun w => by kernel_rfl
theorem ty108 : TyI Try.prog 108 (.struct (fsOf Try.prog 108)) 11 (some (.agg #[(.int .u64 0), (.int .u64 0), (.int .u32 0), (.int .u8 0), (.int .u8 0), (.int .u8 0), (.int .u8 0), .nilFunc, (.pointer none), (.int .i32 0), (.int .i32 0)])) 48 := ⟨by kernel_rfl, by kernel_rfl⟩
theorem fo108_0 : ((fsOf Try.prog 108)[0]?).map (fun x => (x.offset, x.type)) = some (0, 12) := by kernel_rfl
theorem fo108_1 : ((fsOf Try.prog 108)[1]?).map (fun x => (x.offset, x.type)) = some (1, 12) := by kernel_rfl
theorem fo108_2 : ((fsOf Try.prog 108)[2]?).map (fun x => (x.offset, x.type)) = some (2, 100) := by kernel_rfl
theorem fo108_3 : ((fsOf Try.prog 108)[3]?).map (fun x => (x.offset, x.type)) = some (3, 101) := by kernel_rfl
theorem fo108_4 : ((fsOf Try.prog 108)[4]?).map (fun x => (x.offset, x.type)) = some (4, 5) := by kernel_rfl
theorem fo108_5 : ((fsOf Try.prog 108)[5]?).map (fun x => (x.offset, x.type)) = some (5, 5) := by kernel_rfl
theorem fo108_6 : ((fsOf Try.prog 108)[6]?).map (fun x => (x.offset, x.type)) = some (6, 102) := by kernel_rfl
theorem fo108_7 : ((fsOf Try.prog 108)[7]?).map (fun x => (x.offset, x.type)) = some (7, 103) := by kernel_rfl
theorem fo108_8 : ((fsOf Try.prog 108)[8]?).map (fun x => (x.offset, x.type)) = some (8, 104) := by kernel_rfl
theorem fo108_9 : ((fsOf Try.prog 108)[9]?).map (fun x => (x.offset, x.type)) = some (9, 105) := by kernel_rfl
theorem fo108_10 : ((fsOf Try.prog 108)[10]?).map (fun x => (x.offset, x.type)) = some (10, 106) := by kernel_rfl
theorem pl108 : Places Try.prog (fsOf Try.prog 108) #[(0, 1), (1, 1), (2, 1), (3, 1), (4, 1), (5, 1), (6, 1), (7, 1), (8, 1), (9, 1), (10, 1)] := fun w => by kernel_rfl
theorem fi3 : FnI Try.prog 3 Try.f3 := ⟨Try.func3, by kernel_rfl, rfl⟩
theorem fi4 : FnI Try.prog 4 Try.f4 := ⟨Try.func4, by kernel_rfl, rfl⟩
theorem fi5 : FnI Try.prog 5 Try.f5 := ⟨Try.func5, by kernel_rfl, rfl⟩
theorem fi6 : FnI Try.prog 6 Try.f6 := ⟨Try.func6, by kernel_rfl, rfl⟩
theorem fi7 : FnI Try.prog 7 Try.f7 := ⟨Try.func7, by kernel_rfl, rfl⟩
theorem fi8 : FnI Try.prog 8 Try.f8 := ⟨Try.func8, by kernel_rfl, rfl⟩
theorem fi9 : FnI Try.prog 9 Try.f9 := ⟨Try.func9, by kernel_rfl, rfl⟩
theorem fi10 : FnI Try.prog 10 Try.f10 := ⟨Try.func10, by kernel_rfl, rfl⟩
theorem fi11 : FnI Try.prog 11 Try.f11 := ⟨Try.func11, by kernel_rfl, rfl⟩
theorem fi12 : FnI Try.prog 12 Try.f12 := ⟨Try.func12, by kernel_rfl, rfl⟩
theorem fi13 : FnI Try.prog 13 Try.f13 := ⟨Try.func13, by kernel_rfl, rfl⟩
theorem fi14 : FnI Try.prog 14 Try.f14 := ⟨Try.func14, by kernel_rfl, rfl⟩
theorem fi15 : FnI Try.prog 15 Try.f15 := ⟨Try.func15, by kernel_rfl, rfl⟩
theorem fi16 : FnI Try.prog 16 Try.f16 := ⟨Try.func16, by kernel_rfl, rfl⟩
theorem fi17 : FnI Try.prog 17 Try.f17 := ⟨Try.func17, by kernel_rfl, rfl⟩
theorem fi18 : FnI Try.prog 18 Try.f18 := ⟨Try.func18, by kernel_rfl, rfl⟩
theorem fi19 : FnI Try.prog 19 Try.f19 := ⟨Try.func19, by kernel_rfl, rfl⟩
theorem fi20 : FnI Try.prog 20 Try.f20 := ⟨Try.func20, by kernel_rfl, rfl⟩
theorem fi21 : FnI Try.prog 21 Try.f21 := ⟨Try.func21, by kernel_rfl, rfl⟩
theorem fi22 : FnI Try.prog 22 Try.f22 := ⟨Try.func22, by kernel_rfl, rfl⟩
theorem fi23 : FnI Try.prog 23 Try.f23 := ⟨Try.func23, by kernel_rfl, rfl⟩
theorem fi24 : FnI Try.prog 24 Try.f24 := ⟨Try.func24, by kernel_rfl, rfl⟩
theorem fi25 : FnI Try.prog 25 Try.f25 := ⟨Try.func25, by kernel_rfl, rfl⟩
theorem fi26 : FnI Try.prog 26 Try.f26 := ⟨Try.func26, by kernel_rfl, rfl⟩
theorem fi27 : FnI Try.prog 27 Try.f27 := ⟨Try.func27, by kernel_rfl, rfl⟩
theorem fi28 : FnI Try.prog 28 Try.f28 := ⟨Try.func28, by kernel_rfl, rfl⟩
theorem fi29 : FnI Try.prog 29 Try.f29 := ⟨Try.func29, by kernel_rfl, rfl⟩
theorem fi30 : FnI Try.prog 30 Try.f30 := ⟨Try.func30, by kernel_rfl, rfl⟩
theorem fi31 : FnI Try.prog 31 Try.f31 := ⟨Try.func31, by kernel_rfl, rfl⟩
theorem fi32 : FnI Try.prog 32 Try.f32 := ⟨Try.func32, by kernel_rfl, rfl⟩
theorem fi33 : FnI Try.prog 33 Try.f33 := ⟨Try.func33, by kernel_rfl, rfl⟩
theorem fi34 : FnI Try.prog 34 Try.f34 := ⟨Try.func34, by kernel_rfl, rfl⟩
theorem fi35 : FnI Try.prog 35 Try.f35 := ⟨Try.func35, by kernel_rfl, rfl⟩
theorem fi36 : FnI Try.prog 36 Try.f36 := ⟨Try.func36, by kernel_rfl, rfl⟩
theorem fi37 : FnI Try.prog 37 Try.f37 := ⟨Try.func37, by kernel_rfl, rfl⟩
theorem fi38 : FnI Try.prog 38 Try.f38 := ⟨Try.func38, by kernel_rfl, rfl⟩
theorem fi39 : FnI Try.prog 39 Try.f39 := ⟨Try.func39, by kernel_rfl, rfl⟩
theorem fi40 : FnI Try.prog 40 Try.f40 := ⟨Try.func40, by kernel_rfl, rfl⟩
theorem fi41 : FnI Try.prog 41 Try.f41 := ⟨Try.func41, by kernel_rfl, rfl⟩
theorem fi42 : FnI Try.prog 42 Try.f42 := ⟨Try.func42, by kernel_rfl, rfl⟩
theorem fi43 : FnI Try.prog 43 Try.f43 := ⟨Try.func43, by kernel_rfl, rfl⟩
theorem fi44 : FnI Try.prog 44 Try.f44 := ⟨Try.func44, by kernel_rfl, rfl⟩
theorem fi45 : FnI Try.prog 45 Try.f45 := ⟨Try.func45, by kernel_rfl, rfl⟩
theorem fi46 : FnI Try.prog 46 Try.f46 := ⟨Try.func46, by kernel_rfl, rfl⟩
theorem fi47 : FnI Try.prog 47 Try.f47 := ⟨Try.func47, by kernel_rfl, rfl⟩
theorem fi48 : FnI Try.prog 48 Try.f48 := ⟨Try.func48, by kernel_rfl, rfl⟩
theorem fi49 : FnI Try.prog 49 Try.f49 := ⟨Try.func49, by kernel_rfl, rfl⟩
theorem fi50 : FnI Try.prog 50 Try.f50 := ⟨Try.func50, by kernel_rfl, rfl⟩
theorem fi51 : FnI Try.prog 51 Try.f51 := ⟨Try.func51, by kernel_rfl, rfl⟩
theorem fi52 : FnI Try.prog 52 Try.f52 := ⟨Try.func52, by kernel_rfl, rfl⟩
theorem fi53 : FnI Try.prog 53 Try.f53 := ⟨Try.func53, by kernel_rfl, rfl⟩
theorem fi54 : FnI Try.prog 54 Try.f54 := ⟨Try.func54, by kernel_rfl, rfl⟩
theorem fi55 : FnI Try.prog 55 Try.f55 := ⟨Try.func55, by kernel_rfl, rfl⟩
theorem fi56 : FnI Try.prog 56 Try.f56 := ⟨Try.func56, by kernel_rfl, rfl⟩
theorem fi57 : FnI Try.prog 57 Try.f57 := ⟨Try.func57, by kernel_rfl, rfl⟩
theorem fi58 : FnI Try.prog 58 Try.f58 := ⟨Try.func58, by kernel_rfl, rfl⟩
theorem fi59 : FnI Try.prog 59 Try.f59 := ⟨Try.func59, by kernel_rfl, rfl⟩
theorem fi60 : FnI Try.prog 60 Try.f60 := ⟨Try.func60, by kernel_rfl, rfl⟩
theorem fi61 : FnI Try.prog 61 Try.f61 := ⟨Try.func61, by kernel_rfl, rfl⟩
theorem fi62 : FnI Try.prog 62 Try.f62 := ⟨Try.func62, by kernel_rfl, rfl⟩
theorem fi63 : FnI Try.prog 63 Try.f63 := ⟨Try.func63, by kernel_rfl, rfl⟩
theorem fi64 : FnI Try.prog 64 Try.f64 := ⟨Try.func64, by kernel_rfl, rfl⟩
theorem fi65 : FnI Try.prog 65 Try.f65 := ⟨Try.func65, by kernel_rfl, rfl⟩
theorem fi66 : FnI Try.prog 66 Try.f66 := ⟨Try.func66, by kernel_rfl, rfl⟩
theorem fi67 : FnI Try.prog 67 Try.f67 := ⟨Try.func67, by kernel_rfl, rfl⟩
theorem fi68 : FnI Try.prog 68 Try.f68 := ⟨Try.func68, by kernel_rfl, rfl⟩
theorem fi69 : FnI Try.prog 69 Try.f69 := ⟨Try.func69, by kernel_rfl, rfl⟩
theorem fi70 : FnI Try.prog 70 Try.f70 := ⟨Try.func70, by kernel_rfl, rfl⟩
theorem fi71 : FnI Try.prog 71 Try.f71 := ⟨Try.func71, by kernel_rfl, rfl⟩
theorem fi72 : FnI Try.prog 72 Try.f72 := ⟨Try.func72, by kernel_rfl, rfl⟩
theorem fi73 : FnI Try.prog 73 Try.f73 := ⟨Try.func73, by kernel_rfl, rfl⟩
theorem fi74 : FnI Try.prog 74 Try.f74 := ⟨Try.func74, by kernel_rfl, rfl⟩
theorem fi75 : FnI Try.prog 75 Try.f75 := ⟨Try.func75, by kernel_rfl, rfl⟩
theorem fi76 : FnI Try.prog 76 Try.f76 := ⟨Try.func76, by kernel_rfl, rfl⟩
theorem fi77 : FnI Try.prog 77 Try.f77 := ⟨Try.func77, by kernel_rfl, rfl⟩
theorem fi78 : FnI Try.prog 78 Try.f78 := ⟨Try.func78, by kernel_rfl, rfl⟩
theorem fi79 : FnI Try.prog 79 Try.f79 := ⟨Try.func79, by kernel_rfl, rfl⟩
theorem fi80 : FnI Try.prog 80 Try.f80 := ⟨Try.func80, by kernel_rfl, rfl⟩
end Go.Proofs.Ytnkcofpkmnohkaa
