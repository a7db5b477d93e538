/- What the loaded program's tables say of its types and functions, each a closed fact. -/
import Derived.Test.YtgipbhfblmblcaaAmB
import Derived.Test.YtgipbhfblmblcaaProg
import Derived.KernelRfl
namespace Go.Proofs.Ytgipbhfblmblcaa
open Go.Proofs.Ytgipbhfblmblcaa.AM
def fsOf (P : Program) (T : TypeId) : Array Go.Field := match P.underlying T with
  | some (.struct fs) => fs
  | _ => #[]
theorem ty3 : TyI Try.prog 3 (.int .i64) 1 (some (.int .i64 0)) 8 := ⟨by kernel_rfl, by kernel_rfl⟩
theorem ty4 : TyI Try.prog 4 .bool 1 (some (.bool false)) 1 := ⟨by kernel_rfl, by kernel_rfl⟩
theorem ty5 : TyI Try.prog 5 (.int .u8) 1 (some (.int .u8 0)) 1 := ⟨by kernel_rfl, by kernel_rfl⟩
theorem ty22 : TyI Try.prog 22 (.slice 46) 1 (some (.slice none 0 0)) 24 := ⟨by kernel_rfl, by kernel_rfl⟩
theorem ty43 : TyI Try.prog 43 (.struct (fsOf Try.prog 43)) 2 (some (.agg #[(.int .i64 0), (.int .i64 0)])) 16 := ⟨by kernel_rfl, by kernel_rfl⟩
theorem st43 : intFields Try.prog 43 = true := by kernel_rfl
theorem st43l : (fsOf Try.prog 43).toList.length = 2 := by kernel_rfl
theorem fo43_0 : ((fsOf Try.prog 43)[0]?).map (fun x => (x.offset, x.type)) = some (0, 3) := by kernel_rfl
theorem fo43_1 : ((fsOf Try.prog 43)[1]?).map (fun x => (x.offset, x.type)) = some (1, 3) := by kernel_rfl
theorem pl43 : Places Try.prog (fsOf Try.prog 43) #[(0, 1), (1, 1)] := fun w => by kernel_rfl
theorem ty44 : TyI Try.prog 44 (.slice 130) 1 (some (.slice none 0 0)) 24 := ⟨by kernel_rfl, by kernel_rfl⟩
theorem ty46 : TyI Try.prog 46 (.struct (fsOf Try.prog 46)) 7 (some (.agg #[(.int .i64 0), (.int .i64 0), (.int .i64 0), (.int .i64 0), (.int .i64 0), (.bool false), (.slice none 0 0)])) 72 := ⟨by kernel_rfl, by kernel_rfl⟩
theorem fo46_0 : ((fsOf Try.prog 46)[0]?).map (fun x => (x.offset, x.type)) = some (0, 3) := by kernel_rfl
theorem fo46_1 : ((fsOf Try.prog 46)[1]?).map (fun x => (x.offset, x.type)) = some (1, 3) := by kernel_rfl
theorem fo46_2 : ((fsOf Try.prog 46)[2]?).map (fun x => (x.offset, x.type)) = some (2, 3) := by kernel_rfl
theorem fo46_3 : ((fsOf Try.prog 46)[3]?).map (fun x => (x.offset, x.type)) = some (3, 43) := by kernel_rfl
theorem fo46_4 : ((fsOf Try.prog 46)[4]?).map (fun x => (x.offset, x.type)) = some (5, 4) := by kernel_rfl
theorem fo46_5 : ((fsOf Try.prog 46)[5]?).map (fun x => (x.offset, x.type)) = some (6, 44) := by kernel_rfl
theorem pl46 : Places Try.prog (fsOf Try.prog 46) #[(0, 1), (1, 1), (2, 1), (3, 2), (5, 1), (6, 1)] := fun w => by kernel_rfl
theorem ty48 : TyI Try.prog 48 (.pointer 110) 1 (some (.pointer none)) 8 := ⟨by kernel_rfl, by kernel_rfl⟩
theorem ty61 : TyI Try.prog 61 (.struct (fsOf Try.prog 61)) 3 (some (.agg #[(.int .i64 0), (.int .i64 0), (.slice none 0 0)])) 40 := ⟨by kernel_rfl, by kernel_rfl⟩
theorem fo61_0 : ((fsOf Try.prog 61)[0]?).map (fun x => (x.offset, x.type)) = some (0, 3) := by kernel_rfl
theorem fo61_1 : ((fsOf Try.prog 61)[1]?).map (fun x => (x.offset, x.type)) = some (1, 3) := by kernel_rfl
theorem fo61_2 : ((fsOf Try.prog 61)[2]?).map (fun x => (x.offset, x.type)) = some (2, 22) := by kernel_rfl
theorem pl61 : Places Try.prog (fsOf Try.prog 61) #[(0, 1), (1, 1), (2, 1)] := fun w => by kernel_rfl
theorem ty65 : TyI Try.prog 65 (.struct (fsOf Try.prog 65)) 8 (some (.agg #[(.int .i64 0), (.int .i64 0), (.int .i64 0), (.int .i64 0), (.int .i64 0), (.int .i64 0), (.bool false), (.slice none 0 0)])) 80 := ⟨by kernel_rfl, by kernel_rfl⟩
theorem fo65_0 : ((fsOf Try.prog 65)[0]?).map (fun x => (x.offset, x.type)) = some (0, 3) := by kernel_rfl
theorem fo65_1 : ((fsOf Try.prog 65)[1]?).map (fun x => (x.offset, x.type)) = some (1, 46) := by kernel_rfl
theorem pl65 : Places Try.prog (fsOf Try.prog 65) #[(0, 1), (1, 7)] := fun w => by kernel_rfl
theorem ty71 : TyI Try.prog 71 (.slice 3) 1 (some (.slice none 0 0)) 24 := ⟨by kernel_rfl, by kernel_rfl⟩
theorem ty76 : TyI Try.prog 76 (.slice 87) 1 (some (.slice none 0 0)) 24 := ⟨by kernel_rfl, by kernel_rfl⟩
theorem ty78 : TyI Try.prog 78 (.pointer 125) 1 (some (.pointer none)) 8 := ⟨by kernel_rfl, by kernel_rfl⟩
theorem ty81 : TyI Try.prog 81 (.slice 4) 1 (some (.slice none 0 0)) 24 := ⟨by kernel_rfl, by kernel_rfl⟩
theorem ty82 : TyI Try.prog 82 (.slice 61) 1 (some (.slice none 0 0)) 24 := ⟨by kernel_rfl, by kernel_rfl⟩
theorem ty83 : TyI Try.prog 83 (.slice 97) 1 (some (.slice none 0 0)) 24 := ⟨by kernel_rfl, by kernel_rfl⟩
theorem ty85 : TyI Try.prog 85 (.struct (fsOf Try.prog 85)) 4 (some (.agg #[(.slice none 0 0), (.slice none 0 0), (.slice none 0 0), (.slice none 0 0)])) 96 := ⟨by kernel_rfl, by kernel_rfl⟩
theorem fo85_0 : ((fsOf Try.prog 85)[0]?).map (fun x => (x.offset, x.type)) = some (0, 81) := by kernel_rfl
theorem fo85_1 : ((fsOf Try.prog 85)[1]?).map (fun x => (x.offset, x.type)) = some (1, 82) := by kernel_rfl
theorem fo85_2 : ((fsOf Try.prog 85)[2]?).map (fun x => (x.offset, x.type)) = some (2, 71) := by kernel_rfl
theorem fo85_3 : ((fsOf Try.prog 85)[3]?).map (fun x => (x.offset, x.type)) = some (3, 83) := by kernel_rfl
theorem pl85 : Places Try.prog (fsOf Try.prog 85) #[(0, 1), (1, 1), (2, 1), (3, 1)] := fun w => by kernel_rfl
theorem ty87 : TyI Try.prog 87 (.struct (fsOf Try.prog 87)) 6 (some (.agg #[(.int .i64 0), (.int .i64 0), (.int .i64 0), (.int .i64 0), (.int .i64 0), (.slice none 0 0)])) 64 := ⟨by kernel_rfl, by kernel_rfl⟩
theorem fo87_0 : ((fsOf Try.prog 87)[0]?).map (fun x => (x.offset, x.type)) = some (0, 3) := by kernel_rfl
theorem fo87_1 : ((fsOf Try.prog 87)[1]?).map (fun x => (x.offset, x.type)) = some (1, 3) := by kernel_rfl
theorem fo87_2 : ((fsOf Try.prog 87)[2]?).map (fun x => (x.offset, x.type)) = some (2, 3) := by kernel_rfl
theorem fo87_3 : ((fsOf Try.prog 87)[3]?).map (fun x => (x.offset, x.type)) = some (3, 3) := by kernel_rfl
theorem fo87_4 : ((fsOf Try.prog 87)[4]?).map (fun x => (x.offset, x.type)) = some (4, 3) := by kernel_rfl
theorem fo87_5 : ((fsOf Try.prog 87)[5]?).map (fun x => (x.offset, x.type)) = some (5, 22) := by kernel_rfl
theorem pl87 : Places Try.prog (fsOf Try.prog 87) #[(0, 1), (1, 1), (2, 1), (3, 1), (4, 1), (5, 1)] := fun w => by kernel_rfl
theorem ty97 : TyI Try.prog 97 (.struct (fsOf Try.prog 97)) 2 (some (.agg #[(.int .i64 0), (.slice none 0 0)])) 32 := ⟨by kernel_rfl, by kernel_rfl⟩
theorem fo97_0 : ((fsOf Try.prog 97)[0]?).map (fun x => (x.offset, x.type)) = some (0, 3) := by kernel_rfl
theorem fo97_1 : ((fsOf Try.prog 97)[1]?).map (fun x => (x.offset, x.type)) = some (1, 22) := by kernel_rfl
theorem pl97 : Places Try.prog (fsOf Try.prog 97) #[(0, 1), (1, 1)] := fun w => by kernel_rfl
theorem ty110 : TyI Try.prog 110 (.struct (fsOf Try.prog 110)) 3 (some (.agg #[(.int .i64 0), (.int .i64 0), (.slice none 0 0)])) 40 := ⟨by kernel_rfl, by kernel_rfl⟩
theorem fo110_0 : ((fsOf Try.prog 110)[0]?).map (fun x => (x.offset, x.type)) = some (0, 3) := by kernel_rfl
theorem fo110_1 : ((fsOf Try.prog 110)[1]?).map (fun x => (x.offset, x.type)) = some (1, 3) := by kernel_rfl
theorem fo110_2 : ((fsOf Try.prog 110)[2]?).map (fun x => (x.offset, x.type)) = some (2, 22) := by kernel_rfl
theorem pl110 : Places Try.prog (fsOf Try.prog 110) #[(0, 1), (1, 1), (2, 1)] := fun w => by kernel_rfl
theorem ty122 : TyI Try.prog 122 (.slice 48) 1 (some (.slice none 0 0)) 24 := ⟨by kernel_rfl, by kernel_rfl⟩
theorem ty123 : TyI Try.prog 123 (.map 3 22) 1 (some (.map none)) 8 := ⟨by kernel_rfl, by kernel_rfl⟩
theorem ty125 : TyI Try.prog 125 (.struct (fsOf Try.prog 125)) 4 (some (.agg #[(.int .i64 0), (.slice none 0 0), (.slice none 0 0), (.map none)])) 64 := ⟨by kernel_rfl, by kernel_rfl⟩
theorem fo125_0 : ((fsOf Try.prog 125)[0]?).map (fun x => (x.offset, x.type)) = some (0, 3) := by kernel_rfl
theorem fo125_1 : ((fsOf Try.prog 125)[1]?).map (fun x => (x.offset, x.type)) = some (1, 122) := by kernel_rfl
theorem fo125_2 : ((fsOf Try.prog 125)[2]?).map (fun x => (x.offset, x.type)) = some (2, 71) := by kernel_rfl
theorem fo125_3 : ((fsOf Try.prog 125)[3]?).map (fun x => (x.offset, x.type)) = some (3, 123) := by kernel_rfl
theorem pl125 : Places Try.prog (fsOf Try.prog 125) #[(0, 1), (1, 1), (2, 1), (3, 1)] := fun w => by kernel_rfl
theorem ty128 : TyI Try.prog 128 (.slice 5) 1 (some (.slice none 0 0)) 24 := ⟨by kernel_rfl, by kernel_rfl⟩
theorem ty130 : TyI Try.prog 130 (.struct (fsOf Try.prog 130)) 2 (some (.agg #[(.int .i64 0), (.slice none 0 0)])) 32 := ⟨by kernel_rfl, by kernel_rfl⟩
theorem fo130_0 : ((fsOf Try.prog 130)[0]?).map (fun x => (x.offset, x.type)) = some (0, 3) := by kernel_rfl
theorem fo130_1 : ((fsOf Try.prog 130)[1]?).map (fun x => (x.offset, x.type)) = some (1, 128) := by kernel_rfl
theorem pl130 : Places Try.prog (fsOf Try.prog 130) #[(0, 1), (1, 1)] := fun w => by kernel_rfl
theorem ty136 : TyI Try.prog 136 (.pointer 46) 1 (some (.pointer none)) 8 := ⟨by kernel_rfl, by kernel_rfl⟩
theorem fi9 : FnI Try.prog 9 Try.f9 := ⟨Try.func9, by kernel_rfl, rfl⟩
theorem fi11 : FnI Try.prog 11 Try.f11 := ⟨Try.func11, by kernel_rfl, rfl⟩
theorem fi17 : FnI Try.prog 17 Try.f17 := ⟨Try.func17, by kernel_rfl, rfl⟩
theorem fi22 : FnI Try.prog 22 Try.f22 := ⟨Try.func22, by kernel_rfl, rfl⟩
theorem fi24 : FnI Try.prog 24 Try.f24 := ⟨Try.func24, by kernel_rfl, rfl⟩
theorem fi25 : FnI Try.prog 25 Try.f25 := ⟨Try.func25, by kernel_rfl, rfl⟩
theorem fi26 : FnI Try.prog 26 Try.f26 := ⟨Try.func26, by kernel_rfl, rfl⟩
theorem fi27 : FnI Try.prog 27 Try.f27 := ⟨Try.func27, by kernel_rfl, rfl⟩
theorem fi28 : FnI Try.prog 28 Try.f28 := ⟨Try.func28, by kernel_rfl, rfl⟩
theorem fi30 : FnI Try.prog 30 Try.f30 := ⟨Try.func30, by kernel_rfl, rfl⟩
theorem fi32 : FnI Try.prog 32 Try.f32 := ⟨Try.func32, by kernel_rfl, rfl⟩
theorem fi33 : FnI Try.prog 33 Try.f33 := ⟨Try.func33, by kernel_rfl, rfl⟩
theorem fi34 : FnI Try.prog 34 Try.f34 := ⟨Try.func34, by kernel_rfl, rfl⟩
theorem fi39 : FnI Try.prog 39 Try.f39 := ⟨Try.func39, by kernel_rfl, rfl⟩
theorem fi40 : FnI Try.prog 40 Try.f40 := ⟨Try.func40, by kernel_rfl, rfl⟩
theorem fi41 : FnI Try.prog 41 Try.f41 := ⟨Try.func41, by kernel_rfl, rfl⟩
theorem fi42 : FnI Try.prog 42 Try.f42 := ⟨Try.func42, by kernel_rfl, rfl⟩
theorem fi43 : FnI Try.prog 43 Try.f43 := ⟨Try.func43, by kernel_rfl, rfl⟩
theorem fi44 : FnI Try.prog 44 Try.f44 := ⟨Try.func44, by kernel_rfl, rfl⟩
theorem fi45 : FnI Try.prog 45 Try.f45 := ⟨Try.func45, by kernel_rfl, rfl⟩
theorem fi46 : FnI Try.prog 46 Try.f46 := ⟨Try.func46, by kernel_rfl, rfl⟩
theorem fi47 : FnI Try.prog 47 Try.f47 := ⟨Try.func47, by kernel_rfl, rfl⟩
theorem fi48 : FnI Try.prog 48 Try.f48 := ⟨Try.func48, by kernel_rfl, rfl⟩
theorem fi49 : FnI Try.prog 49 Try.f49 := ⟨Try.func49, by kernel_rfl, rfl⟩
theorem fi51 : FnI Try.prog 51 Try.f51 := ⟨Try.func51, by kernel_rfl, rfl⟩
theorem fi55 : FnI Try.prog 55 Try.f55 := ⟨Try.func55, by kernel_rfl, rfl⟩
theorem fi56 : FnI Try.prog 56 Try.f56 := ⟨Try.func56, by kernel_rfl, rfl⟩
theorem fi57 : FnI Try.prog 57 Try.f57 := ⟨Try.func57, by kernel_rfl, rfl⟩
theorem fi58 : FnI Try.prog 58 Try.f58 := ⟨Try.func58, by kernel_rfl, rfl⟩
theorem fi59 : FnI Try.prog 59 Try.f59 := ⟨Try.func59, by kernel_rfl, rfl⟩
theorem fi60 : FnI Try.prog 60 Try.f60 := ⟨Try.func60, by kernel_rfl, rfl⟩
theorem fi61 : FnI Try.prog 61 Try.f61 := ⟨Try.func61, by kernel_rfl, rfl⟩
theorem fi62 : FnI Try.prog 62 Try.f62 := ⟨Try.func62, by kernel_rfl, rfl⟩
theorem fi63 : FnI Try.prog 63 Try.f63 := ⟨Try.func63, by kernel_rfl, rfl⟩
theorem fi64 : FnI Try.prog 64 Try.f64 := ⟨Try.func64, by kernel_rfl, rfl⟩
theorem fi65 : FnI Try.prog 65 Try.f65 := ⟨Try.func65, by kernel_rfl, rfl⟩
theorem fi67 : FnI Try.prog 67 Try.f67 := ⟨Try.func67, by kernel_rfl, rfl⟩
theorem fi68 : FnI Try.prog 68 Try.f68 := ⟨Try.func68, by kernel_rfl, rfl⟩
theorem fi69 : FnI Try.prog 69 Try.f69 := ⟨Try.func69, by kernel_rfl, rfl⟩
theorem fi70 : FnI Try.prog 70 Try.f70 := ⟨Try.func70, by kernel_rfl, rfl⟩
theorem fi71 : FnI Try.prog 71 Try.f71 := ⟨Try.func71, by kernel_rfl, rfl⟩
theorem fi72 : FnI Try.prog 72 Try.f72 := ⟨Try.func72, by kernel_rfl, rfl⟩
theorem fi75 : FnI Try.prog 75 Try.f75 := ⟨Try.func75, by kernel_rfl, rfl⟩
theorem fi76 : FnI Try.prog 76 Try.f76 := ⟨Try.func76, by kernel_rfl, rfl⟩
theorem fi77 : FnI Try.prog 77 Try.f77 := ⟨Try.func77, by kernel_rfl, rfl⟩
theorem fi78 : FnI Try.prog 78 Try.f78 := ⟨Try.func78, by kernel_rfl, rfl⟩
theorem fi79 : FnI Try.prog 79 Try.f79 := ⟨Try.func79, by kernel_rfl, rfl⟩
theorem fi84 : FnI Try.prog 84 Try.f84 := ⟨Try.func84, by kernel_rfl, rfl⟩
theorem fi85 : FnI Try.prog 85 Try.f85 := ⟨Try.func85, by kernel_rfl, rfl⟩
theorem fi86 : FnI Try.prog 86 Try.f86 := ⟨Try.func86, by kernel_rfl, rfl⟩
theorem fi87 : FnI Try.prog 87 Try.f87 := ⟨Try.func87, by kernel_rfl, rfl⟩
theorem fi88 : FnI Try.prog 88 Try.f88 := ⟨Try.func88, by kernel_rfl, rfl⟩
theorem fi89 : FnI Try.prog 89 Try.f89 := ⟨Try.func89, by kernel_rfl, rfl⟩
theorem fi90 : FnI Try.prog 90 Try.f90 := ⟨Try.func90, by kernel_rfl, rfl⟩
theorem fi91 : FnI Try.prog 91 Try.f91 := ⟨Try.func91, by kernel_rfl, rfl⟩
theorem fi92 : FnI Try.prog 92 Try.f92 := ⟨Try.func92, by kernel_rfl, rfl⟩
theorem fi97 : FnI Try.prog 97 Try.f97 := ⟨Try.func97, by kernel_rfl, rfl⟩
theorem fi98 : FnI Try.prog 98 Try.f98 := ⟨Try.func98, by kernel_rfl, rfl⟩
theorem fi99 : FnI Try.prog 99 Try.f99 := ⟨Try.func99, by kernel_rfl, rfl⟩
theorem fi100 : FnI Try.prog 100 Try.f100 := ⟨Try.func100, by kernel_rfl, rfl⟩
theorem fi112 : FnI Try.prog 112 Try.f112 := ⟨Try.func112, by kernel_rfl, rfl⟩
theorem fi113 : FnI Try.prog 113 Try.f113 := ⟨Try.func113, by kernel_rfl, rfl⟩
theorem fi114 : FnI Try.prog 114 Try.f114 := ⟨Try.func114, by kernel_rfl, rfl⟩
theorem fi121 : FnI Try.prog 121 Try.f121 := ⟨Try.func121, by kernel_rfl, rfl⟩
theorem fi123 : FnI Try.prog 123 Try.f123 := ⟨Try.func123, by kernel_rfl, rfl⟩
theorem fi124 : FnI Try.prog 124 Try.f124 := ⟨Try.func124, by kernel_rfl, rfl⟩
end Go.Proofs.Ytgipbhfblmblcaa
