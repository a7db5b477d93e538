import Derived.Test.YtgedefcjngofkaaFacts
import Derived.Test.YtgedefcjngofkaaPDice
import Derived.Test.YtgedefcjngofkaaPRec
import Derived.Test.YtgedefcjngofkaaPCoord2
import Derived.Test.YtgedefcjngofkaaAmB
set_option maxHeartbeats 8000000
set_option linter.unusedSimpArgs false
set_option linter.unusedVariables false
set_option maxRecDepth 100000
namespace Go.Proofs.Ytgedefcjngofkaa
open Go Go.Proofs.Ytgedefcjngofkaa.AM
theorem dec_int {x : List AV} (h : Shaped Try.prog 3 x) : ∃ n : Int, pack Try.prog 3 x = AV.int .i64 n ∧ x = [.int .i64 n] ∧ I64 n := by
  obtain ⟨n, rfl, h1, h2⟩ := shaped_int ty3 h
  exact ⟨n, pack_one ty3 rfl _, rfl, h1, h2⟩
theorem dec_api_Span {x : List AV} (h : Shaped Try.prog 24 x) : ∃ s : Sp, pack Try.prog 24 x = encSp s ∧ .agg x = encSp s ∧ (fun s => I64 s.lo ∧ I64 s.hi) s := by
  obtain ⟨l, rfl, hs⟩ := shaped_struct (ts := [3, 3]) ty24 (by kernel_rfl) h
  match l, hs with
  | [l0, l1], ⟨h0, h1, _⟩ =>
    obtain ⟨x0, _, e0, g0⟩ := dec_int h0
    obtain ⟨x1, _, e1, g1⟩ := dec_int h1
    have c0 := e0
    have c1 := e1
    refine ⟨⟨x0, x1⟩, ?_, ?_, ⟨g0, g1⟩⟩
    · rw [pack_agg ty24 rfl]; rw [c0, c1]; rfl
    · rw [c0, c1]; rfl
theorem dec_bool {x : List AV} (h : Shaped Try.prog 4 x) : ∃ n : Bool, pack Try.prog 4 x = AV.bool n ∧ x = [.bool n] ∧ True := by
  obtain ⟨n, rfl⟩ := shaped_bool ty4 h
  exact ⟨n, pack_one ty4 rfl _, rfl, trivial⟩
theorem dec_uint8 {x : List AV} (h : Shaped Try.prog 5 x) : ∃ n : Int, pack Try.prog 5 x = AV.int .u8 n ∧ x = [.int .u8 n] ∧ U8 n := by
  obtain ⟨n, rfl, h1, h2⟩ := shaped_int ty5 h
  exact ⟨n, pack_one ty5 rfl _, rfl, h1, h2⟩
theorem dec_Luint8 {x : List AV} (h : Shaped Try.prog 129 x) : ∃ l : List Int, pack Try.prog 129 x = AV.imm (l.map (AV.int .u8)) ∧ x = [.imm (l.map (AV.int .u8))] ∧ l.length * 1 ≤ 140737488351232 ∧ ∀ y ∈ l, U8 y := by
  obtain ⟨l, rfl, hb, hg⟩ := shaped_list (AV.int .u8) U8 ty129 h (fun y hy => by obtain ⟨n, h1, _, h2⟩ := dec_uint8 hy; exact ⟨n, h1, h2⟩)
  exact ⟨l, pack_one ty129 rfl _, rfl, reach_len ty5 hb, hg⟩
theorem dec_api_Field {x : List AV} (h : Shaped Try.prog 131 x) : ∃ s : Fd, pack Try.prog 131 x = encFd s ∧ .agg x = encFd s ∧ (fun s => I64 s.tag ∧ s.data.length * 1 ≤ 140737488351232 ∧ ∀ y ∈ s.data, U8 y) s := by
  obtain ⟨l, rfl, hs⟩ := shaped_struct (ts := [3, 129]) ty131 (by kernel_rfl) h
  match l, hs with
  | [l0, l1], ⟨h0, h1, _⟩ =>
    obtain ⟨x0, _, e0, g0⟩ := dec_int h0
    obtain ⟨x1, _, e1, g1⟩ := dec_Luint8 h1
    have c0 := e0
    have c1 := e1
    refine ⟨⟨x0, x1⟩, ?_, ?_, ⟨g0, g1⟩⟩
    · rw [pack_agg ty131 rfl]; rw [c0, c1]; rfl
    · rw [c0, c1]; rfl
theorem dec_Lapi_Field {x : List AV} (h : Shaped Try.prog 30 x) : ∃ l : List Fd, pack Try.prog 30 x = AV.imm (l.map encFd) ∧ x = [.imm (l.map encFd)] ∧ l.length * 32 ≤ 140737488351232 ∧ ∀ y ∈ l, (fun (s : Fd) => I64 s.tag ∧ s.data.length * 1 ≤ 140737488351232 ∧ ∀ y ∈ s.data, U8 y) y := by
  obtain ⟨l, rfl, hb, hg⟩ := shaped_list encFd (fun (s : Fd) => I64 s.tag ∧ s.data.length * 1 ≤ 140737488351232 ∧ ∀ y ∈ s.data, U8 y) ty30 h (fun y hy => by obtain ⟨n, h1, _, h2⟩ := dec_api_Field hy; exact ⟨n, h1, h2⟩)
  exact ⟨l, pack_one ty30 rfl _, rfl, reach_len ty131 hb, hg⟩
theorem dec_api_Rec {x : List AV} (h : Shaped Try.prog 32 x) : ∃ s : Rc, pack Try.prog 32 x = encR s ∧ .agg x = encR s ∧ (fun s => I64 s.id ∧ I64 s.inc ∧ I64 s.st ∧ (I64 s.sp.lo ∧ I64 s.sp.hi) ∧ s.bag.length * 32 ≤ 140737488351232 ∧ ∀ f ∈ s.bag, I64 f.tag ∧ f.data.length * 1 ≤ 140737488351232 ∧ ∀ y ∈ f.data, U8 y) s := by
  obtain ⟨l, rfl, hs⟩ := shaped_struct (ts := [3, 3, 3, 24, 4, 30]) ty32 (by kernel_rfl) h
  match l, hs with
  | [l0, l1, l2, l3, l4, l5], ⟨h0, h1, h2, h3, h4, h5, _⟩ =>
    obtain ⟨x0, _, e0, g0⟩ := dec_int h0
    obtain ⟨x1, _, e1, g1⟩ := dec_int h1
    obtain ⟨x2, _, e2, g2⟩ := dec_int h2
    obtain ⟨x3, _, e3, g3⟩ := dec_api_Span h3
    obtain ⟨x4, _, e4, g4⟩ := dec_bool h4
    obtain ⟨x5, _, e5, g5⟩ := dec_Lapi_Field h5
    have c0 := e0
    have c1 := e1
    have c2 := e2
    have c3 := AV.agg.inj e3
    have c4 := e4
    have c5 := e5
    refine ⟨⟨x0, x1, x2, x3, x4, x5⟩, ?_, ?_, ⟨g0, g1, g2, g3, g5⟩⟩
    · rw [pack_agg ty32 rfl]; rw [c0, c1, c2, c3, c4, c5]; rfl
    · rw [c0, c1, c2, c3, c4, c5]; rfl
theorem dec_Lapi_Rec {x : List AV} (h : Shaped Try.prog 22 x) : ∃ l : List Rc, pack Try.prog 22 x = AV.imm (l.map encR) ∧ x = [.imm (l.map encR)] ∧ l.length * 72 ≤ 140737488351232 ∧ ∀ y ∈ l, (fun (s : Rc) => I64 s.id ∧ I64 s.inc ∧ I64 s.st ∧ (I64 s.sp.lo ∧ I64 s.sp.hi) ∧ s.bag.length * 32 ≤ 140737488351232 ∧ ∀ f ∈ s.bag, I64 f.tag ∧ f.data.length * 1 ≤ 140737488351232 ∧ ∀ y ∈ f.data, U8 y) y := by
  obtain ⟨l, rfl, hb, hg⟩ := shaped_list encR (fun (s : Rc) => I64 s.id ∧ I64 s.inc ∧ I64 s.st ∧ (I64 s.sp.lo ∧ I64 s.sp.hi) ∧ s.bag.length * 32 ≤ 140737488351232 ∧ ∀ f ∈ s.bag, I64 f.tag ∧ f.data.length * 1 ≤ 140737488351232 ∧ ∀ y ∈ f.data, U8 y) ty22 h (fun y hy => by obtain ⟨n, h1, _, h2⟩ := dec_api_Rec hy; exact ⟨n, h1, h2⟩)
  exact ⟨l, pack_one ty22 rfl _, rfl, reach_len ty32 hb, hg⟩
theorem dec_polyglotlaw33_Want {x : List AV} (h : Shaped Try.prog 57 x) : ∃ s : Wn, pack Try.prog 57 x = encWn s ∧ .agg x = encWn s ∧ (fun s => s.view.length * 72 ≤ 140737488351232 ∧ ∀ y ∈ s.view, (fun s => I64 s.id ∧ I64 s.inc ∧ I64 s.st ∧ (I64 s.sp.lo ∧ I64 s.sp.hi) ∧ s.bag.length * 32 ≤ 140737488351232 ∧ ∀ f ∈ s.bag, I64 f.tag ∧ f.data.length * 1 ≤ 140737488351232 ∧ ∀ y ∈ f.data, U8 y) y) s := by
  obtain ⟨l, rfl, hs⟩ := shaped_struct (ts := [22, 3, 3]) ty57 (by kernel_rfl) h
  match l, hs with
  | [l0, l1, l2], ⟨h0, h1, h2, _⟩ =>
    obtain ⟨x0, _, e0, g0⟩ := dec_Lapi_Rec h0
    obtain ⟨x1, _, e1, g1⟩ := dec_int h1
    obtain ⟨x2, _, e2, g2⟩ := dec_int h2
    have c0 := e0
    have c1 := e1
    have c2 := e2
    refine ⟨⟨x0, x1, x2⟩, ?_, ?_, g0⟩
    · rw [pack_agg ty57 rfl]; rw [c0, c1, c2]; rfl
    · rw [c0, c1, c2]; rfl
theorem dec_Lpolyglotlaw33_Want {x : List AV} (h : Shaped Try.prog 52 x) : ∃ l : List Wn, pack Try.prog 52 x = AV.imm (l.map encWn) ∧ x = [.imm (l.map encWn)] ∧ l.length * 40 ≤ 140737488351232 ∧ ∀ y ∈ l, (fun (s : Wn) => s.view.length * 72 ≤ 140737488351232 ∧ ∀ y ∈ s.view, (fun s => I64 s.id ∧ I64 s.inc ∧ I64 s.st ∧ (I64 s.sp.lo ∧ I64 s.sp.hi) ∧ s.bag.length * 32 ≤ 140737488351232 ∧ ∀ f ∈ s.bag, I64 f.tag ∧ f.data.length * 1 ≤ 140737488351232 ∧ ∀ y ∈ f.data, U8 y) y) y := by
  obtain ⟨l, rfl, hb, hg⟩ := shaped_list encWn (fun (s : Wn) => s.view.length * 72 ≤ 140737488351232 ∧ ∀ y ∈ s.view, (fun s => I64 s.id ∧ I64 s.inc ∧ I64 s.st ∧ (I64 s.sp.lo ∧ I64 s.sp.hi) ∧ s.bag.length * 32 ≤ 140737488351232 ∧ ∀ f ∈ s.bag, I64 f.tag ∧ f.data.length * 1 ≤ 140737488351232 ∧ ∀ y ∈ f.data, U8 y) y) ty52 h (fun y hy => by obtain ⟨n, h1, _, h2⟩ := dec_polyglotlaw33_Want hy; exact ⟨n, h1, h2⟩)
  exact ⟨l, pack_one ty52 rfl _, rfl, reach_len ty57 hb, hg⟩
end Go.Proofs.Ytgedefcjngofkaa
