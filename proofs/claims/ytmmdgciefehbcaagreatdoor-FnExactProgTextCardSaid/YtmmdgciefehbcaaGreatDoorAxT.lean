/- A logic of calls over data without addresses: what a function is handed and hands back, told as plain values. No conditions. -/
import Derived.Test.YtmmdgciefehbcaaGreatDoorProg
import Derived.Test.YtmmdgciefehbcaaGreatDoorAx
namespace Go.Proofs.YtmmdgciefehbcaaGreatDoor.Ax

def ytab : List (Nat × Yr) := [(3, ⟨1, 8, .nu .i64⟩), (4, ⟨1, 1, .bo⟩), (5, ⟨1, 1, .nu .u8⟩), (9, ⟨1, 16, .st⟩), (22, ⟨1, 24, .sl 57⟩), (23, ⟨1, 24, .sl 63⟩), (25, ⟨2, 48, .ag [(0, 1), (1, 1)]⟩), (28, ⟨1, 24, .sl 39⟩), (29, ⟨1, 24, .sl 74⟩), (31, ⟨2, 48, .ag [(0, 1), (1, 1)]⟩), (39, ⟨2, 24, .ag [(0, 1), (1, 1)]⟩), (45, ⟨1, 24, .sl 5⟩), (47, ⟨2, 32, .ag [(0, 1), (1, 1)]⟩), (57, ⟨2, 24, .ag [(0, 1), (1, 1)]⟩), (59, ⟨1, 24, .sl 61⟩), (61, ⟨4, 56, .ag [(0, 1), (1, 1), (2, 1), (3, 1)]⟩), (63, ⟨19, 272, .ag [(0, 1), (1, 1), (2, 4), (6, 4), (10, 4), (14, 4), (18, 1)]⟩), (64, ⟨1, 24, .sl 9⟩), (70, ⟨1, 24, .sl 72⟩), (72, ⟨4, 56, .ag [(0, 1), (1, 1), (2, 1), (3, 1)]⟩), (74, ⟨19, 272, .ag [(0, 1), (1, 1), (2, 4), (6, 4), (10, 4), (14, 4), (18, 1)]⟩), (114, ⟨1, 8, .ot⟩), (115, ⟨1, 8, .ot⟩), (117, ⟨1, 24, .sl 64⟩), (124, ⟨16, 224, .ar 4 72⟩), (128, ⟨1, 8, .nu .u64⟩), (137, ⟨1, 8, .nu .u64⟩)]
def ztab : List (Nat × D) := [(3, .i .i64 0), (4, .b false), (5, .i .u8 0), (9, .s ⟨#[]⟩), (22, .sl []), (23, .sl []), (25, .ag [.sl [], .sl []]), (28, .sl []), (29, .sl []), (31, .ag [.sl [], .sl []]), (39, .ag [.s ⟨#[]⟩, .i .i64 0]), (45, .sl []), (57, .ag [.s ⟨#[]⟩, .i .i64 0]), (59, .sl []), (61, .ag [.i .i64 0, .i .i64 0, .s ⟨#[]⟩, .sl []]), (63, .ag [.i .i64 0, .s ⟨#[]⟩, .ag [.i .i64 0, .i .i64 0, .s ⟨#[]⟩, .sl []], .ag [.i .i64 0, .i .i64 0, .s ⟨#[]⟩, .sl []], .ag [.i .i64 0, .i .i64 0, .s ⟨#[]⟩, .sl []], .ag [.i .i64 0, .i .i64 0, .s ⟨#[]⟩, .sl []], .sl []]), (64, .sl []), (70, .sl []), (72, .ag [.i .i64 0, .i .i64 0, .s ⟨#[]⟩, .sl []]), (74, .ag [.i .i64 0, .s ⟨#[]⟩, .ag [.i .i64 0, .i .i64 0, .s ⟨#[]⟩, .sl []], .ag [.i .i64 0, .i .i64 0, .s ⟨#[]⟩, .sl []], .ag [.i .i64 0, .i .i64 0, .s ⟨#[]⟩, .sl []], .ag [.i .i64 0, .i .i64 0, .s ⟨#[]⟩, .sl []], .sl []]), (117, .sl []), (124, .ag [.ag [.i .i64 0, .i .i64 0, .s ⟨#[]⟩, .sl []], .ag [.i .i64 0, .i .i64 0, .s ⟨#[]⟩, .sl []], .ag [.i .i64 0, .i .i64 0, .s ⟨#[]⟩, .sl []], .ag [.i .i64 0, .i .i64 0, .s ⟨#[]⟩, .sl []]]), (128, .i .u64 0), (137, .i .u64 0)]
def Y : Ty := ⟨look ytab, look ztab⟩
theorem hY : TyOk Tryz.prog Y := tyOk_of (by kernel_rfl)
theorem Y3 : Y.Y 3 = some ⟨1, 8, .nu .i64⟩ := rfl
theorem K3 : Y.ky 3 = some (.nu .i64) := rfl
theorem Z3 : Y.Z 3 = some (.i .i64 0) := rfl
theorem Y4 : Y.Y 4 = some ⟨1, 1, .bo⟩ := rfl
theorem K4 : Y.ky 4 = some (.bo) := rfl
theorem Z4 : Y.Z 4 = some (.b false) := rfl
theorem Y5 : Y.Y 5 = some ⟨1, 1, .nu .u8⟩ := rfl
theorem K5 : Y.ky 5 = some (.nu .u8) := rfl
theorem Z5 : Y.Z 5 = some (.i .u8 0) := rfl
theorem Y9 : Y.Y 9 = some ⟨1, 16, .st⟩ := rfl
theorem K9 : Y.ky 9 = some (.st) := rfl
theorem Z9 : Y.Z 9 = some (.s ⟨#[]⟩) := rfl
theorem Y22 : Y.Y 22 = some ⟨1, 24, .sl 57⟩ := rfl
theorem K22 : Y.ky 22 = some (.sl 57) := rfl
theorem Z22 : Y.Z 22 = some (.sl []) := rfl
theorem Y23 : Y.Y 23 = some ⟨1, 24, .sl 63⟩ := rfl
theorem K23 : Y.ky 23 = some (.sl 63) := rfl
theorem Z23 : Y.Z 23 = some (.sl []) := rfl
theorem Y25 : Y.Y 25 = some ⟨2, 48, .ag [(0, 1), (1, 1)]⟩ := rfl
theorem K25 : Y.ky 25 = some (.ag [(0, 1), (1, 1)]) := rfl
theorem Z25 : Y.Z 25 = some (.ag [.sl [], .sl []]) := rfl
theorem Y28 : Y.Y 28 = some ⟨1, 24, .sl 39⟩ := rfl
theorem K28 : Y.ky 28 = some (.sl 39) := rfl
theorem Z28 : Y.Z 28 = some (.sl []) := rfl
theorem Y29 : Y.Y 29 = some ⟨1, 24, .sl 74⟩ := rfl
theorem K29 : Y.ky 29 = some (.sl 74) := rfl
theorem Z29 : Y.Z 29 = some (.sl []) := rfl
theorem Y31 : Y.Y 31 = some ⟨2, 48, .ag [(0, 1), (1, 1)]⟩ := rfl
theorem K31 : Y.ky 31 = some (.ag [(0, 1), (1, 1)]) := rfl
theorem Z31 : Y.Z 31 = some (.ag [.sl [], .sl []]) := rfl
theorem Y39 : Y.Y 39 = some ⟨2, 24, .ag [(0, 1), (1, 1)]⟩ := rfl
theorem K39 : Y.ky 39 = some (.ag [(0, 1), (1, 1)]) := rfl
theorem Z39 : Y.Z 39 = some (.ag [.s ⟨#[]⟩, .i .i64 0]) := rfl
theorem Y45 : Y.Y 45 = some ⟨1, 24, .sl 5⟩ := rfl
theorem K45 : Y.ky 45 = some (.sl 5) := rfl
theorem Z45 : Y.Z 45 = some (.sl []) := rfl
theorem Y47 : Y.Y 47 = some ⟨2, 32, .ag [(0, 1), (1, 1)]⟩ := rfl
theorem K47 : Y.ky 47 = some (.ag [(0, 1), (1, 1)]) := rfl
theorem Y57 : Y.Y 57 = some ⟨2, 24, .ag [(0, 1), (1, 1)]⟩ := rfl
theorem K57 : Y.ky 57 = some (.ag [(0, 1), (1, 1)]) := rfl
theorem Z57 : Y.Z 57 = some (.ag [.s ⟨#[]⟩, .i .i64 0]) := rfl
theorem Y59 : Y.Y 59 = some ⟨1, 24, .sl 61⟩ := rfl
theorem K59 : Y.ky 59 = some (.sl 61) := rfl
theorem Z59 : Y.Z 59 = some (.sl []) := rfl
theorem Y61 : Y.Y 61 = some ⟨4, 56, .ag [(0, 1), (1, 1), (2, 1), (3, 1)]⟩ := rfl
theorem K61 : Y.ky 61 = some (.ag [(0, 1), (1, 1), (2, 1), (3, 1)]) := rfl
theorem Z61 : Y.Z 61 = some (.ag [.i .i64 0, .i .i64 0, .s ⟨#[]⟩, .sl []]) := rfl
theorem Y63 : Y.Y 63 = some ⟨19, 272, .ag [(0, 1), (1, 1), (2, 4), (6, 4), (10, 4), (14, 4), (18, 1)]⟩ := rfl
theorem K63 : Y.ky 63 = some (.ag [(0, 1), (1, 1), (2, 4), (6, 4), (10, 4), (14, 4), (18, 1)]) := rfl
theorem Z63 : Y.Z 63 = some (.ag [.i .i64 0, .s ⟨#[]⟩, .ag [.i .i64 0, .i .i64 0, .s ⟨#[]⟩, .sl []], .ag [.i .i64 0, .i .i64 0, .s ⟨#[]⟩, .sl []], .ag [.i .i64 0, .i .i64 0, .s ⟨#[]⟩, .sl []], .ag [.i .i64 0, .i .i64 0, .s ⟨#[]⟩, .sl []], .sl []]) := rfl
theorem Y64 : Y.Y 64 = some ⟨1, 24, .sl 9⟩ := rfl
theorem K64 : Y.ky 64 = some (.sl 9) := rfl
theorem Z64 : Y.Z 64 = some (.sl []) := rfl
theorem Y70 : Y.Y 70 = some ⟨1, 24, .sl 72⟩ := rfl
theorem K70 : Y.ky 70 = some (.sl 72) := rfl
theorem Z70 : Y.Z 70 = some (.sl []) := rfl
theorem Y72 : Y.Y 72 = some ⟨4, 56, .ag [(0, 1), (1, 1), (2, 1), (3, 1)]⟩ := rfl
theorem K72 : Y.ky 72 = some (.ag [(0, 1), (1, 1), (2, 1), (3, 1)]) := rfl
theorem Z72 : Y.Z 72 = some (.ag [.i .i64 0, .i .i64 0, .s ⟨#[]⟩, .sl []]) := rfl
theorem Y74 : Y.Y 74 = some ⟨19, 272, .ag [(0, 1), (1, 1), (2, 4), (6, 4), (10, 4), (14, 4), (18, 1)]⟩ := rfl
theorem K74 : Y.ky 74 = some (.ag [(0, 1), (1, 1), (2, 4), (6, 4), (10, 4), (14, 4), (18, 1)]) := rfl
theorem Z74 : Y.Z 74 = some (.ag [.i .i64 0, .s ⟨#[]⟩, .ag [.i .i64 0, .i .i64 0, .s ⟨#[]⟩, .sl []], .ag [.i .i64 0, .i .i64 0, .s ⟨#[]⟩, .sl []], .ag [.i .i64 0, .i .i64 0, .s ⟨#[]⟩, .sl []], .ag [.i .i64 0, .i .i64 0, .s ⟨#[]⟩, .sl []], .sl []]) := rfl
theorem Y114 : Y.Y 114 = some ⟨1, 8, .ot⟩ := rfl
theorem K114 : Y.ky 114 = some (.ot) := rfl
theorem Y115 : Y.Y 115 = some ⟨1, 8, .ot⟩ := rfl
theorem K115 : Y.ky 115 = some (.ot) := rfl
theorem Y117 : Y.Y 117 = some ⟨1, 24, .sl 64⟩ := rfl
theorem K117 : Y.ky 117 = some (.sl 64) := rfl
theorem Z117 : Y.Z 117 = some (.sl []) := rfl
theorem Y124 : Y.Y 124 = some ⟨16, 224, .ar 4 72⟩ := rfl
theorem K124 : Y.ky 124 = some (.ar 4 72) := rfl
theorem Z124 : Y.Z 124 = some (.ag [.ag [.i .i64 0, .i .i64 0, .s ⟨#[]⟩, .sl []], .ag [.i .i64 0, .i .i64 0, .s ⟨#[]⟩, .sl []], .ag [.i .i64 0, .i .i64 0, .s ⟨#[]⟩, .sl []], .ag [.i .i64 0, .i .i64 0, .s ⟨#[]⟩, .sl []]]) := rfl
theorem Y128 : Y.Y 128 = some ⟨1, 8, .nu .u64⟩ := rfl
theorem K128 : Y.ky 128 = some (.nu .u64) := rfl
theorem Z128 : Y.Z 128 = some (.i .u64 0) := rfl
theorem Y137 : Y.Y 137 = some ⟨1, 8, .nu .u64⟩ := rfl
theorem K137 : Y.ky 137 = some (.nu .u64) := rfl
theorem Z137 : Y.Z 137 = some (.i .u64 0) := rfl
end Go.Proofs.YtmmdgciefehbcaaGreatDoor.Ax
