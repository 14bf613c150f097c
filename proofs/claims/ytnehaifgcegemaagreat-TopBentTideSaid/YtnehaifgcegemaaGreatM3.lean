/-
  What is proved here: a table of the program's types (cells, fields, elements, zero values) agrees with the program. Conditions: none.
  What is proved here: how the arguments of the laws read. Conditions: none.
  What is proved here: more rules of a small program logic: slices of no elements, stores of structs into elements. Conditions: none; each rule states its own.
  What is proved here: more rules of a small program logic: a range over a function with two variables, maps of numbers, slices of arrays. Conditions: none; each rule states its own.
  What is proved here: contracts of the functions that reduce fractions. Conditions: none; each contract states its own.
  What is proved here: which trials are valid. Conditions: none; each contract states its own.
  What is proved here: the pairs of runs, and the weights of runs before they are in least terms. Conditions: none; each contract states its own.
-/
import Derived.Test.YtnehaifgcegemaaGreatM2
import Derived.Test.YtnehaifgcegemaaGreatChecked
import Derived.KernelRfl
import Derived.Deep.Strs
import Derived.OpenShut
import Derived.DataElems
import Derived.MapKept
import Derived.Carry
set_option linter.unusedVariables false
set_option linter.unusedSimpArgs false
namespace Go.Proofs.YtnehaifgcegemaaGreat
open Go Go.TH
def tyList : List TI := [⟨.none, 0, none⟩,
  ⟨.one, 1, some (.nilFunc)⟩,
  ⟨.int .i64, 1, some (.int .i64 0)⟩,
  ⟨.int .i64, 1, some (.int .i64 0)⟩,
  ⟨.one, 1, some (.bool false)⟩,
  ⟨.int .u8, 1, some (.int .u8 0)⟩,
  ⟨.int .u8, 1, some (.int .u8 0)⟩,
  ⟨.st [(0, 2), (1, 3), (2, 4), (3, 6)], 4, some (.agg #[.int .i64 0, .int .i64 0, .bool false, .int .u8 0])⟩,
  ⟨.st [(0, 2), (1, 3), (2, 4), (3, 6)], 4, some (.agg #[.int .i64 0, .int .i64 0, .bool false, .int .u8 0])⟩,
  ⟨.none, 0, none⟩,
  ⟨.none, 0, none⟩,
  ⟨.none, 0, none⟩,
  ⟨.int .u64, 1, some (.int .u64 0)⟩,
  ⟨.st [(0, 9), (1, 12)], 2, none⟩,
  ⟨.st [(0, 9), (1, 12)], 2, none⟩,
  ⟨.one, 1, some (.pointer none)⟩,
  ⟨.one, 1, some (.pointer none)⟩,
  ⟨.one, 1, some (.pointer none)⟩,
  ⟨.st [(0, 17)], 1, some (.agg #[.pointer none])⟩,
  ⟨.st [(0, 17)], 1, some (.agg #[.pointer none])⟩,
  ⟨.one, 1, some (.nilIface)⟩,
  ⟨.int .i32, 1, some (.int .i32 0)⟩,
  ⟨.sl 98 1 1, 1, some (.slice none 0 0)⟩,
  ⟨.sl 2 1 8, 1, some (.slice none 0 0)⟩,
  ⟨.one, 1, some (.nilFunc)⟩,
  ⟨.sl 31 3 24, 1, some (.slice none 0 0)⟩,
  ⟨.st [(0, 3), (1, 25)], 2, some (.agg #[.int .i64 0, .slice none 0 0])⟩,
  ⟨.st [(0, 3), (1, 25)], 2, some (.agg #[.int .i64 0, .slice none 0 0])⟩,
  ⟨.st [(0, 2), (1, 2)], 2, some (.agg #[.int .i64 0, .int .i64 0])⟩,
  ⟨.st [(0, 2), (1, 2)], 2, some (.agg #[.int .i64 0, .int .i64 0])⟩,
  ⟨.st [(0, 2), (1, 29)], 3, some (.agg #[.int .i64 0, .int .i64 0, .int .i64 0])⟩,
  ⟨.st [(0, 2), (1, 29)], 3, some (.agg #[.int .i64 0, .int .i64 0, .int .i64 0])⟩,
  ⟨.one, 1, some (.nilFunc)⟩,
  ⟨.one, 1, some (.nilFunc)⟩,
  ⟨.one, 1, some (.nilFunc)⟩,
  ⟨.st [(0, 2), (1, 2)], 2, some (.agg #[.int .i64 0, .int .i64 0])⟩,
  ⟨.st [(0, 2), (1, 2)], 2, some (.agg #[.int .i64 0, .int .i64 0])⟩,
  ⟨.int .i64, 1, some (.int .i64 0)⟩,
  ⟨.none, 0, none⟩,
  ⟨.one, 1, some (.nilFunc)⟩,
  ⟨.one, 1, some (.nilFunc)⟩,
  ⟨.none, 0, none⟩,
  ⟨.one, 1, some (.nilFunc)⟩,
  ⟨.one, 1, some (.nilFunc)⟩,
  ⟨.sl 64 4 32, 1, some (.slice none 0 0)⟩,
  ⟨.sl 49 2 16, 1, some (.slice none 0 0)⟩,
  ⟨.one, 1, some (.nilFunc)⟩,
  ⟨.one, 1, some (.nilFunc)⟩,
  ⟨.st [(0, 2), (1, 2)], 2, some (.agg #[.int .i64 0, .int .i64 0])⟩,
  ⟨.st [(0, 2), (1, 2)], 2, some (.agg #[.int .i64 0, .int .i64 0])⟩,
  ⟨.st [(0, 2), (1, 2), (2, 2)], 3, some (.agg #[.int .i64 0, .int .i64 0, .int .i64 0])⟩,
  ⟨.st [(0, 2), (1, 2), (2, 2)], 3, some (.agg #[.int .i64 0, .int .i64 0, .int .i64 0])⟩,
  ⟨.one, 1, some (.nilFunc)⟩,
  ⟨.st [(0, 2), (1, 2), (2, 2), (3, 36)], 5, some (.agg #[.int .i64 0, .int .i64 0, .int .i64 0, .int .i64 0, .int .i64 0])⟩,
  ⟨.st [(0, 2), (1, 2), (2, 2), (3, 36)], 5, some (.agg #[.int .i64 0, .int .i64 0, .int .i64 0, .int .i64 0, .int .i64 0])⟩,
  ⟨.none, 0, none⟩,
  ⟨.one, 1, some (.nilFunc)⟩,
  ⟨.one, 1, some (.nilFunc)⟩,
  ⟨.one, 1, some (.nilFunc)⟩,
  ⟨.one, 1, some (.nilFunc)⟩,
  ⟨.one, 1, some (.nilFunc)⟩,
  ⟨.one, 1, some (.nilFunc)⟩,
  ⟨.one, 1, some (.nilFunc)⟩,
  ⟨.st [(0, 2), (1, 2), (2, 29)], 4, some (.agg #[.int .i64 0, .int .i64 0, .int .i64 0, .int .i64 0])⟩,
  ⟨.st [(0, 2), (1, 2), (2, 29)], 4, some (.agg #[.int .i64 0, .int .i64 0, .int .i64 0, .int .i64 0])⟩,
  ⟨.none, 0, none⟩,
  ⟨.one, 1, some (.nilFunc)⟩,
  ⟨.st [(0, 36), (2, 36)], 4, some (.agg #[.int .i64 0, .int .i64 0, .int .i64 0, .int .i64 0])⟩,
  ⟨.st [(0, 36), (2, 36)], 4, some (.agg #[.int .i64 0, .int .i64 0, .int .i64 0, .int .i64 0])⟩,
  ⟨.none, 0, none⟩,
  ⟨.one, 1, some (.nilFunc)⟩,
  ⟨.none, 0, none⟩,
  ⟨.one, 1, some (.nilFunc)⟩,
  ⟨.sl 140 3 24, 1, some (.slice none 0 0)⟩,
  ⟨.st [(0, 73), (1, 2)], 2, some (.agg #[.slice none 0 0, .int .i64 0])⟩,
  ⟨.st [(0, 73), (1, 2)], 2, some (.agg #[.slice none 0 0, .int .i64 0])⟩,
  ⟨.none, 0, none⟩,
  ⟨.one, 1, some (.nilFunc)⟩,
  ⟨.one, 1, some (.nilFunc)⟩,
  ⟨.sl 36 2 16, 1, some (.slice none 0 0)⟩,
  ⟨.sl 29 2 16, 1, some (.slice none 0 0)⟩,
  ⟨.int .u32, 1, some (.int .u32 0)⟩,
  ⟨.st [(0, 80), (1, 2)], 2, some (.agg #[.slice none 0 0, .int .i64 0])⟩,
  ⟨.st [(0, 80), (1, 2)], 2, some (.agg #[.slice none 0 0, .int .i64 0])⟩,
  ⟨.one, 1, some (.nilFunc)⟩,
  ⟨.none, 0, none⟩,
  ⟨.one, 1, some (.nilFunc)⟩,
  ⟨.none, 0, none⟩,
  ⟨.one, 1, some (.nilFunc)⟩,
  ⟨.none, 0, none⟩,
  ⟨.one, 1, some (.nilFunc)⟩,
  ⟨.one, 1, some (.nilFunc)⟩,
  ⟨.one, 1, some (.nilFunc)⟩,
  ⟨.one, 1, some (.nilFunc)⟩,
  ⟨.one, 1, some (.nilFunc)⟩,
  ⟨.sl 3 1 8, 1, some (.slice none 0 0)⟩,
  ⟨.one, 1, some (.nilFunc)⟩,
  ⟨.one, 1, some (.nilFunc)⟩,
  ⟨.int .i8, 1, some (.int .i8 0)⟩,
  ⟨.one, 1, some (.pointer none)⟩,
  ⟨.none, 0, none⟩,
  ⟨.one, 1, some (.nilFunc)⟩,
  ⟨.one, 1, some (.nilFunc)⟩,
  ⟨.one, 1, some (.nilFunc)⟩,
  ⟨.one, 1, some (.nilFunc)⟩,
  ⟨.one, 1, some (.nilFunc)⟩,
  ⟨.one, 1, some (.nilFunc)⟩,
  ⟨.one, 1, some (.nilFunc)⟩,
  ⟨.one, 1, some (.nilFunc)⟩,
  ⟨.none, 0, none⟩,
  ⟨.one, 1, some (.nilFunc)⟩,
  ⟨.one, 1, some (.nilFunc)⟩,
  ⟨.one, 1, some (.nilFunc)⟩,
  ⟨.one, 1, some (.nilFunc)⟩,
  ⟨.one, 1, some (.nilFunc)⟩,
  ⟨.one, 1, some (.nilFunc)⟩,
  ⟨.sl 152 2 16, 1, some (.slice none 0 0)⟩,
  ⟨.st [(0, 54), (5, 116)], 6, some (.agg #[.int .i64 0, .int .i64 0, .int .i64 0, .int .i64 0, .int .i64 0, .slice none 0 0])⟩,
  ⟨.st [(0, 54), (5, 116)], 6, some (.agg #[.int .i64 0, .int .i64 0, .int .i64 0, .int .i64 0, .int .i64 0, .slice none 0 0])⟩,
  ⟨.one, 1, some (.nilFunc)⟩,
  ⟨.one, 1, some (.nilFunc)⟩,
  ⟨.one, 1, some (.nilFunc)⟩,
  ⟨.one, 1, some (.map none)⟩,
  ⟨.ar 3 2 1, 3, some (.agg #[.int .i64 0, .int .i64 0, .int .i64 0])⟩,
  ⟨.ar 3 2 1, 3, some (.agg #[.int .i64 0, .int .i64 0, .int .i64 0])⟩,
  ⟨.st [(0, 122), (1, 124), (4, 2)], 5, some (.agg #[.map none, .int .i64 0, .int .i64 0, .int .i64 0, .int .i64 0])⟩,
  ⟨.st [(0, 122), (1, 124), (4, 2)], 5, some (.agg #[.map none, .int .i64 0, .int .i64 0, .int .i64 0, .int .i64 0])⟩,
  ⟨.none, 0, none⟩,
  ⟨.one, 1, some (.nilFunc)⟩,
  ⟨.one, 1, some (.nilFunc)⟩,
  ⟨.one, 1, some (.nilFunc)⟩,
  ⟨.one, 1, some (.nilFunc)⟩,
  ⟨.one, 1, some (.nilFunc)⟩,
  ⟨.none, 0, none⟩,
  ⟨.one, 1, some (.pointer none)⟩,
  ⟨.one, 1, some (.nilFunc)⟩,
  ⟨.one, 1, some (.nilFunc)⟩,
  ⟨.one, 1, some (.nilFunc)⟩,
  ⟨.one, 1, some (.nilFunc)⟩,
  ⟨.st [(0, 3), (1, 4), (2, 2)], 3, some (.agg #[.int .i64 0, .bool false, .int .i64 0])⟩,
  ⟨.st [(0, 3), (1, 4), (2, 2)], 3, some (.agg #[.int .i64 0, .bool false, .int .i64 0])⟩,
  ⟨.one, 1, some (.nilFunc)⟩,
  ⟨.none, 0, none⟩,
  ⟨.one, 1, some (.pointer none)⟩,
  ⟨.one, 1, some (.nilFunc)⟩,
  ⟨.one, 1, some (.nilFunc)⟩,
  ⟨.one, 1, some (.nilFunc)⟩,
  ⟨.one, 1, some (.nilFunc)⟩,
  ⟨.one, 1, some (.nilFunc)⟩,
  ⟨.none, 0, none⟩,
  ⟨.one, 1, some (.nilFunc)⟩,
  ⟨.ar 2 2 1, 2, some (.agg #[.int .i64 0, .int .i64 0])⟩,
  ⟨.ar 2 2 1, 2, some (.agg #[.int .i64 0, .int .i64 0])⟩,
  ⟨.one, 1, some (.nilFunc)⟩,
  ⟨.one, 1, some (.nilFunc)⟩,
  ⟨.sl 54 5 40, 1, some (.slice none 0 0)⟩,
  ⟨.one, 1, some (.nilFunc)⟩,
  ⟨.sl 281 4 32, 1, some (.slice none 0 0)⟩,
  ⟨.st [(0, 3), (1, 3), (2, 29), (4, 157)], 5, some (.agg #[.int .i64 0, .int .i64 0, .int .i64 0, .int .i64 0, .slice none 0 0])⟩,
  ⟨.st [(0, 3), (1, 3), (2, 29), (4, 157)], 5, some (.agg #[.int .i64 0, .int .i64 0, .int .i64 0, .int .i64 0, .slice none 0 0])⟩,
  ⟨.one, 1, some (.nilFunc)⟩,
  ⟨.st [(0, 23), (1, 23)], 2, some (.agg #[.slice none 0 0, .slice none 0 0])⟩,
  ⟨.st [(0, 23), (1, 23)], 2, some (.agg #[.slice none 0 0, .slice none 0 0])⟩,
  ⟨.none, 0, none⟩,
  ⟨.one, 1, some (.nilFunc)⟩,
  ⟨.none, 0, none⟩,
  ⟨.one, 1, some (.nilFunc)⟩,
  ⟨.one, 1, some (.nilFunc)⟩,
  ⟨.one, 1, some (.nilFunc)⟩,
  ⟨.none, 0, none⟩,
  ⟨.one, 1, some (.nilFunc)⟩,
  ⟨.one, 1, some (.nilFunc)⟩,
  ⟨.one, 1, some (.nilFunc)⟩,
  ⟨.one, 1, some (.nilFunc)⟩,
  ⟨.one, 1, some (.nilFunc)⟩,
  ⟨.none, 0, none⟩,
  ⟨.one, 1, some (.nilFunc)⟩,
  ⟨.one, 1, some (.nilFunc)⟩,
  ⟨.st [(0, 2), (1, 2), (2, 2), (3, 2), (4, 2), (5, 2), (6, 2)], 7, some (.agg #[.int .i64 0, .int .i64 0, .int .i64 0, .int .i64 0, .int .i64 0, .int .i64 0, .int .i64 0])⟩,
  ⟨.st [(0, 2), (1, 2), (2, 2), (3, 2), (4, 2), (5, 2), (6, 2)], 7, some (.agg #[.int .i64 0, .int .i64 0, .int .i64 0, .int .i64 0, .int .i64 0, .int .i64 0, .int .i64 0])⟩,
  ⟨.one, 1, some (.nilFunc)⟩,
  ⟨.one, 1, some (.nilFunc)⟩,
  ⟨.one, 1, some (.nilFunc)⟩,
  ⟨.one, 1, some (.nilFunc)⟩,
  ⟨.ar 5 2 1, 5, some (.agg #[.int .i64 0, .int .i64 0, .int .i64 0, .int .i64 0, .int .i64 0])⟩,
  ⟨.ar 5 2 1, 5, some (.agg #[.int .i64 0, .int .i64 0, .int .i64 0, .int .i64 0, .int .i64 0])⟩,
  ⟨.st [(0, 27), (2, 185), (7, 2)], 8, some (.agg #[.int .i64 0, .slice none 0 0, .int .i64 0, .int .i64 0, .int .i64 0, .int .i64 0, .int .i64 0, .int .i64 0])⟩,
  ⟨.st [(0, 27), (2, 185), (7, 2)], 8, some (.agg #[.int .i64 0, .slice none 0 0, .int .i64 0, .int .i64 0, .int .i64 0, .int .i64 0, .int .i64 0, .int .i64 0])⟩,
  ⟨.one, 1, some (.nilFunc)⟩,
  ⟨.one, 1, some (.nilFunc)⟩,
  ⟨.one, 1, some (.map none)⟩,
  ⟨.one, 1, some (.nilFunc)⟩,
  ⟨.one, 1, some (.nilFunc)⟩,
  ⟨.one, 1, some (.nilFunc)⟩,
  ⟨.one, 1, some (.nilFunc)⟩,
  ⟨.one, 1, some (.nilFunc)⟩,
  ⟨.one, 1, some (.nilFunc)⟩,
  ⟨.st [(0, 3)], 1, some (.agg #[.int .i64 0])⟩,
  ⟨.st [(0, 3)], 1, some (.agg #[.int .i64 0])⟩,
  ⟨.one, 1, some (.nilFunc)⟩,
  ⟨.none, 0, none⟩,
  ⟨.one, 1, some (.nilFunc)⟩,
  ⟨.one, 1, some (.nilFunc)⟩,
  ⟨.none, 0, none⟩,
  ⟨.one, 1, some (.nilFunc)⟩,
  ⟨.none, 0, none⟩,
  ⟨.one, 1, some (.nilFunc)⟩,
  ⟨.one, 1, some (.nilFunc)⟩,
  ⟨.one, 1, some (.nilFunc)⟩,
  ⟨.one, 1, some (.nilFunc)⟩,
  ⟨.one, 1, some (.nilFunc)⟩,
  ⟨.one, 1, some (.nilFunc)⟩,
  ⟨.one, 1, some (.nilFunc)⟩,
  ⟨.one, 1, some (.nilFunc)⟩,
  ⟨.one, 1, some (.nilFunc)⟩,
  ⟨.one, 1, some (.nilFunc)⟩,
  ⟨.one, 1, some (.nilFunc)⟩,
  ⟨.one, 1, some (.nilFunc)⟩,
  ⟨.one, 1, some (.nilFunc)⟩,
  ⟨.sl 224 10 80, 1, some (.slice none 0 0)⟩,
  ⟨.sl 124 3 24, 1, some (.slice none 0 0)⟩,
  ⟨.st [(0, 219), (1, 220)], 2, some (.agg #[.slice none 0 0, .slice none 0 0])⟩,
  ⟨.st [(0, 219), (1, 220)], 2, some (.agg #[.slice none 0 0, .slice none 0 0])⟩,
  ⟨.st [(0, 64), (4, 124), (7, 124)], 10, some (.agg #[.int .i64 0, .int .i64 0, .int .i64 0, .int .i64 0, .int .i64 0, .int .i64 0, .int .i64 0, .int .i64 0, .int .i64 0, .int .i64 0])⟩,
  ⟨.st [(0, 64), (4, 124), (7, 124)], 10, some (.agg #[.int .i64 0, .int .i64 0, .int .i64 0, .int .i64 0, .int .i64 0, .int .i64 0, .int .i64 0, .int .i64 0, .int .i64 0, .int .i64 0])⟩,
  ⟨.one, 1, some (.nilFunc)⟩,
  ⟨.one, 1, some (.nilFunc)⟩,
  ⟨.one, 1, some (.nilFunc)⟩,
  ⟨.one, 1, some (.nilFunc)⟩,
  ⟨.one, 1, some (.nilFunc)⟩,
  ⟨.one, 1, some (.nilFunc)⟩,
  ⟨.one, 1, some (.nilFunc)⟩,
  ⟨.one, 1, some (.nilFunc)⟩,
  ⟨.sl 339 75 600, 1, some (.slice none 0 0)⟩,
  ⟨.st [(0, 83), (2, 2), (3, 2), (4, 233)], 5, some (.agg #[.slice none 0 0, .int .i64 0, .int .i64 0, .int .i64 0, .slice none 0 0])⟩,
  ⟨.st [(0, 83), (2, 2), (3, 2), (4, 233)], 5, some (.agg #[.slice none 0 0, .int .i64 0, .int .i64 0, .int .i64 0, .slice none 0 0])⟩,
  ⟨.one, 1, some (.nilFunc)⟩,
  ⟨.one, 1, some (.nilFunc)⟩,
  ⟨.one, 1, some (.nilFunc)⟩,
  ⟨.st [(0, 3), (1, 3), (2, 3), (3, 198)], 4, some (.agg #[.int .i64 0, .int .i64 0, .int .i64 0, .int .i64 0])⟩,
  ⟨.st [(0, 3), (1, 3), (2, 3), (3, 198)], 4, some (.agg #[.int .i64 0, .int .i64 0, .int .i64 0, .int .i64 0])⟩,
  ⟨.one, 1, some (.nilFunc)⟩,
  ⟨.none, 0, none⟩,
  ⟨.one, 1, some (.nilFunc)⟩,
  ⟨.one, 1, some (.nilFunc)⟩,
  ⟨.one, 1, some (.nilFunc)⟩,
  ⟨.sl 118 6 64, 1, some (.slice none 0 0)⟩,
  ⟨.one, 1, some (.nilFunc)⟩,
  ⟨.one, 1, some (.nilFunc)⟩,
  ⟨.one, 1, some (.nilFunc)⟩,
  ⟨.one, 1, some (.nilFunc)⟩,
  ⟨.one, 1, some (.nilFunc)⟩,
  ⟨.one, 1, some (.nilFunc)⟩,
  ⟨.one, 1, some (.nilFunc)⟩,
  ⟨.one, 1, some (.nilFunc)⟩,
  ⟨.none, 0, none⟩,
  ⟨.one, 1, some (.nilFunc)⟩,
  ⟨.sl 367 3 40, 1, some (.slice none 0 0)⟩,
  ⟨.one, 1, some (.nilFunc)⟩,
  ⟨.sl 80 1 24, 1, some (.slice none 0 0)⟩,
  ⟨.st [(0, 23), (1, 23), (2, 259)], 3, some (.agg #[.slice none 0 0, .slice none 0 0, .slice none 0 0])⟩,
  ⟨.st [(0, 23), (1, 23), (2, 259)], 3, some (.agg #[.slice none 0 0, .slice none 0 0, .slice none 0 0])⟩,
  ⟨.one, 1, some (.nilFunc)⟩,
  ⟨.sl 23 1 24, 1, some (.slice none 0 0)⟩,
  ⟨.one, 1, some (.nilFunc)⟩,
  ⟨.st [(0, 2), (1, 2)], 2, some (.agg #[.int .i64 0, .int .i64 0])⟩,
  ⟨.st [(0, 2), (1, 2)], 2, some (.agg #[.int .i64 0, .int .i64 0])⟩,
  ⟨.one, 1, some (.nilFunc)⟩,
  ⟨.st [(0, 36), (2, 36)], 4, some (.agg #[.int .i64 0, .int .i64 0, .int .i64 0, .int .i64 0])⟩,
  ⟨.none, 0, none⟩,
  ⟨.one, 1, some (.nilFunc)⟩,
  ⟨.one, 1, some (.nilFunc)⟩,
  ⟨.one, 1, some (.nilFunc)⟩,
  ⟨.st [(0, 2), (1, 2)], 2, some (.agg #[.int .i64 0, .int .i64 0])⟩,
  ⟨.st [(0, 2), (1, 2)], 2, some (.agg #[.int .i64 0, .int .i64 0])⟩,
  ⟨.one, 1, some (.nilFunc)⟩,
  ⟨.none, 0, none⟩,
  ⟨.one, 1, some (.nilFunc)⟩,
  ⟨.sl 266 2 16, 1, some (.slice none 0 0)⟩,
  ⟨.one, 1, some (.nilFunc)⟩,
  ⟨.st [(0, 3), (1, 3), (2, 29)], 4, some (.agg #[.int .i64 0, .int .i64 0, .int .i64 0, .int .i64 0])⟩,
  ⟨.st [(0, 3), (1, 3), (2, 29)], 4, some (.agg #[.int .i64 0, .int .i64 0, .int .i64 0, .int .i64 0])⟩,
  ⟨.one, 1, some (.nilFunc)⟩,
  ⟨.one, 1, some (.pointer none)⟩,
  ⟨.none, 0, none⟩,
  ⟨.one, 1, some (.pointer none)⟩,
  ⟨.one, 1, some (.nilFunc)⟩,
  ⟨.one, 1, some (.nilFunc)⟩,
  ⟨.one, 1, some (.nilFunc)⟩,
  ⟨.none, 0, none⟩,
  ⟨.one, 1, some (.nilFunc)⟩,
  ⟨.one, 1, some (.nilFunc)⟩,
  ⟨.one, 1, some (.nilFunc)⟩,
  ⟨.one, 1, some (.nilFunc)⟩,
  ⟨.st [(0, 4), (1, 2)], 2, some (.agg #[.bool false, .int .i64 0])⟩,
  ⟨.st [(0, 4), (1, 2)], 2, some (.agg #[.bool false, .int .i64 0])⟩,
  ⟨.ar 13 295 2, 26, some (.agg #[.bool false, .int .i64 0, .bool false, .int .i64 0, .bool false, .int .i64 0, .bool false, .int .i64 0, .bool false, .int .i64 0, .bool false, .int .i64 0, .bool false, .int .i64 0, .bool false, .int .i64 0, .bool false, .int .i64 0, .bool false, .int .i64 0, .bool false, .int .i64 0, .bool false, .int .i64 0, .bool false, .int .i64 0])⟩,
  ⟨.ar 13 295 2, 26, some (.agg #[.bool false, .int .i64 0, .bool false, .int .i64 0, .bool false, .int .i64 0, .bool false, .int .i64 0, .bool false, .int .i64 0, .bool false, .int .i64 0, .bool false, .int .i64 0, .bool false, .int .i64 0, .bool false, .int .i64 0, .bool false, .int .i64 0, .bool false, .int .i64 0, .bool false, .int .i64 0, .bool false, .int .i64 0])⟩,
  ⟨.ar 13 297 26, 338, none⟩,
  ⟨.st [(0, 159), (5, 3), (6, 298)], 344, none⟩,
  ⟨.st [(0, 159), (5, 3), (6, 298)], 344, none⟩,
  ⟨.one, 1, some (.nilFunc)⟩,
  ⟨.one, 1, some (.nilFunc)⟩,
  ⟨.one, 1, some (.nilFunc)⟩,
  ⟨.one, 1, some (.nilFunc)⟩,
  ⟨.one, 1, some (.nilFunc)⟩,
  ⟨.one, 1, some (.nilFunc)⟩,
  ⟨.one, 1, some (.nilFunc)⟩,
  ⟨.one, 1, some (.nilFunc)⟩,
  ⟨.one, 1, some (.nilFunc)⟩,
  ⟨.st [(0, 3), (1, 2)], 2, some (.agg #[.int .i64 0, .int .i64 0])⟩,
  ⟨.st [(0, 3), (1, 2)], 2, some (.agg #[.int .i64 0, .int .i64 0])⟩,
  ⟨.one, 1, some (.nilFunc)⟩,
  ⟨.one, 1, some (.nilFunc)⟩,
  ⟨.one, 1, some (.nilFunc)⟩,
  ⟨.one, 1, some (.nilFunc)⟩,
  ⟨.one, 1, some (.nilFunc)⟩,
  ⟨.one, 1, some (.map none)⟩,
  ⟨.one, 1, some (.nilFunc)⟩,
  ⟨.one, 1, some (.nilFunc)⟩,
  ⟨.one, 1, some (.nilFunc)⟩,
  ⟨.one, 1, some (.nilFunc)⟩,
  ⟨.sl 126 5 40, 1, some (.slice none 0 0)⟩,
  ⟨.one, 1, some (.nilFunc)⟩,
  ⟨.one, 1, some (.nilFunc)⟩,
  ⟨.one, 1, some (.nilFunc)⟩,
  ⟨.one, 1, some (.nilFunc)⟩,
  ⟨.one, 1, some (.nilFunc)⟩,
  ⟨.one, 1, some (.nilFunc)⟩,
  ⟨.one, 1, some (.nilFunc)⟩,
  ⟨.one, 1, some (.nilFunc)⟩,
  ⟨.one, 1, some (.nilFunc)⟩,
  ⟨.int .u64, 1, some (.int .u64 0)⟩,
  ⟨.one, 1, some (.nilFunc)⟩,
  ⟨.one, 1, some (.nilFunc)⟩,
  ⟨.one, 1, some (.nilFunc)⟩,
  ⟨.one, 1, some (.nilFunc)⟩,
  ⟨.ar 5 123 3, 15, some (.agg #[.int .i64 0, .int .i64 0, .int .i64 0, .int .i64 0, .int .i64 0, .int .i64 0, .int .i64 0, .int .i64 0, .int .i64 0, .int .i64 0, .int .i64 0, .int .i64 0, .int .i64 0, .int .i64 0, .int .i64 0])⟩,
  ⟨.ar 5 337 15, 75, some (.agg #[.int .i64 0, .int .i64 0, .int .i64 0, .int .i64 0, .int .i64 0, .int .i64 0, .int .i64 0, .int .i64 0, .int .i64 0, .int .i64 0, .int .i64 0, .int .i64 0, .int .i64 0, .int .i64 0, .int .i64 0, .int .i64 0, .int .i64 0, .int .i64 0, .int .i64 0, .int .i64 0, .int .i64 0, .int .i64 0, .int .i64 0, .int .i64 0, .int .i64 0, .int .i64 0, .int .i64 0, .int .i64 0, .int .i64 0, .int .i64 0, .int .i64 0, .int .i64 0, .int .i64 0, .int .i64 0, .int .i64 0, .int .i64 0, .int .i64 0, .int .i64 0, .int .i64 0, .int .i64 0, .int .i64 0, .int .i64 0, .int .i64 0, .int .i64 0, .int .i64 0, .int .i64 0, .int .i64 0, .int .i64 0, .int .i64 0, .int .i64 0, .int .i64 0, .int .i64 0, .int .i64 0, .int .i64 0, .int .i64 0, .int .i64 0, .int .i64 0, .int .i64 0, .int .i64 0, .int .i64 0, .int .i64 0, .int .i64 0, .int .i64 0, .int .i64 0, .int .i64 0, .int .i64 0, .int .i64 0, .int .i64 0, .int .i64 0, .int .i64 0, .int .i64 0, .int .i64 0, .int .i64 0, .int .i64 0, .int .i64 0])⟩,
  ⟨.ar 5 337 15, 75, some (.agg #[.int .i64 0, .int .i64 0, .int .i64 0, .int .i64 0, .int .i64 0, .int .i64 0, .int .i64 0, .int .i64 0, .int .i64 0, .int .i64 0, .int .i64 0, .int .i64 0, .int .i64 0, .int .i64 0, .int .i64 0, .int .i64 0, .int .i64 0, .int .i64 0, .int .i64 0, .int .i64 0, .int .i64 0, .int .i64 0, .int .i64 0, .int .i64 0, .int .i64 0, .int .i64 0, .int .i64 0, .int .i64 0, .int .i64 0, .int .i64 0, .int .i64 0, .int .i64 0, .int .i64 0, .int .i64 0, .int .i64 0, .int .i64 0, .int .i64 0, .int .i64 0, .int .i64 0, .int .i64 0, .int .i64 0, .int .i64 0, .int .i64 0, .int .i64 0, .int .i64 0, .int .i64 0, .int .i64 0, .int .i64 0, .int .i64 0, .int .i64 0, .int .i64 0, .int .i64 0, .int .i64 0, .int .i64 0, .int .i64 0, .int .i64 0, .int .i64 0, .int .i64 0, .int .i64 0, .int .i64 0, .int .i64 0, .int .i64 0, .int .i64 0, .int .i64 0, .int .i64 0, .int .i64 0, .int .i64 0, .int .i64 0, .int .i64 0, .int .i64 0, .int .i64 0, .int .i64 0, .int .i64 0, .int .i64 0, .int .i64 0])⟩,
  ⟨.one, 1, some (.nilFunc)⟩,
  ⟨.one, 1, some (.nilFunc)⟩,
  ⟨.one, 1, some (.nilFunc)⟩,
  ⟨.one, 1, some (.nilFunc)⟩,
  ⟨.one, 1, some (.nilFunc)⟩,
  ⟨.one, 1, some (.nilFunc)⟩,
  ⟨.st [(0, 95), (1, 3)], 2, some (.agg #[.slice none 0 0, .int .i64 0])⟩,
  ⟨.st [(0, 95), (1, 3)], 2, some (.agg #[.slice none 0 0, .int .i64 0])⟩,
  ⟨.one, 1, some (.nilFunc)⟩,
  ⟨.sl 95 1 24, 1, some (.slice none 0 0)⟩,
  ⟨.none, 0, none⟩,
  ⟨.one, 1, some (.nilFunc)⟩,
  ⟨.one, 1, some (.nilFunc)⟩,
  ⟨.sl 485 6 48, 1, some (.slice none 0 0)⟩,
  ⟨.st [(0, 29), (2, 353)], 3, some (.agg #[.int .i64 0, .int .i64 0, .slice none 0 0])⟩,
  ⟨.st [(0, 29), (2, 353)], 3, some (.agg #[.int .i64 0, .int .i64 0, .slice none 0 0])⟩,
  ⟨.one, 1, some (.nilFunc)⟩,
  ⟨.one, 1, some (.nilFunc)⟩,
  ⟨.one, 1, some (.nilFunc)⟩,
  ⟨.one, 1, some (.nilFunc)⟩,
  ⟨.one, 1, some (.nilFunc)⟩,
  ⟨.one, 1, some (.nilFunc)⟩,
  ⟨.one, 1, some (.nilFunc)⟩,
  ⟨.one, 1, some (.nilFunc)⟩,
  ⟨.one, 1, some (.nilFunc)⟩,
  ⟨.one, 1, some (.nilFunc)⟩,
  ⟨.st [(0, 2), (1, 2), (2, 80)], 3, some (.agg #[.int .i64 0, .int .i64 0, .slice none 0 0])⟩,
  ⟨.st [(0, 2), (1, 2), (2, 80)], 3, some (.agg #[.int .i64 0, .int .i64 0, .slice none 0 0])⟩,
  ⟨.one, 1, some (.nilFunc)⟩,
  ⟨.one, 1, some (.map none)⟩,
  ⟨.none, 0, none⟩,
  ⟨.one, 1, some (.nilFunc)⟩,
  ⟨.one, 1, some (.nilFunc)⟩,
  ⟨.one, 1, some (.nilFunc)⟩,
  ⟨.one, 1, some (.nilFunc)⟩,
  ⟨.st [(0, 261)], 3, some (.agg #[.slice none 0 0, .slice none 0 0, .slice none 0 0])⟩,
  ⟨.st [(0, 261)], 3, some (.agg #[.slice none 0 0, .slice none 0 0, .slice none 0 0])⟩,
  ⟨.one, 1, some (.nilFunc)⟩,
  ⟨.one, 1, some (.nilFunc)⟩,
  ⟨.st [(0, 3), (1, 3)], 2, some (.agg #[.int .i64 0, .int .i64 0])⟩,
  ⟨.st [(0, 3), (1, 3)], 2, some (.agg #[.int .i64 0, .int .i64 0])⟩,
  ⟨.one, 1, some (.nilFunc)⟩,
  ⟨.none, 0, none⟩,
  ⟨.one, 1, some (.nilFunc)⟩,
  ⟨.one, 1, some (.nilFunc)⟩,
  ⟨.one, 1, some (.nilFunc)⟩,
  ⟨.one, 1, some (.nilFunc)⟩,
  ⟨.one, 1, some (.nilFunc)⟩,
  ⟨.one, 1, some (.nilFunc)⟩,
  ⟨.one, 1, some (.nilFunc)⟩,
  ⟨.one, 1, some (.nilFunc)⟩,
  ⟨.one, 1, some (.nilFunc)⟩,
  ⟨.one, 1, some (.nilFunc)⟩,
  ⟨.one, 1, some (.nilFunc)⟩,
  ⟨.one, 1, some (.nilFunc)⟩,
  ⟨.one, 1, some (.nilFunc)⟩,
  ⟨.one, 1, some (.nilFunc)⟩,
  ⟨.one, 1, some (.map none)⟩,
  ⟨.st [(0, 285), (1, 296), (27, 397), (28, 3)], 29, some (.agg #[.pointer none, .bool false, .int .i64 0, .bool false, .int .i64 0, .bool false, .int .i64 0, .bool false, .int .i64 0, .bool false, .int .i64 0, .bool false, .int .i64 0, .bool false, .int .i64 0, .bool false, .int .i64 0, .bool false, .int .i64 0, .bool false, .int .i64 0, .bool false, .int .i64 0, .bool false, .int .i64 0, .bool false, .int .i64 0, .map none, .int .i64 0])⟩,
  ⟨.st [(0, 285), (1, 296), (27, 397), (28, 3)], 29, some (.agg #[.pointer none, .bool false, .int .i64 0, .bool false, .int .i64 0, .bool false, .int .i64 0, .bool false, .int .i64 0, .bool false, .int .i64 0, .bool false, .int .i64 0, .bool false, .int .i64 0, .bool false, .int .i64 0, .bool false, .int .i64 0, .bool false, .int .i64 0, .bool false, .int .i64 0, .bool false, .int .i64 0, .bool false, .int .i64 0, .map none, .int .i64 0])⟩,
  ⟨.one, 1, some (.nilFunc)⟩,
  ⟨.one, 1, some (.nilFunc)⟩,
  ⟨.none, 0, none⟩,
  ⟨.one, 1, some (.nilFunc)⟩,
  ⟨.int .i64, 1, some (.int .i64 0)⟩,
  ⟨.none, 0, none⟩,
  ⟨.one, 1, some (.nilFunc)⟩,
  ⟨.one, 1, some (.nilFunc)⟩,
  ⟨.one, 1, some (.nilFunc)⟩,
  ⟨.one, 1, some (.nilFunc)⟩,
  ⟨.one, 1, some (.nilFunc)⟩,
  ⟨.one, 1, some (.nilFunc)⟩,
  ⟨.int .u64, 1, some (.int .u64 0)⟩,
  ⟨.one, 1, some (.nilFunc)⟩,
  ⟨.one, 1, some (.nilFunc)⟩,
  ⟨.none, 0, none⟩,
  ⟨.one, 1, some (.nilFunc)⟩,
  ⟨.one, 1, some (.nilFunc)⟩,
  ⟨.one, 1, some (.nilFunc)⟩,
  ⟨.st [(0, 2), (1, 2), (2, 259)], 3, some (.agg #[.int .i64 0, .int .i64 0, .slice none 0 0])⟩,
  ⟨.st [(0, 2), (1, 2), (2, 259)], 3, some (.agg #[.int .i64 0, .int .i64 0, .slice none 0 0])⟩,
  ⟨.one, 1, some (.nilFunc)⟩,
  ⟨.one, 1, some (.nilFunc)⟩,
  ⟨.one, 1, some (.nilFunc)⟩,
  ⟨.st [(0, 36), (2, 36)], 4, some (.agg #[.int .i64 0, .int .i64 0, .int .i64 0, .int .i64 0])⟩,
  ⟨.none, 0, none⟩,
  ⟨.one, 1, some (.nilFunc)⟩,
  ⟨.none, 0, none⟩,
  ⟨.one, 1, some (.nilFunc)⟩,
  ⟨.one, 1, some (.nilFunc)⟩,
  ⟨.one, 1, some (.nilFunc)⟩,
  ⟨.st [(0, 3), (1, 263)], 2, some (.agg #[.int .i64 0, .slice none 0 0])⟩,
  ⟨.st [(0, 3), (1, 263)], 2, some (.agg #[.int .i64 0, .slice none 0 0])⟩,
  ⟨.one, 1, some (.nilFunc)⟩,
  ⟨.one, 1, some (.nilFunc)⟩,
  ⟨.one, 1, some (.nilFunc)⟩,
  ⟨.st [(0, 23), (1, 2)], 2, some (.agg #[.slice none 0 0, .int .i64 0])⟩,
  ⟨.st [(0, 23), (1, 2)], 2, some (.agg #[.slice none 0 0, .int .i64 0])⟩,
  ⟨.none, 0, none⟩,
  ⟨.one, 1, some (.nilFunc)⟩,
  ⟨.one, 1, some (.nilFunc)⟩,
  ⟨.one, 1, some (.nilFunc)⟩,
  ⟨.one, 1, some (.nilFunc)⟩,
  ⟨.one, 1, some (.nilFunc)⟩,
  ⟨.st [(0, 2), (1, 2), (2, 2), (3, 2), (4, 29), (6, 29), (8, 29), (10, 29), (12, 29), (14, 29)], 16, some (.agg #[.int .i64 0, .int .i64 0, .int .i64 0, .int .i64 0, .int .i64 0, .int .i64 0, .int .i64 0, .int .i64 0, .int .i64 0, .int .i64 0, .int .i64 0, .int .i64 0, .int .i64 0, .int .i64 0, .int .i64 0, .int .i64 0])⟩,
  ⟨.st [(0, 2), (1, 2), (2, 2), (3, 2), (4, 29), (6, 29), (8, 29), (10, 29), (12, 29), (14, 29)], 16, some (.agg #[.int .i64 0, .int .i64 0, .int .i64 0, .int .i64 0, .int .i64 0, .int .i64 0, .int .i64 0, .int .i64 0, .int .i64 0, .int .i64 0, .int .i64 0, .int .i64 0, .int .i64 0, .int .i64 0, .int .i64 0, .int .i64 0])⟩,
  ⟨.one, 1, some (.nilFunc)⟩,
  ⟨.one, 1, some (.nilFunc)⟩,
  ⟨.st [(0, 23), (1, 23)], 2, some (.agg #[.slice none 0 0, .slice none 0 0])⟩,
  ⟨.st [(0, 23), (1, 23)], 2, some (.agg #[.slice none 0 0, .slice none 0 0])⟩,
  ⟨.one, 1, some (.nilFunc)⟩,
  ⟨.none, 0, none⟩,
  ⟨.one, 1, some (.nilFunc)⟩,
  ⟨.one, 1, some (.nilFunc)⟩,
  ⟨.st [(0, 2), (1, 2), (2, 2), (3, 2), (4, 2), (5, 2)], 6, some (.agg #[.int .i64 0, .int .i64 0, .int .i64 0, .int .i64 0, .int .i64 0, .int .i64 0])⟩,
  ⟨.st [(0, 2), (1, 2), (2, 2), (3, 2), (4, 2), (5, 2)], 6, some (.agg #[.int .i64 0, .int .i64 0, .int .i64 0, .int .i64 0, .int .i64 0, .int .i64 0])⟩,
  ⟨.one, 1, some (.nilFunc)⟩,
  ⟨.sl 449 2 48, 1, some (.slice none 0 0)⟩,
  ⟨.none, 0, none⟩,
  ⟨.one, 1, some (.nilFunc)⟩,
  ⟨.sl 445 16 128, 1, some (.slice none 0 0)⟩,
  ⟨.one, 1, some (.nilFunc)⟩,
  ⟨.one, 1, some (.nilFunc)⟩,
  ⟨.one, 1, some (.nilFunc)⟩,
  ⟨.one, 1, some (.pointer none)⟩,
  ⟨.one, 1, some (.nilFunc)⟩,
  ⟨.one, 1, some (.nilFunc)⟩,
  ⟨.one, 1, some (.nilFunc)⟩,
  ⟨.one, 1, some (.pointer none)⟩,
  ⟨.one, 1, some (.nilFunc)⟩,
  ⟨.ar 3 412 1, 3, some (.agg #[.int .u64 0, .int .u64 0, .int .u64 0])⟩,
  ⟨.ar 3 412 1, 3, some (.agg #[.int .u64 0, .int .u64 0, .int .u64 0])⟩,
  ⟨.sl 609 3 40, 1, some (.slice none 0 0)⟩,
  ⟨.st [(0, 471), (3, 3), (4, 95), (5, 472)], 6, some (.agg #[.int .u64 0, .int .u64 0, .int .u64 0, .int .i64 0, .slice none 0 0, .slice none 0 0])⟩,
  ⟨.st [(0, 471), (3, 3), (4, 95), (5, 472)], 6, some (.agg #[.int .u64 0, .int .u64 0, .int .u64 0, .int .i64 0, .slice none 0 0, .slice none 0 0])⟩,
  ⟨.one, 1, some (.nilFunc)⟩,
  ⟨.st [(0, 81), (1, 3)], 2, some (.agg #[.int .u32 0, .int .i64 0])⟩,
  ⟨.st [(0, 81), (1, 3)], 2, some (.agg #[.int .u32 0, .int .i64 0])⟩,
  ⟨.one, 1, some (.nilFunc)⟩,
  ⟨.st [(0, 81)], 1, some (.agg #[.int .u32 0])⟩,
  ⟨.st [(0, 81)], 1, some (.agg #[.int .u32 0])⟩,
  ⟨.one, 1, some (.nilFunc)⟩,
  ⟨.one, 1, some (.nilFunc)⟩,
  ⟨.one, 1, some (.map none)⟩,
  ⟨.st [(0, 2), (1, 29), (3, 2), (4, 2), (5, 2)], 6, some (.agg #[.int .i64 0, .int .i64 0, .int .i64 0, .int .i64 0, .int .i64 0, .int .i64 0])⟩,
  ⟨.st [(0, 2), (1, 29), (3, 2), (4, 2), (5, 2)], 6, some (.agg #[.int .i64 0, .int .i64 0, .int .i64 0, .int .i64 0, .int .i64 0, .int .i64 0])⟩,
  ⟨.one, 1, some (.pointer none)⟩,
  ⟨.none, 0, none⟩,
  ⟨.one, 1, some (.nilFunc)⟩,
  ⟨.ar 8 2 1, 8, some (.agg #[.int .i64 0, .int .i64 0, .int .i64 0, .int .i64 0, .int .i64 0, .int .i64 0, .int .i64 0, .int .i64 0])⟩,
  ⟨.ar 8 489 8, 64, some (.agg #[.int .i64 0, .int .i64 0, .int .i64 0, .int .i64 0, .int .i64 0, .int .i64 0, .int .i64 0, .int .i64 0, .int .i64 0, .int .i64 0, .int .i64 0, .int .i64 0, .int .i64 0, .int .i64 0, .int .i64 0, .int .i64 0, .int .i64 0, .int .i64 0, .int .i64 0, .int .i64 0, .int .i64 0, .int .i64 0, .int .i64 0, .int .i64 0, .int .i64 0, .int .i64 0, .int .i64 0, .int .i64 0, .int .i64 0, .int .i64 0, .int .i64 0, .int .i64 0, .int .i64 0, .int .i64 0, .int .i64 0, .int .i64 0, .int .i64 0, .int .i64 0, .int .i64 0, .int .i64 0, .int .i64 0, .int .i64 0, .int .i64 0, .int .i64 0, .int .i64 0, .int .i64 0, .int .i64 0, .int .i64 0, .int .i64 0, .int .i64 0, .int .i64 0, .int .i64 0, .int .i64 0, .int .i64 0, .int .i64 0, .int .i64 0, .int .i64 0, .int .i64 0, .int .i64 0, .int .i64 0, .int .i64 0, .int .i64 0, .int .i64 0, .int .i64 0])⟩,
  ⟨.st [(0, 355), (3, 490)], 67, some (.agg #[.int .i64 0, .int .i64 0, .slice none 0 0, .int .i64 0, .int .i64 0, .int .i64 0, .int .i64 0, .int .i64 0, .int .i64 0, .int .i64 0, .int .i64 0, .int .i64 0, .int .i64 0, .int .i64 0, .int .i64 0, .int .i64 0, .int .i64 0, .int .i64 0, .int .i64 0, .int .i64 0, .int .i64 0, .int .i64 0, .int .i64 0, .int .i64 0, .int .i64 0, .int .i64 0, .int .i64 0, .int .i64 0, .int .i64 0, .int .i64 0, .int .i64 0, .int .i64 0, .int .i64 0, .int .i64 0, .int .i64 0, .int .i64 0, .int .i64 0, .int .i64 0, .int .i64 0, .int .i64 0, .int .i64 0, .int .i64 0, .int .i64 0, .int .i64 0, .int .i64 0, .int .i64 0, .int .i64 0, .int .i64 0, .int .i64 0, .int .i64 0, .int .i64 0, .int .i64 0, .int .i64 0, .int .i64 0, .int .i64 0, .int .i64 0, .int .i64 0, .int .i64 0, .int .i64 0, .int .i64 0, .int .i64 0, .int .i64 0, .int .i64 0, .int .i64 0, .int .i64 0, .int .i64 0, .int .i64 0])⟩,
  ⟨.st [(0, 355), (3, 490)], 67, some (.agg #[.int .i64 0, .int .i64 0, .slice none 0 0, .int .i64 0, .int .i64 0, .int .i64 0, .int .i64 0, .int .i64 0, .int .i64 0, .int .i64 0, .int .i64 0, .int .i64 0, .int .i64 0, .int .i64 0, .int .i64 0, .int .i64 0, .int .i64 0, .int .i64 0, .int .i64 0, .int .i64 0, .int .i64 0, .int .i64 0, .int .i64 0, .int .i64 0, .int .i64 0, .int .i64 0, .int .i64 0, .int .i64 0, .int .i64 0, .int .i64 0, .int .i64 0, .int .i64 0, .int .i64 0, .int .i64 0, .int .i64 0, .int .i64 0, .int .i64 0, .int .i64 0, .int .i64 0, .int .i64 0, .int .i64 0, .int .i64 0, .int .i64 0, .int .i64 0, .int .i64 0, .int .i64 0, .int .i64 0, .int .i64 0, .int .i64 0, .int .i64 0, .int .i64 0, .int .i64 0, .int .i64 0, .int .i64 0, .int .i64 0, .int .i64 0, .int .i64 0, .int .i64 0, .int .i64 0, .int .i64 0, .int .i64 0, .int .i64 0, .int .i64 0, .int .i64 0, .int .i64 0, .int .i64 0, .int .i64 0])⟩,
  ⟨.one, 1, some (.nilFunc)⟩,
  ⟨.one, 1, some (.nilFunc)⟩,
  ⟨.one, 1, some (.pointer none)⟩,
  ⟨.st [(0, 486), (1, 95), (2, 2)], 3, some (.agg #[.pointer none, .slice none 0 0, .int .i64 0])⟩,
  ⟨.st [(0, 486), (1, 95), (2, 2)], 3, some (.agg #[.pointer none, .slice none 0 0, .int .i64 0])⟩,
  ⟨.one, 1, some (.nilFunc)⟩,
  ⟨.one, 1, some (.map none)⟩,
  ⟨.one, 1, some (.map none)⟩,
  ⟨.one, 1, some (.nilFunc)⟩,
  ⟨.one, 1, some (.nilFunc)⟩,
  ⟨.st [(0, 3), (1, 3)], 2, some (.agg #[.int .i64 0, .int .i64 0])⟩,
  ⟨.st [(0, 3), (1, 3)], 2, some (.agg #[.int .i64 0, .int .i64 0])⟩,
  ⟨.one, 1, some (.nilFunc)⟩,
  ⟨.one, 1, some (.nilFunc)⟩,
  ⟨.one, 1, some (.nilFunc)⟩,
  ⟨.one, 1, some (.nilFunc)⟩,
  ⟨.one, 1, some (.nilFunc)⟩,
  ⟨.one, 1, some (.nilFunc)⟩,
  ⟨.one, 1, some (.nilFunc)⟩,
  ⟨.one, 1, some (.nilFunc)⟩,
  ⟨.one, 1, some (.nilFunc)⟩,
  ⟨.one, 1, some (.nilFunc)⟩,
  ⟨.one, 1, some (.nilFunc)⟩,
  ⟨.one, 1, some (.nilFunc)⟩,
  ⟨.one, 1, some (.map none)⟩,
  ⟨.none, 0, none⟩,
  ⟨.one, 1, some (.nilFunc)⟩,
  ⟨.one, 1, some (.nilFunc)⟩,
  ⟨.one, 1, some (.nilFunc)⟩,
  ⟨.one, 1, some (.nilFunc)⟩,
  ⟨.one, 1, some (.nilFunc)⟩,
  ⟨.one, 1, some (.nilFunc)⟩,
  ⟨.one, 1, some (.nilFunc)⟩,
  ⟨.one, 1, some (.nilFunc)⟩,
  ⟨.one, 1, some (.nilFunc)⟩,
  ⟨.one, 1, some (.nilFunc)⟩,
  ⟨.one, 1, some (.nilFunc)⟩,
  ⟨.st [(0, 3), (1, 3), (2, 2)], 3, some (.agg #[.int .i64 0, .int .i64 0, .int .i64 0])⟩,
  ⟨.st [(0, 3), (1, 3), (2, 2)], 3, some (.agg #[.int .i64 0, .int .i64 0, .int .i64 0])⟩,
  ⟨.one, 1, some (.nilFunc)⟩,
  ⟨.int .u64, 1, some (.int .u64 0)⟩,
  ⟨.one, 1, some (.nilFunc)⟩,
  ⟨.one, 1, some (.nilFunc)⟩,
  ⟨.one, 1, some (.nilFunc)⟩,
  ⟨.one, 1, some (.pointer none)⟩,
  ⟨.one, 1, some (.nilFunc)⟩,
  ⟨.ar 5 4 1, 5, some (.agg #[.bool false, .bool false, .bool false, .bool false, .bool false])⟩,
  ⟨.sl 4 1 1, 1, some (.slice none 0 0)⟩,
  ⟨.one, 1, some (.map none)⟩,
  ⟨.sl 240 4 32, 1, some (.slice none 0 0)⟩,
  ⟨.one, 1, some (.nilFunc)⟩,
  ⟨.none, 0, none⟩,
  ⟨.one, 1, some (.nilFunc)⟩,
  ⟨.one, 1, some (.nilFunc)⟩,
  ⟨.one, 1, some (.nilFunc)⟩,
  ⟨.one, 1, some (.nilFunc)⟩,
  ⟨.one, 1, some (.pointer none)⟩,
  ⟨.none, 0, none⟩,
  ⟨.one, 1, some (.nilFunc)⟩,
  ⟨.one, 1, some (.nilFunc)⟩,
  ⟨.none, 0, none⟩,
  ⟨.one, 1, some (.nilFunc)⟩,
  ⟨.none, 0, none⟩,
  ⟨.one, 1, some (.nilFunc)⟩,
  ⟨.one, 1, some (.nilFunc)⟩,
  ⟨.one, 1, some (.nilFunc)⟩,
  ⟨.ar 5 2 1, 5, some (.agg #[.int .i64 0, .int .i64 0, .int .i64 0, .int .i64 0, .int .i64 0])⟩,
  ⟨.one, 1, some (.nilFunc)⟩,
  ⟨.one, 1, some (.pointer none)⟩,
  ⟨.none, 0, none⟩,
  ⟨.one, 1, some (.nilFunc)⟩,
  ⟨.one, 1, some (.map none)⟩,
  ⟨.st [(0, 3), (1, 564)], 2, some (.agg #[.int .i64 0, .map none])⟩,
  ⟨.st [(0, 3), (1, 564)], 2, some (.agg #[.int .i64 0, .map none])⟩,
  ⟨.one, 1, some (.nilFunc)⟩,
  ⟨.st [(0, 559), (5, 2)], 6, some (.agg #[.int .i64 0, .int .i64 0, .int .i64 0, .int .i64 0, .int .i64 0, .int .i64 0])⟩,
  ⟨.st [(0, 559), (5, 2)], 6, some (.agg #[.int .i64 0, .int .i64 0, .int .i64 0, .int .i64 0, .int .i64 0, .int .i64 0])⟩,
  ⟨.st [(0, 569), (6, 489), (14, 2)], 15, some (.agg #[.int .i64 0, .int .i64 0, .int .i64 0, .int .i64 0, .int .i64 0, .int .i64 0, .int .i64 0, .int .i64 0, .int .i64 0, .int .i64 0, .int .i64 0, .int .i64 0, .int .i64 0, .int .i64 0, .int .i64 0])⟩,
  ⟨.st [(0, 569), (6, 489), (14, 2)], 15, some (.agg #[.int .i64 0, .int .i64 0, .int .i64 0, .int .i64 0, .int .i64 0, .int .i64 0, .int .i64 0, .int .i64 0, .int .i64 0, .int .i64 0, .int .i64 0, .int .i64 0, .int .i64 0, .int .i64 0, .int .i64 0])⟩,
  ⟨.one, 1, some (.nilFunc)⟩,
  ⟨.one, 1, some (.nilFunc)⟩,
  ⟨.one, 1, some (.nilFunc)⟩,
  ⟨.one, 1, some (.nilFunc)⟩,
  ⟨.one, 1, some (.nilFunc)⟩,
  ⟨.one, 1, some (.nilFunc)⟩,
  ⟨.one, 1, some (.nilFunc)⟩,
  ⟨.one, 1, some (.nilFunc)⟩,
  ⟨.one, 1, some (.nilFunc)⟩,
  ⟨.st [(0, 449)], 2, some (.agg #[.slice none 0 0, .slice none 0 0])⟩,
  ⟨.st [(0, 449)], 2, some (.agg #[.slice none 0 0, .slice none 0 0])⟩,
  ⟨.one, 1, some (.nilFunc)⟩,
  ⟨.ar 2 29 2, 4, some (.agg #[.int .i64 0, .int .i64 0, .int .i64 0, .int .i64 0])⟩,
  ⟨.st [(0, 445)], 16, some (.agg #[.int .i64 0, .int .i64 0, .int .i64 0, .int .i64 0, .int .i64 0, .int .i64 0, .int .i64 0, .int .i64 0, .int .i64 0, .int .i64 0, .int .i64 0, .int .i64 0, .int .i64 0, .int .i64 0, .int .i64 0, .int .i64 0])⟩,
  ⟨.st [(0, 445)], 16, some (.agg #[.int .i64 0, .int .i64 0, .int .i64 0, .int .i64 0, .int .i64 0, .int .i64 0, .int .i64 0, .int .i64 0, .int .i64 0, .int .i64 0, .int .i64 0, .int .i64 0, .int .i64 0, .int .i64 0, .int .i64 0, .int .i64 0])⟩,
  ⟨.one, 1, some (.nilFunc)⟩,
  ⟨.one, 1, some (.nilFunc)⟩,
  ⟨.one, 1, some (.nilFunc)⟩,
  ⟨.one, 1, some (.nilFunc)⟩,
  ⟨.one, 1, some (.nilFunc)⟩,
  ⟨.st [(0, 29), (2, 2), (3, 2)], 4, some (.agg #[.int .i64 0, .int .i64 0, .int .i64 0, .int .i64 0])⟩,
  ⟨.st [(0, 29), (2, 2), (3, 2)], 4, some (.agg #[.int .i64 0, .int .i64 0, .int .i64 0, .int .i64 0])⟩,
  ⟨.one, 1, some (.nilFunc)⟩,
  ⟨.one, 1, some (.nilFunc)⟩,
  ⟨.none, 0, none⟩,
  ⟨.one, 1, some (.nilFunc)⟩,
  ⟨.st [(0, 3), (1, 455), (7, 2)], 8, some (.agg #[.int .i64 0, .int .i64 0, .int .i64 0, .int .i64 0, .int .i64 0, .int .i64 0, .int .i64 0, .int .i64 0])⟩,
  ⟨.st [(0, 3), (1, 455), (7, 2)], 8, some (.agg #[.int .i64 0, .int .i64 0, .int .i64 0, .int .i64 0, .int .i64 0, .int .i64 0, .int .i64 0, .int .i64 0])⟩,
  ⟨.one, 1, some (.nilFunc)⟩,
  ⟨.one, 1, some (.nilFunc)⟩,
  ⟨.one, 1, some (.nilFunc)⟩,
  ⟨.one, 1, some (.nilFunc)⟩,
  ⟨.st [(0, 95), (1, 95)], 2, some (.agg #[.slice none 0 0, .slice none 0 0])⟩,
  ⟨.st [(0, 95), (1, 95)], 2, some (.agg #[.slice none 0 0, .slice none 0 0])⟩,
  ⟨.one, 1, some (.nilFunc)⟩,
  ⟨.one, 1, some (.nilFunc)⟩,
  ⟨.st [(0, 347), (2, 3)], 3, some (.agg #[.slice none 0 0, .int .i64 0, .int .i64 0])⟩,
  ⟨.st [(0, 347), (2, 3)], 3, some (.agg #[.slice none 0 0, .int .i64 0, .int .i64 0])⟩,
  ⟨.one, 1, some (.nilFunc)⟩,
  ⟨.one, 1, some (.nilFunc)⟩,
  ⟨.one, 1, some (.nilFunc)⟩,
  ⟨.one, 1, some (.nilFunc)⟩,
  ⟨.one, 1, some (.nilFunc)⟩,
  ⟨.one, 1, some (.nilFunc)⟩,
  ⟨.one, 1, some (.nilFunc)⟩,
  ⟨.one, 1, some (.nilFunc)⟩,
  ⟨.one, 1, some (.nilFunc)⟩,
  ⟨.one, 1, some (.nilFunc)⟩,
  ⟨.one, 1, some (.nilFunc)⟩,
  ⟨.one, 1, some (.nilFunc)⟩,
  ⟨.one, 1, some (.nilFunc)⟩,
  ⟨.one, 1, some (.pointer none)⟩,
  ⟨.none, 0, none⟩,
  ⟨.one, 1, some (.nilFunc)⟩,
  ⟨.one, 1, some (.nilFunc)⟩,
  ⟨.st [(0, 420), (3, 3)], 4, some (.agg #[.int .i64 0, .int .i64 0, .slice none 0 0, .int .i64 0])⟩,
  ⟨.st [(0, 420), (3, 3)], 4, some (.agg #[.int .i64 0, .int .i64 0, .slice none 0 0, .int .i64 0])⟩,
  ⟨.one, 1, some (.nilFunc)⟩,
  ⟨.one, 1, some (.nilFunc)⟩,
  ⟨.one, 1, some (.nilFunc)⟩,
  ⟨.st [(0, 3), (1, 3), (2, 2), (3, 2), (4, 4)], 5, some (.agg #[.int .i64 0, .int .i64 0, .int .i64 0, .int .i64 0, .bool false])⟩,
  ⟨.st [(0, 3), (1, 3), (2, 2), (3, 2), (4, 4)], 5, some (.agg #[.int .i64 0, .int .i64 0, .int .i64 0, .int .i64 0, .bool false])⟩,
  ⟨.none, 0, none⟩,
  ⟨.one, 1, some (.nilFunc)⟩,
  ⟨.one, 1, some (.nilFunc)⟩,
  ⟨.one, 1, some (.nilFunc)⟩,
  ⟨.one, 1, some (.nilFunc)⟩,
  ⟨.one, 1, some (.nilFunc)⟩,
  ⟨.one, 1, some (.nilFunc)⟩,
  ⟨.none, 0, none⟩,
  ⟨.one, 1, some (.nilFunc)⟩,
  ⟨.one, 1, some (.nilFunc)⟩,
  ⟨.sl 593 4 32, 1, some (.slice none 0 0)⟩,
  ⟨.one, 1, some (.nilFunc)⟩,
  ⟨.one, 1, some (.nilFunc)⟩,
  ⟨.one, 1, some (.nilFunc)⟩,
  ⟨.one, 1, some (.nilFunc)⟩,
  ⟨.ar 2 455 6, 12, some (.agg #[.int .i64 0, .int .i64 0, .int .i64 0, .int .i64 0, .int .i64 0, .int .i64 0, .int .i64 0, .int .i64 0, .int .i64 0, .int .i64 0, .int .i64 0, .int .i64 0])⟩,
  ⟨.sl 471 3 24, 1, some (.slice none 0 0)⟩,
  ⟨.ar 8 3 1, 8, some (.agg #[.int .i64 0, .int .i64 0, .int .i64 0, .int .i64 0, .int .i64 0, .int .i64 0, .int .i64 0, .int .i64 0])⟩,
  ⟨.one, 1, some (.nilFunc)⟩,
  ⟨.one, 1, some (.nilFunc)⟩,
  ⟨.ar 2 2 1, 2, some (.agg #[.int .i64 0, .int .i64 0])⟩,
  ⟨.one, 1, some (.nilFunc)⟩,
  ⟨.one, 1, some (.nilFunc)⟩,
  ⟨.one, 1, some (.nilFunc)⟩,
  ⟨.one, 1, some (.nilFunc)⟩,
  ⟨.st [(0, 17), (1, 17), (2, 17), (3, 9)], 4, none⟩,
  ⟨.st [(0, 17), (1, 17), (2, 17), (3, 9)], 4, none⟩,
  ⟨.none, 0, none⟩,
  ⟨.none, 0, none⟩,
  ⟨.none, 0, none⟩,
  ⟨.int .u8, 1, some (.int .u8 0)⟩,
  ⟨.int .u8, 1, some (.int .u8 0)⟩,
  ⟨.one, 1, some (.nilFunc)⟩,
  ⟨.one, 1, some (.pointer none)⟩,
  ⟨.int .i32, 1, some (.int .i32 0)⟩,
  ⟨.int .i32, 1, some (.int .i32 0)⟩,
  ⟨.st [(0, 12), (1, 12), (2, 81), (3, 664), (4, 5), (5, 5), (6, 665), (7, 666), (8, 667), (9, 668), (10, 669)], 11, some (.agg #[.int .u64 0, .int .u64 0, .int .u32 0, .int .u8 0, .int .u8 0, .int .u8 0, .int .u8 0, .nilFunc, .pointer none, .int .i32 0, .int .i32 0])⟩,
  ⟨.st [(0, 12), (1, 12), (2, 81), (3, 664), (4, 5), (5, 5), (6, 665), (7, 666), (8, 667), (9, 668), (10, 669)], 11, some (.agg #[.int .u64 0, .int .u64 0, .int .u32 0, .int .u8 0, .int .u8 0, .int .u8 0, .int .u8 0, .nilFunc, .pointer none, .int .i32 0, .int .i32 0])⟩,
  ⟨.none, 0, none⟩]
theorem ty_ok : (tyList.zipIdx.all fun (ti, T) => tiChk Tryz.prog T ti) = true := by kernel_rfl
def tyTab : TTab Tryz.prog := ⟨tyList, ty_ok⟩
theorem mixed : Tryz.prog.follows .mixedOrders = true := by kernel_rfl
end Go.Proofs.YtnehaifgcegemaaGreat
namespace Go.Proofs.YtnehaifgcegemaaGreat
open Go Go.TH Go.ChangeShapes Go.WideShapes Go.ChangeAt Go.RowKit
set_option maxRecDepth 100000
section
variable {H : Type} {enc : TypeId × Value → H} {w : World}
theorem cells98 : Tryz.prog.cellsOf 98 = 1 := by kernel_rfl
def enc8' (n : Int) : List Value := [.int .i8 n]
theorem rd_i8 {n : Nat} {c : List Value} {y : DataW H × List MemPlace} (h : DataW.trod enc Tryz.prog w 0 (fun _ => true) true n 98 c = some y) : ∃ z : Int, c = enc8' z ∧ -128 ≤ z ∧ z ≤ 127 := by
  obtain ⟨z, rfl, _, hw⟩ := DataW.trod_int Tryz.underlying98 h
  simp [Lit.wf, IntKind.min, IntKind.max, IntKind.signed, IntKind.bits] at hw
  exact ⟨z, rfl, by omega, by omega⟩
theorem open_sl {α : Type} {en : α → List Value} {sz T e : Nat} {Q : α → Prop} {base : Nat} {v : Value} {d : DataW H} {ps : List MemPlace} (hT : Tryz.prog.underlying T = some (.slice e)) (hc : Tryz.prog.cellsOf e = sz) (hsz : 0 < sz)
    (hrd : ∀ n c y, c.length = sz → DataW.trod enc Tryz.prog w 0 (fun _ => true) true n e c = some y → ∃ z, c = en z ∧ Q z)
    (hv : Value.okWide Tryz.prog w .any base T v) (h : DataW.Trod enc Tryz.prog w 0 (fun _ => true) true T v d ps) :
    ∃ xs : List α, RdF en sz w.heap.size w v xs ∧ ∀ x ∈ xs, Q x := by
  obtain ⟨a0, len, cap, rfl⟩ := okWide_slice hT hv
  obtain ⟨fuel, hf⟩ := h
  obtain ⟨o, xs, ho, hr, hq⟩ := open_rd (en := en) (Q := Q) hT hc hsz hrd hf
  simp [Value.cells] at ho
  subst ho
  exact ⟨xs, hr, hq⟩
theorem open_i8s {base : Nat} {v : Value} {d : DataW H} {ps : List MemPlace} (hv : Value.okWide Tryz.prog w .any base 22 v) (h : DataW.Trod enc Tryz.prog w 0 (fun _ => true) true 22 v d ps) : ∃ xs : List Int, RdF enc8' 1 w.heap.size w v xs ∧ ∀ x ∈ xs, -128 ≤ x ∧ x ≤ 127 :=
  open_sl Tryz.underlying22 cells98 (by omega) (fun n c y _ hy => rd_i8 hy) hv h
theorem open_kind {k : IntKind} {T base : Nat} (hT : Tryz.prog.underlying T = some (.int k)) {v : Value} {d : DataW H} {ps : List MemPlace} (hv : Value.okWide Tryz.prog w .any base T v) (h : DataW.Trod enc Tryz.prog w 0 (fun _ => true) true T v d ps) : ∃ z : Int, v = .int k z ∧ k.min ≤ z ∧ z ≤ k.max := by
  obtain ⟨z, rfl, _, _, hw⟩ := open_int hT hv h
  simp [Lit.wf] at hw
  exact ⟨z, rfl, by omega, by omega⟩
theorem open_u8 {base : Nat} {v : Value} {d : DataW H} {ps : List MemPlace} (hv : Value.okWide Tryz.prog w .any base 5 v) (h : DataW.Trod enc Tryz.prog w 0 (fun _ => true) true 5 v d ps) : ∃ z : Int, v = .int .u8 z ∧ 0 ≤ z ∧ z ≤ 255 := by
  obtain ⟨z, rfl, h1, h2⟩ := open_kind Tryz.underlying5 hv h
  simp [IntKind.min, IntKind.max, IntKind.signed, IntKind.bits] at h1 h2
  exact ⟨z, rfl, by omega, by omega⟩
theorem open_b {base : Nat} {v : Value} {d : DataW H} {ps : List MemPlace} (hv : Value.okWide Tryz.prog w .any base 4 v) (h : DataW.Trod enc Tryz.prog w 0 (fun _ => true) true 4 v d ps) : ∃ b : Bool, v = .bool b := by
  obtain ⟨b, rfl, _⟩ := open_bool Tryz.underlying4 hv h
  exact ⟨b, rfl⟩
end
end Go.Proofs.YtnehaifgcegemaaGreat
namespace Go.TH
open Go
section
variable {P : Program} {C : Cx P} {E : Env} {H : List HP}
section rules
variable {ops : Array Oper} {K : KP} {rest : List Oper} {d : Nat} {ty : TypeId} {pos : String} {af : Array Edge} {x y z : Operand} {T T' : TypeId}
end rules
end
end Go.TH
namespace Go.TH
open Go
section
variable {P : Program} {C : Cx P} {E : Env} {H : List HP}
/-- a range over a function with two variables, whose rounds all go on -/
theorem W.rangeFunc2 {g : Operand} {p q : Tmp} {assign body : Code} {Q : Post} {f : FuncId} {captured : List Value} (Hit : List HP) (HI : Nat → List HP) (xs : List (Value × Value)) (hro : C.ro = none) (hN : Nat.blt p C.N = true) (hN2 : Nat.blt q C.N = true)
    (hg : ev E g = some (.func (.func f) #[] captured.toArray)) (hcall : ∀ (args : Array Value) (w : World), (callFunc f args).run P w = .ok (.enter f args) w)
    (hH : Sub H (Hit ++ HI 0))
    (hiter : ∀ (l : Nat) (Hc : Nat → List HP), (∀ k x, xs[k]? = some x → YieldOK P C.B C.w0 l #[x.1, x.2] (Hc k) (Hc (k + 1))) →
      ∀ w M', C.B ≤ w.heap.size → (∀ k, k < C.B → w.heap[k]? = C.w0.heap[k]?) → (∀ b ∈ M', C.B ≤ b) → Inv w M' (Hit ++ Hc 0) w → Ct P f (#[.func (.yield l) #[] #[]] ++ captured.toArray) w fun _ w' => Inv w M' (Hit ++ Hc xs.length) w')
    (hround : ∀ (l : Nat) (w : World) (M : List Nat) (hB : C.B ≤ w.heap.size) (hM : ∀ b ∈ M, C.B ≤ b), (∀ k, k < C.B → w.heap[k]? = C.w0.heap[k]?) → ∀ k x, xs[k]? = some x →
      W (rdCx C l w M hB hM) assign (thn (fun E2 H2 => W (rdCx C l w M hB hM) body (thn (fun _ H3 => Sub H3 (HI (k + 1))) (fun _ _ _ => False)) E2 H2) (fun _ _ _ => False)) ((q, x.2) :: (p, x.1) :: E) (HI k))
    (h : Q .normal E (Hit ++ HI xs.length)) : W C (.rangeFunc g #[p, q] assign body) Q E H := by
  intro L ds a w hs
  have hF : C.F = Fence.wide := by unfold Cx.F; rw [hro]; rfl
  rw [hF]
  refine wpIn_rangeFunc ?_
  intro fn hfn
  obtain ⟨rec, hrec⟩ : ∃ rec : LoopState → Option Code → Loop, rec = fun st pe => { state := st, pending := pe, fn, tmps := a.tmps, params := #[p, q], assign, body, defers := w.heap.size } := ⟨_, rfl⟩
  obtain ⟨W1, hW1⟩ : ∃ W1, (w.alloc (.deferred (some []))).alloc (.loop (rec .ready none)) = W1 := ⟨_, rfl⟩
  let D := w.heap.size
  let l := w.heap.size + 1
  have hinv1 : Inv C.w0 C.M ((((D :: ds).map ptd) ++ L) ++ ((Hit ++ (pt l (.loop (rec .ready none)) :: HI 0)))) W1 := by
    have i1 := hs.inv.sub (Sub.app hH _)
    have i2 := i1.alloc (.deferred (some []))
    have i3 := i2.alloc (.loop (rec .ready none))
    rw [hW1] at i3
    have e : (w.alloc (.deferred (some []))).heap.size = l := by simp [l]
    rw [e] at i3
    refine i3.perm ?_
    have q1 : (pt l (.loop (rec .ready none)) :: ptd D :: ((ds.map ptd ++ L) ++ (Hit ++ HI 0))).Perm (pt l (.loop (rec .ready none)) :: ((((D :: ds).map ptd) ++ L ++ Hit) ++ HI 0)) := by
      simp [List.append_assoc]
    refine q1.trans ?_
    have q2 := (List.perm_middle (a := pt l (.loop (rec .ready none))) (l₁ := ((D :: ds).map ptd) ++ L ++ Hit) (l₂ := HI 0)).symm
    simpa [List.append_assoc] using q2
  refine ⟨l, [{ target := .collected D, args := #[] }], W1, { target := .fn (.func f) captured.toArray, args := #[.func (.yield l) #[] #[]] }, W1, f, #[.func (.yield l) #[] #[]] ++ captured.toArray, W1, ?_, ?_, ?_, ?_, fun h => by simp [Fence.wide] at h, ?_⟩
  · rw [← hW1, hrec]; exact run_enterLoop_outer _ _ _ _ _
  · simp only [resolve, hs.fr.eval hg]
    simp [go_sem, Deferred.ofValue, Act.eval]
  · intro f' hf'; trivial
  · simp [invoke, hcall]
  · -- the iterator is handed its own pieces, and the caller's
    let Hc : Nat → List HP := fun k => pt l (.loop (rec .ready none)) :: HI k
    have hi2 : Inv C.w0 C.M ((Hit ++ Hc 0) ++ (((D :: ds).map ptd) ++ L)) W1 := hinv1.perm List.perm_append_comm
    obtain ⟨M', h1, h2, s, pa, pb, hM⟩ := handed hi2
    have hMB : ∀ b ∈ M', C.B ≤ b := fun b hb => by
      rcases (handed_own s hM b hb).1 with h | h
      · exact Nat.le_trans C.hB h
      · exact C.hM b h
    have hy : ∀ k x, xs[k]? = some x → YieldOK P C.B C.w0 l #[x.1, x.2] (Hc k) (Hc (k + 1)) := by
      intro k x hx wy My hyB hyk hyM hyi
      have hl : wy.heap[l]? = some (.loop (rec .ready none)) := (hyi.look .head).1
      have hy := run_yield (P := P) (args := #[x.1, x.2]) hl (by rw [hrec]; rfl)
      refine ⟨_, _, _, _, hy, roundIn_of_wpIn trivial ?_⟩
      have hrd := hround l wy My hyB hyM hyk k x hx
      have hst : St (rdCx C l wy My hyB hyM) [pt l (.loop (rec .ready none))] [] ((q, x.2) :: (p, x.1) :: E) (HI k) { tmps := (#[p, q].zip #[x.1, x.2]).foldl (fun tmps (t, a) => tmps.setIfInBounds t a) a.tmps, defers := [] } wy := by
        refine ⟨rfl, ?_, hyi⟩
        have := (hs.fr.put (v := x.1) hN).put (v := x.2) hN2
        exact ⟨by have := this.size; simpa [Act.put, rdCx] using this, fun t u hu => by have := this.get t u hu; simpa [Act.put] using this⟩
      have hw := hrd _ _ _ _ hst
      have hFr : (rdCx C l wy My hyB hyM).F = Fence.wide.inRound l := rfl
      rw [hFr] at hw
      rw [hrec]
      rw [hrec] at hw hl
      refine wpIn_mono hw ?_
      rintro e a2 w2 ⟨ds2, E2, H2, q2, st2⟩
      cases e <;> first | exact q2.elim | skip
      have i2 : Inv wy My (ds2.map ptd ++ pt l (.loop (rec .ready none)) :: H2) w2 := by have := st2.inv; rw [hrec]; simpa [List.append_assoc, rdCx] using this
      have hl2 := (i2.look (b := l) (o := .loop (rec .ready none)) ((Pick.head).app (ds2.map ptd))).1
      have i3 := putObj_inv (o' := .loop (rec .busy none)) i2
      have hb2 := run_beginRound (P := P) hl2 (by rw [hrec])
      have e3 : ({ rec .ready none with state := .busy } : Loop) = rec .busy none := by rw [hrec]
      rw [e3] at hb2
      refine ⟨_, hb2, ?_⟩
      have hw3 := q2 [pt l (.loop (rec .busy none))] ds2 a2 _ ⟨st2.defers, st2.fr, by simpa [List.append_assoc, rdCx] using i3⟩
      rw [hFr] at hw3
      refine wpIn_mono hw3 ?_
      rintro e4 a4 w4 ⟨ds4, E4, H4, q4, st4⟩
      cases e4 <;> first | exact q4.elim | skip
      have i4 : Inv wy My (ds4.map ptd ++ pt l (.loop (rec .busy none)) :: H4) w4 := by simpa [List.append_assoc, rdCx] using st4.inv
      have hl4 := (i4.look (b := l) (o := .loop (rec .busy none)) ((Pick.head).app (ds4.map ptd))).1
      have i5 := putObj_inv (o' := .loop (rec .ready none)) i4
      have hb4 := run_endRound (P := P) none hl4
      have e5 : ({ rec .busy none with state := if (none : Option Code).isNone then .ready else .done, pending := none } : Loop) = rec .ready none := by rw [hrec]; rfl
      rw [e5] at hb4
      refine ⟨_, _, hb4, rfl, ?_⟩
      have q4' : Sub H4 (HI (k + 1)) := q4
      refine i5.sub ?_
      have s1 : Sub (ds4.map ptd ++ pt l (.loop (rec .ready none)) :: H4) (pt l (.loop (rec .ready none)) :: H4) := by
        induction ds4.map ptd with
        | nil => exact Sub.refl _
        | cons A r ih => exact Sub.tail ih
      exact s1.trans (.cons .head q4')
    have hct := hiter l Hc hy W1 M' (Nat.le_trans C.hB (by have := hinv1.size; exact this)) hinv1.keepB hMB (handed_start s pa hM)
    refine CallsIn.mono hct ?_
    rintro e w' ⟨v, rfl, hi'⟩
    have hb := handed_back (hi2.sub .nil) s pb hM hi'
    have hb2 : Inv C.w0 C.M ((((D :: ds).map ptd) ++ L ++ Hit) ++ pt l (.loop (rec .ready none)) :: HI xs.length) w' := by
      refine hb.perm ?_
      have := List.perm_append_comm (l₁ := Hit ++ Hc xs.length) (l₂ := ((D :: ds).map ptd) ++ L)
      simpa [Hc, List.append_assoc] using this
    have hl := (hb2.look (b := l) (o := .loop (rec .ready none)) ((Pick.head).app _)).1
    refine ⟨none, w'.putObj l (.loop { rec .ready none with state := .exhausted }), ?_, ?_⟩
    · have := run_endLoop (P := P) hl (by rw [hrec]; simp)
      have e6 : (rec .ready none).pending = none := by rw [hrec]
      rw [this]; exact congrArg (fun q => Result.ok q _) e6
    · have h6 := putObj_inv (o' := .loop { rec .ready none with state := .exhausted }) hb2
      have h7 := h6.dropL
      refine ⟨D :: ds, E, Hit ++ HI xs.length, h, ⟨?_, ⟨hs.fr.size, hs.fr.get⟩, by simpa [List.append_assoc] using h7⟩⟩
      show [_] ++ a.defers = _
      rw [hs.defers]; rfl

section rules
variable {ops : Array Oper} {K : KP} {rest : List Oper} {d : Nat} {ty : TypeId} {pos : String} {af : Array Edge} {x y z : Operand} {T T' : TypeId}
/-! ### Maps whose keys are whole numbers -/
theorem WO.makeMap (hN : Nat.blt d C.N = true)
    (h : ∀ b, WO C ops rest K ((d, .map (some b)) :: E) (pt b (.map #[] 0) :: H)) : WO C ops (⟨some d, .makeMap T none, ty, pos, af, none⟩ :: rest) K E H := by
  refine WO.step rfl rfl hN (XO.run (by simp) fun L a w hfr hi => ?_)
  refine ⟨.map (some w.heap.size), w.alloc (.map #[] 0), _, .inl ?_, h _, hi.alloc' _⟩
  have hr : (Instr.makeMap T none).run P w = .ok (.map (some w.heap.size)) (w.alloc (.map #[] 0)) := rfl
  simp [execOp, hr]
theorem getMap_run {b clk : Nat} {es : Array MapEntry} {w : World} (h : w.heap[b]? = some (.map es clk)) : (getObj b).run P w = .ok (.map es clk) w := by
  simp [getObj, Sem.run, h, Result.andThen]
theorem checkKey_int {kt : TypeId} {q : IntKind} {e : Bool} {k : Value} {w : World} (hk : P.underlying kt = some (.int q)) : (Instr.checkKey e 10000 kt k).run P w = .ok () w := by
  unfold Instr.checkKey
  simp [run_underlying hk]
theorem WO.insertI {b : Nat} {es : Array MapEntry} {clk : Nat} {kt et : TypeId} {q : IntKind} {k u : Value} {H' : List HP} (hT : P.underlying T = some (.map kt et)) (hkt : P.underlying kt = some (.int q))
    (hm : ev E x = some (.map (some b))) (hk : ev E y = some k) (hu : ev E z = some u) (p : Pick (pt b (.map es clk)) H H') (hf : Instr.findNow (.int q) k es.toList 0 = some none)
    (h : WO C ops rest K E (pt b (.map (es.push { key := k, val := u, born := clk }) (clk + 1)) :: H')) : WO C ops (⟨none, .insert T x y z, ty, pos, af, none⟩ :: rest) K E H := by
  refine WO.step0 rfl rfl (XO.run (by simp) fun L a w hfr hi => ?_)
  have hl := (hi.look (p.app L)).1
  have hlt : b < w.heap.size := (Array.getElem?_eq_some_iff.1 hl).1
  refine ⟨undef, { w with heap := w.heap.setIfInBounds b (.map (es.push { key := k, val := u, born := clk }) (clk + 1)) }, _, .inr ⟨?_, rfl⟩, h, ?_⟩
  · have hr : (Instr.mapUpdate T (.map (some b)) k u).run P w = .ok () { w with heap := w.heap.setIfInBounds b (.map (es.push { key := k, val := u, born := clk }) (clk + 1)) } := by
      simp [Instr.mapUpdate, run_underlying hT, getMap_run hl, checkKey_int hkt, MapKept.run_findKey hkt hf]
      simp [setObj, Sem.run, hl, Result.andThen]
    simp [execOp, hfr.eval hm, hfr.eval hk, hfr.eval hu, hr]
  · have hs := hi.set (o' := .map (es.push { key := k, val := u, born := clk }) (clk + 1)) (p.app L) (w' := { w with heap := w.heap.setIfInBounds b (.map (es.push { key := k, val := u, born := clk }) (clk + 1)) }) rfl rfl rfl (by simp) (by simp [hlt]) (fun k hk => by simp [Array.getElem?_setIfInBounds_ne (Ne.symm hk)])
    exact hs.perm (List.perm_middle (l₁ := L) (l₂ := H')).symm
theorem WO.lookupI {b i : Nat} {es : Array MapEntry} {clk : Nat} {kt et : TypeId} {q : IntKind} {k u : Value} {H' : List HP} (hT : P.underlying T = some (.map kt et)) (hkt : P.underlying kt = some (.int q))
    (hm : ev E x = some (.map (some b))) (hk : ev E y = some k) (p : Pick (pt b (.map es clk)) H H') (hf : Instr.findNow (.int q) k es.toList 0 = some (some (i, u))) (hN : Nat.blt d C.N = true)
    (h : WO C ops rest K ((d, u) :: E) H) : WO C ops (⟨some d, .lookup T x y false, ty, pos, af, none⟩ :: rest) K E H := by
  refine WO.pure u (by simp) (fun L a w hfr hi => ?_) hN h
  have hl := (hi.look (p.app L)).1
  simp [execOp, hfr.eval hm, hfr.eval hk, Instr.lookup, run_underlying hT, getMap_run hl, checkKey_int hkt, MapKept.run_findKey hkt hf]

/-! ### Slices of arrays -/
/-- an array of one's own, at an index that is a number -/
theorem WO.indexArrE {len e sz b off o' : Nat} {k : IntKind} {i : Nat} {zi : Int} (hT : C.tt.ar? T = some (len, e, sz)) (hx : ev E x = some (.pointer (some ⟨b, off, none⟩))) (hy : ev E y = some (.int k zi)) (hz : zi = (i : Int)) (h1 : i < len) (ho : off + i * sz = o') (hN : Nat.blt d C.N = true)
    (h : WO C ops rest K ((d, .pointer (some ⟨b, o', none⟩)) :: E) H) : WO C ops (⟨some d, .indexAddr T x y, ty, pos, af, none⟩ :: rest) K E H := by
  subst hz
  exact WO.indexArrL hT hx hy h1 ho hN h
theorem WO.sliceArrH {len e sz n : Nat} {k : IntKind} {p : Addr} (hT : C.tt.ar? T = some (len, e, sz)) (hx : ev E x = some (.pointer (some p))) (hy : ev E y = some (.int k (n : Int))) (hn : n ≤ len) (hN : Nat.blt d C.N = true)
    (h : WO C ops rest K ((d, .slice (some p) n len) :: E) H) : WO C ops (⟨some d, .slice T x none (some y) none, ty, pos, af, none⟩ :: rest) K E H :=
  WO.pure _ (by simp) (fun L a w hf hi => by
    have hn' : (n : Int) ≤ (len : Int) := by omega
    simp [execOp, hf.eval hx, hf.eval hy, Instr.sliceAt, Instr.sureAddr, run_underlying (ArT.of hT).u, Instr.sliceBounds, run_sliceBound, hn', run_sizeOf (ArT.of hT).size, Addr.add]) hN h
section copies
variable {ops : Array Oper} {K : KP} {rest : List Oper} {d : Nat} {ty : TypeId} {pos : String} {af : Array Edge} {x y : Operand} {T : TypeId}
end copies
end rules
/-- a part of a variable of one's own, read as a slice -/
theorem RdF.of_pt {α : Type} {enc : α → List Value} {b off n cap : Nat} {cs : List Value} {t : TypeId} {fr : Nat × Nat} {xs : List α} {H' L : List HP} {w : World} (he : ∀ a, ∃ u, enc a = [u]) (p : Pick (pt b (.cells cs.toArray t fr)) H H') (hi : Inv C.w0 C.M (L ++ H) w) (hn : xs.length = n) (hl : n ≤ 9223372036854775807)
    (h : ∀ (i : Nat) (x : α), xs[i]? = some x → ∃ u, enc x = [u] ∧ lget cs (off + i) = some u) : RdF enc 1 w.heap.size w (.slice (some ⟨b, off, none⟩) n cap) xs := by
  have hlk := (hi.look (p.app L)).1
  have hlt : b < w.heap.size := (Array.getElem?_eq_some_iff.1 hlk).1
  refine ⟨⟨by omega, some ⟨b, off, none⟩, cap, by rw [hn], fun _ => ⟨_, _, rfl⟩⟩, fun _ => hlt, fun i x hx j u hu => ?_⟩
  obtain ⟨v, hv, hc⟩ := h i x hx
  rw [hv] at hu
  match j with
  | 0 =>
    simp at hu
    subst hu
    rw [lget_eq] at hc
    have e : (((base (.slice (some ⟨b, off, none⟩) n cap)).add (i * 1)).add 0) = ⟨b, off + i, none⟩ := by
      rw [Nat.mul_one]
      show (Addr.add ⟨b, off, none⟩ i).add 0 = _
      unfold Addr.add; split <;> simp_all
    rw [e]
    simp [World.cell?, hlk, hc]
  | j + 1 => simp at hu
end
end Go.TH
namespace Go.Proofs.YtnehaifgcegemaaGreat.Tr
open Go Go.TH
attribute [local irreducible] W WO pt
set_option maxRecDepth 10000
/-- the greatest common divisor -/
def gcd2 (a b : Int) : Int := (Nat.gcd a.toNat b.toNat : Nat)
theorem gcd2_zero {a : Int} (h : 0 ≤ a) : gcd2 a 0 = a := by simp [gcd2]; omega
theorem gcd2_step {a b : Int} (ha : 0 ≤ a) (hb : 0 < b) : gcd2 b (a.tmod b) = gcd2 a b := by
  unfold gcd2
  obtain ⟨n, rfl⟩ := Int.eq_ofNat_of_zero_le ha
  obtain ⟨m, rfl⟩ := Int.eq_ofNat_of_zero_le (Int.le_of_lt hb)
  rw [Int.tmod_eq_emod_of_nonneg (by omega), ← Int.natCast_emod]
  simp only [Int.toNat_natCast]
  rw [Nat.gcd_comm m (n % m), ← Nat.gcd_rec, Nat.gcd_comm]
theorem tmod_lt {a b : Int} (ha : 0 ≤ a) (hb : 0 < b) : 0 ≤ a.tmod b ∧ a.tmod b < b := ⟨Int.tmod_nonneg b ha, Int.tmod_lt_of_pos a hb⟩
theorem gcd2_pos {a b : Int} (ha : 0 ≤ a) (hb : 0 < b) : 0 < gcd2 a b := by
  unfold gcd2
  have : 0 < Nat.gcd a.toNat b.toNat := Nat.gcd_pos_of_pos_right _ (by omega)
  omega
theorem tdiv_in {a b : Int} (ha : 0 ≤ a) (hb : 0 < b) (h : in64 a) : in64 (a.tdiv b) := by
  unfold in64 at *
  have h1 : 0 ≤ a.tdiv b := Int.tdiv_nonneg ha (by omega)
  have h2 : a.tdiv b ≤ a := by
    rw [Int.tdiv_eq_ediv_of_nonneg ha]
    exact Int.ediv_le_self _ ha
  omega
theorem gcd2_0 {a : Int} (h : 0 ≤ a) : gcd2 0 a = a := by unfold gcd2; rw [show (0 : Int).toNat = 0 from rfl, Nat.gcd_zero_left]; omega
theorem gcd2_nn (a b : Int) : 0 ≤ gcd2 a b := by unfold gcd2; omega
/-- a number without its sign -/
def ab (n : Int) : Int := max n (-n)
theorem ab_nn (n : Int) : 0 ≤ ab n := by unfold ab; omega
/-- a fraction in least terms -/
def red (n d : Int) : Int × Int := (n.tdiv (gcd2 (ab n) d), d.tdiv (gcd2 (ab n) d))
/-- the greatest common divisor of all -/
def gcdL (l : List Int) : Int := l.foldl gcd2 0
theorem tdiv_ab {a b : Int} (hb : 0 < b) : ab (a.tdiv b) ≤ ab a := by
  unfold ab
  have h1 : a.tdiv b ≤ max a (-a) := by
    rcases Int.le_total 0 a with h | h
    · have := Int.tdiv_le_self b h; omega
    · have h2 : a.tdiv b = -((-a).tdiv b) := by rw [Int.neg_tdiv, Int.neg_neg]
      have := Int.tdiv_nonneg (a := -a) (b := b) (by omega) (by omega)
      omega
  have h2 : -(a.tdiv b) ≤ max a (-a) := by
    rcases Int.le_total 0 a with h | h
    · have := Int.tdiv_nonneg (a := a) (b := b) h (by omega); omega
    · have h2 : a.tdiv b = -((-a).tdiv b) := by rw [Int.neg_tdiv, Int.neg_neg]
      have := Int.tdiv_le_self (a := -a) b (by omega)
      omega
  omega
theorem ref_common (w : World) (a b : Int) (ha : 0 ≤ a) (hb : 0 ≤ b) :
    Ret Tryz.prog 49 [.int .i64 a, .int .i64 b].toArray w (.int .i64 (gcd2 a b)) := by
  refine Ret.of mixed tyTab Tryz.func49 rfl rfl ?_
  refine W.sreg ?_
  refine WO.p rfl rfl ?_
  refine WO.nil ?_
  refine W.seq ?_
  refine W.block ?_
  refine W.loop2 (fun (x : Int) (y : Int) => 0 ≤ x ∧ 0 ≤ y ∧ gcd2 x y = gcd2 a b)
    (fun (x : Int) (y : Int) => [(0, .int .i64 x), (1, .int .i64 y)])
    (fun (x : Int) (y : Int) => [])
    (fun (x : Int) (y : Int) => y.toNat) a b
    (by exact ⟨ha, hb, rfl⟩) ⟨rfl, rfl, trivial⟩ (by repeat (first | exact Sub.nil | refine Sub.cons (by repeat (first | exact Pick.head | apply Pick.tail)) ?_)) ?_
  rintro x y ⟨hx, hy, hg⟩
  refine W.seq ?_
  refine W.sreg ?_
  refine WO.p rfl rfl (WO.p rfl rfl ?_)
  refine WO.nil ?_
  refine W.cond_bl rfl (fun c1 => ?_) (fun c1 => ?_)
  · first
    | (exfalso; omega)
    | (refine W.skip ?_
       refine W.block ?_
       refine W.drawD 5 [.r 0 [], .r 1 [], .r 2 [0], .r 3 [0], .r 4 [0]] [0] (A0 := []) (Sub.refl _) (by kernel_rfl) ?_ ?_
       · exact (ALok.r (ALok.r (ALok.r (ALok.r (ALok.r ALok.nil)))))
       refine' DT.r rfl rfl rfl ?hq ?_
       case hq =>
         refine WO.p rfl rfl ?_
         exact WO.nil ⟨rfl, rfl⟩
       refine' DT.r rfl rfl rfl ?hq ?_
       case hq =>
         refine WO.p rfl rfl ?_
         exact WO.nil ⟨rfl, rfl⟩
       refine' DT.r rfl rfl rfl ?hq ?_
       case hq =>
         refine WO.p rfl rfl ?_
         exact WO.nil ⟨rfl, rfl⟩
       refine' DT.r rfl rfl rfl ?hq ?_
       case hq =>
         refine WO.rem rfl rfl (by first | omega | assumption) rfl ?_
         exact WO.nil ⟨rfl, rfl⟩
       refine' DT.r rfl rfl rfl ?hq ?_
       case hq =>
         refine WO.p rfl rfl ?_
         exact WO.nil ⟨rfl, rfl⟩
       refine DT.nil [] rfl ?_
       refine WO.p rfl rfl ?_
       refine WO.nil ?_
       refine' ⟨_, _, ?hp, ?hmu, ⟨rfl, rfl, trivial⟩, ?hS⟩
       case hS => repeat (first | exact Sub.nil | refine Sub.cons (by repeat (first | exact Pick.head | apply Pick.tail)) ?_)
       case hp => exact ⟨hy, (tmod_lt hx (by omega)).1, by rw [gcd2_step hx (by omega)]; exact hg⟩
       case hmu => have := tmod_lt hx (show 0 < y by omega); omega)
  · first
    | (exfalso; omega)
    | (refine W.exit (blk_same ?_)
       refine W.sreg ?_
       refine WO.p rfl rfl (WO.p rfl rfl ?_)
       refine WO.nil ?_
       refine W.ret ?_
       refine fin.ret (Res.one rfl (RV.tmp rfl)) ?_
       obtain rfl : y = 0 := by omega
       rw [← hg, gcd2_zero hx])
theorem c_divisor (w : World) (v : Value) (xs : List Int) (hR : RdF encI 1 w.heap.size w v xs) (hp : ∀ x ∈ xs, 0 ≤ x) :
    Ret Tryz.prog 119 [v].toArray w (.int .i64 (gcdL xs)) := by
  refine Ret.of mixed tyTab Tryz.func119 rfl rfl ?_
  replace hR : RdF encI 1 (fnCx mixed tyTab Tryz.f119.ntmps w).B (fnCx mixed tyTab Tryz.f119.ntmps w).w0 v xs := hR
  have hle := hR.sl.le
  refine W.sreg ?_
  refine WO.p rfl rfl ?_
  refine WO.nil ?_
  refine W.sreg ?_
  refine WO.p rfl rfl ?_
  refine WO.nil ?_
  refine W.seq ?_
  refine W.sreg ?_
  refine WO.p rfl rfl ?_
  refine' WO.len (n := _) rfl rfl ?hs rfl ?_
  case hs => (first | exact hR.sl)
  refine WO.p rfl rfl ?_
  refine WO.nil ?_
  refine W.block ?_
  refine W.loop2 (fun (i : Nat) (d : Int) => i ≤ xs.length ∧ 0 ≤ d ∧ d = (xs.take i).foldl gcd2 0)
    (fun (i : Nat) (d : Int) => [(8, .int .i64 (i : Int)), (7, .int .i64 (xs.length : Int)), (6, v), (3, .int .i64 d)])
    (fun (i : Nat) (d : Int) => [])
    (fun (i : Nat) (d : Int) => xs.length - i) 0 0
    (by exact ⟨by omega, by omega, rfl⟩) ⟨rfl, rfl, rfl, rfl, trivial⟩ (by repeat (first | exact Sub.nil | refine Sub.cons (by repeat (first | exact Pick.head | apply Pick.tail)) ?_)) ?_
  rintro i d ⟨hi, hd0, hd⟩
  refine W.sreg ?_
  refine WO.p rfl rfl ?_
  refine WO.nil ?_
  refine W.seq ?_
  refine W.cond_bl rfl (fun c1 => ?_) (fun c1 => ?_)
  · first
    | (exfalso; omega)
    | (refine W.skip ?_
       refine W.seq ?_
       refine W.block ?_
       refine W.sreg ?_
       refine' WO.indexAddr (n := _) (i := _) rfl rfl rfl ?hs ?h1 rfl ?_
       case hs => (first | exact hR.sl)
       case h1 => (first | omega | (simp; omega))
       refine' WO.load (v := _) rfl rfl ?hc rfl ?_
       case hc => (first | (refine hR.cell0 ?_ 0 ?_ <;> first | rfl | omega))
       refine WO.p rfl rfl ?_
       refine WO.nil ?_
       refine W.block ?_
       refine W.loop2 (fun (x : Int) (y : Int) => 0 ≤ x ∧ 0 ≤ y ∧ gcd2 x y = gcd2 d (xs.getD i 0))
         (fun (x : Int) (y : Int) => [(3, .int .i64 x), (5, .int .i64 y), (8, .int .i64 (i : Int)), (7, .int .i64 (xs.length : Int)), (6, v)])
         (fun (x : Int) (y : Int) => [])
         (fun (x : Int) (y : Int) => y.toNat) d (xs.getD i 0)
         (by exact ⟨hd0, hp _ (getD_mem (by omega) 0), rfl⟩) ⟨rfl, rfl, rfl, rfl, rfl, trivial⟩ (by repeat (first | exact Sub.nil | refine Sub.cons (by repeat (first | exact Pick.head | apply Pick.tail)) ?_)) ?_
       rintro x y ⟨hx, hy, hg⟩
       refine W.seq ?_
       refine W.sreg ?_
       refine WO.p rfl rfl (WO.p rfl rfl ?_)
       refine WO.nil ?_
       refine W.cond_bl rfl (fun c2 => ?_) (fun c2 => ?_)
       · first
         | (exfalso; omega)
         | (refine W.skip ?_
            refine W.block ?_
            refine W.drawD 5 [.r 0 [], .r 1 [], .r 2 [3], .r 3 [3], .r 4 [3]] [3] (A0 := []) (Sub.refl _) (by kernel_rfl) ?_ ?_
            · exact (ALok.r (ALok.r (ALok.r (ALok.r (ALok.r ALok.nil)))))
            refine' DT.r rfl rfl rfl ?hq ?_
            case hq =>
              refine WO.p rfl rfl ?_
              exact WO.nil ⟨rfl, rfl⟩
            refine' DT.r rfl rfl rfl ?hq ?_
            case hq =>
              refine WO.p rfl rfl ?_
              exact WO.nil ⟨rfl, rfl⟩
            refine' DT.r rfl rfl rfl ?hq ?_
            case hq =>
              refine WO.p rfl rfl ?_
              exact WO.nil ⟨rfl, rfl⟩
            refine' DT.r rfl rfl rfl ?hq ?_
            case hq =>
              refine WO.rem rfl rfl (by first | omega | assumption) rfl ?_
              exact WO.nil ⟨rfl, rfl⟩
            refine' DT.r rfl rfl rfl ?hq ?_
            case hq =>
              refine WO.p rfl rfl ?_
              exact WO.nil ⟨rfl, rfl⟩
            refine DT.nil [] rfl ?_
            refine WO.p rfl rfl ?_
            refine WO.nil ?_
            refine' ⟨_, _, ?hp, ?hmu, ⟨rfl, rfl, rfl, rfl, rfl, trivial⟩, ?hS⟩
            case hS => repeat (first | exact Sub.nil | refine Sub.cons (by repeat (first | exact Pick.head | apply Pick.tail)) ?_)
            case hp => exact ⟨hy, (tmod_lt hx (by omega)).1, by rw [gcd2_step hx (by omega)]; exact hg⟩
            case hmu => have := tmod_lt hx (show 0 < y by omega); omega)
       · first
         | (exfalso; omega)
         | (refine W.exit (blk_same ?_)
            refine W.region ?_
            refine WO.ar rfl rfl rfl (by (first | (unfold in64; omega) | (unfold in64; omega))) rfl (WO.p rfl rfl ?_)
            refine WO.nil ?_
            refine' ⟨i + 1, _, ?hp, ?hmu, ⟨rfl, rfl, rfl, rfl, trivial⟩, ?hS⟩
            case hS => repeat (first | exact Sub.nil | refine Sub.cons (by repeat (first | exact Pick.head | apply Pick.tail)) ?_)
            case hp => exact ⟨by omega, hx, by rw [take_succ_getD (by omega) 0, List.foldl_append, ← hd]; show x = gcd2 d (xs.getD i 0); rw [← hg, show y = 0 by omega, gcd2_zero hx]⟩
            case hmu => omega))
  · first
    | (exfalso; omega)
    | (refine W.exit (blk_same ?_)
       refine W.sreg ?_
       refine WO.p rfl rfl (WO.p rfl rfl ?_)
       refine WO.nil ?_
       refine W.ret ?_
       refine fin.ret (Res.one rfl (RV.tmp rfl)) ?_
       obtain rfl : i = xs.length := by omega
       rw [hd, List.take_length]; rfl)
theorem red_in {n d : Int} (h1 : ab n ≤ 9000000000000000000) (hd : 0 < d) (h2 : in64 d) : 0 < gcd2 (ab n) d ∧ in64 (n.tdiv (gcd2 (ab n) d)) ∧ in64 (d.tdiv (gcd2 (ab n) d)) ∧ in64 n ∧ in64 (-n) ∧ 0 ≤ ab n := by
  have hg := gcd2_pos (ab_nn n) hd
  have h3 := tdiv_ab (a := n) hg
  have h4 := tdiv_in (a := d) (b := gcd2 (ab n) d) (by omega) hg h2
  have h5 := ab_nn n
  refine ⟨hg, ?_, h4, ?_, ?_, h5⟩ <;> unfold in64 ab at * <;> omega
theorem ref_Fraction (w : World) (n d : Int) (h1 : ab n ≤ 9000000000000000000) (hd : 0 < d) (h2 : in64 d) :
    Ret Tryz.prog 13 [.int .i64 n, .int .i64 d].toArray w (.agg (encP (red n d)).toArray) := by
  refine Ret.of mixed tyTab Tryz.func13 rfl rfl ?_
  obtain ⟨hg, i1, i2, i3, i4, i5⟩ := red_in h1 hd h2
  refine W.sreg ?_
  refine WO.alloc rfl rfl rfl (fun b1 hb1 => ?_)
  refine WO.nil ?_
  refine W.sreg ?_
  refine WO.p rfl rfl (WO.p rfl rfl (WO.neg rfl (by (first | (unfold in64; omega) | assumption)) rfl ?_))
  refine WO.max2 rfl rfl rfl ?_
  refine WO.p rfl rfl ?_
  refine WO.callR rfl Tryz.call49 (fun L w hi => ref_common w (ab n) d i5 (by omega)) rfl ?_
  refine WO.p rfl rfl ?_
  refine WO.nil ?_
  refine W.seq ?_
  refine W.drawD 6 [.r 0 [], .r 1 [], .r 2 [], .r 3 [], .r 4 [], .r 5 []] [] (A0 := []) (Sub.refl _) (by kernel_rfl) ?_ ?_
  · exact (ALok.r (ALok.r (ALok.r (ALok.r (ALok.r (ALok.r ALok.nil))))))
  refine' DT.r rfl rfl rfl ?hq ?_
  case hq =>
    refine WO.p rfl rfl ?_
    exact WO.nil ⟨rfl, rfl⟩
  refine' DT.r rfl rfl rfl ?hq ?_
  case hq =>
    refine WO.p rfl rfl ?_
    exact WO.nil ⟨rfl, rfl⟩
  refine' DT.r rfl rfl rfl ?hq ?_
  case hq =>
    refine WO.quo rfl rfl (by first | omega | assumption) (by (first | (unfold in64; omega) | assumption)) rfl ?_
    exact WO.nil ⟨rfl, rfl⟩
  refine' DT.r rfl rfl rfl ?hq ?_
  case hq =>
    refine WO.p rfl rfl ?_
    exact WO.nil ⟨rfl, rfl⟩
  refine' DT.r rfl rfl rfl ?hq ?_
  case hq =>
    refine WO.p rfl rfl ?_
    exact WO.nil ⟨rfl, rfl⟩
  refine' DT.r rfl rfl rfl ?hq ?_
  case hq =>
    refine WO.quo rfl rfl (by first | omega | assumption) (by (first | (unfold in64; omega) | assumption)) rfl ?_
    exact WO.nil ⟨rfl, rfl⟩
  refine DT.nil [_] rfl ?_
  refine' WO.build (cs := _) rfl rfl rfl ?hf rfl ?_
  case hf => (conv => lhs; simp [-List.getD_eq_getElem?_getD, fillL, vcl, wrl, TTab.pl?.lget']) <;> rfl
  refine WO.storeA rfl rfl rfl rfl Pick.head rfl rfl ?_
  refine WO.nil ?_
  refine W.ret ?_
  exact fin.ret (Res.one rfl (RV.cell rfl rfl rfl (Cells.own Pick.head))) rfl
theorem c_fraction (w : World) (n d : Int) (h1 : ab n ≤ 9000000000000000000) (hd : 0 < d) (h2 : in64 d) :
    Ret Tryz.prog 221 [.int .i64 n, .int .i64 d].toArray w (.agg (encP (red n d)).toArray) := by
  refine Ret.of mixed tyTab Tryz.func221 rfl rfl ?_
  obtain ⟨hg, i1, i2, i3, i4, i5⟩ := red_in h1 hd h2
  have e : gcdL [ab n, d] = gcd2 (ab n) d := by unfold gcdL; simp only [List.foldl]; rw [gcd2_0 i5]
  refine W.sreg ?_
  refine WO.alloc rfl rfl rfl (fun b1 hb1 => ?_)
  refine WO.nil ?_
  refine W.sreg ?_
  refine WO.p rfl rfl (WO.p rfl rfl (WO.neg rfl (by (first | (unfold in64; omega) | assumption)) rfl ?_))
  refine WO.max2 rfl rfl rfl ?_
  refine WO.p rfl rfl ?_
  refine' WO.buildSl (cs := _) rfl rfl rfl rfl ?hf rfl rfl ?hl rfl (fun v2 => ?_)
  case hf => (conv => lhs; simp [-List.getD_eq_getElem?_getD, fillL, vcl, wrl, TTab.pl?.lget']) <;> rfl
  case hl => rfl
  refine WO.callR (r := .int .i64 (gcd2 (ab n) d)) rfl Tryz.call119 (fun L w hi => by have h := c_divisor w _ [ab n, d] (RdF.of_ow (e := 2) encI_ok (by repeat (first | exact Pick.head | apply Pick.tail)) hi) (by simp; omega); rw [e] at h; exact h) rfl ?_
  refine WO.p rfl rfl ?_
  refine WO.nil ?_
  refine W.seq ?_
  refine W.drawD 6 [.r 0 [], .r 1 [], .r 2 [], .r 3 [], .r 4 [], .r 5 []] [] (A0 := []) (Sub.refl _) (by kernel_rfl) ?_ ?_
  · exact (ALok.r (ALok.r (ALok.r (ALok.r (ALok.r (ALok.r ALok.nil))))))
  refine' DT.r rfl rfl rfl ?hq ?_
  case hq =>
    refine WO.p rfl rfl ?_
    exact WO.nil ⟨rfl, rfl⟩
  refine' DT.r rfl rfl rfl ?hq ?_
  case hq =>
    refine WO.p rfl rfl ?_
    exact WO.nil ⟨rfl, rfl⟩
  refine' DT.r rfl rfl rfl ?hq ?_
  case hq =>
    refine WO.quo rfl rfl (by first | omega | assumption) (by (first | (unfold in64; omega) | assumption)) rfl ?_
    exact WO.nil ⟨rfl, rfl⟩
  refine' DT.r rfl rfl rfl ?hq ?_
  case hq =>
    refine WO.p rfl rfl ?_
    exact WO.nil ⟨rfl, rfl⟩
  refine' DT.r rfl rfl rfl ?hq ?_
  case hq =>
    refine WO.p rfl rfl ?_
    exact WO.nil ⟨rfl, rfl⟩
  refine' DT.r rfl rfl rfl ?hq ?_
  case hq =>
    refine WO.quo rfl rfl (by first | omega | assumption) (by (first | (unfold in64; omega) | assumption)) rfl ?_
    exact WO.nil ⟨rfl, rfl⟩
  refine DT.nil [_, _] rfl ?_
  refine' WO.build (cs := _) rfl rfl rfl ?hf rfl ?_
  case hf => (conv => lhs; simp [-List.getD_eq_getElem?_getD, fillL, vcl, wrl, TTab.pl?.lget']) <;> rfl
  refine WO.storeA rfl rfl rfl rfl (Pick.tail (Pick.head)) rfl rfl ?_
  refine WO.nil ?_
  refine W.ret ?_
  exact fin.ret (Res.one rfl (RV.cell rfl rfl rfl (Cells.own Pick.head))) rfl
end Go.Proofs.YtnehaifgcegemaaGreat.Tr
namespace Go.Proofs.YtnehaifgcegemaaGreat.Tr
open Go Go.TH
attribute [local irreducible] W WO pt
set_option maxRecDepth 10000
set_option maxHeartbeats 1000000
theorem foldl_take {α β : Type} (f : β → α → β) {l : List α} {i : Nat} (h : i < l.length) (z : α) (b : β) : (l.take (i + 1)).foldl f b = f ((l.take i).foldl f b) (l.getD i z) := by
  rw [take_succ_getD h z, List.foldl_append]; rfl
/-- the least, and the greatest, of some numbers -/
def minL : List Int → Int
  | [] => 0
  | x :: r => r.foldl min x
def maxL : List Int → Int
  | [] => 0
  | x :: r => r.foldl max x
theorem minL_succ {xs : List Int} {i : Nat} (h : i < xs.length) (h1 : 1 ≤ i) : minL (xs.take (i + 1)) = min (minL (xs.take i)) (xs.getD i 0) := by
  cases xs with
  | nil => simp at h
  | cons x r =>
    obtain ⟨j, rfl⟩ : ∃ j, i = j + 1 := ⟨i - 1, by omega⟩
    simp only [List.take_succ_cons, minL]
    rw [foldl_take _ (by simpa using h) 0]; simp
theorem maxL_succ {xs : List Int} {i : Nat} (h : i < xs.length) (h1 : 1 ≤ i) : maxL (xs.take (i + 1)) = max (maxL (xs.take i)) (xs.getD i 0) := by
  cases xs with
  | nil => simp at h
  | cons x r =>
    obtain ⟨j, rfl⟩ : ∃ j, i = j + 1 := ⟨i - 1, by omega⟩
    simp only [List.take_succ_cons, maxL]
    rw [foldl_take _ (by simpa using h) 0]; simp
theorem minL_one {xs : List Int} (h : 0 < xs.length) : minL (xs.take 1) = xs.getD 0 0 := by
  cases xs with
  | nil => simp at h
  | cons x r => simp [minL]
theorem maxL_one {xs : List Int} (h : 0 < xs.length) : maxL (xs.take 1) = xs.getD 0 0 := by
  cases xs with
  | nil => simp at h
  | cons x r => simp [maxL]
theorem c_Min (w : World) (o : Value) (xs : List Int) (hR : RdF encI 1 w.heap.size w o xs) (hn : 0 < xs.length) : Ret Tryz.prog 120 [o].toArray w (.int .i64 (minL xs)) := by
  refine Ret.of mixed tyTab Tryz.func120 rfl rfl ?_
  replace hR : RdF encI 1 (fnCx mixed tyTab Tryz.f120.ntmps w).B (fnCx mixed tyTab Tryz.f120.ntmps w).w0 o xs := hR
  have hle := hR.sl.le
  refine W.sreg ?_
  refine WO.p rfl rfl ?_
  refine WO.nil ?_
  refine W.seq ?_
  refine W.sreg ?_
  refine WO.p rfl rfl ?_
  refine' WO.len (n := _) rfl rfl ?hs rfl ?_
  case hs => (first | exact hR.sl)
  refine WO.p rfl rfl ?_
  refine WO.nil ?_
  refine W.cond_bl rfl (fun c1 => ?_) (fun c1 => ?_)
  · first
    | (exfalso; omega)
    | (refine W.region ?_
       omega
       omega
       refine WO.nil ?_
       refine W.sreg ?_
       refine WO.p rfl rfl ?_
       refine' WO.indexAddr (n := _) (i := 0) rfl rfl rfl ?hs ?h1 rfl ?_
       case hs => (first | exact hR.sl)
       case h1 => (first | omega | (simp; omega))
       refine' WO.load (v := _) rfl rfl ?hc rfl ?_
       case hc => (first | (refine hR.cell0 ?_ 0 ?_ <;> first | rfl | omega))
       refine WO.p rfl rfl ?_
       refine WO.nil ?_
       refine W.seq ?_
       refine W.sreg ?_
       refine WO.p rfl rfl ?_
       refine WO.nil ?_
       refine W.block ?_
       refine W.loop2 (fun (i : Nat) (m : Int) => 1 ≤ i ∧ i ≤ xs.length ∧ m = minL (xs.take i))
         (fun (i : Nat) (m : Int) => [(4, .int .i64 (i : Int)), (3, .int .i64 m), (0, o)])
         (fun (i : Nat) (m : Int) => [])
         (fun (i : Nat) (m : Int) => xs.length - i) 1 (xs.getD 0 0)
         (by exact ⟨by omega, by omega, (minL_one hn).symm⟩) ⟨rfl, rfl, rfl, trivial⟩ (by repeat (first | exact Sub.nil | refine Sub.cons (by repeat (first | exact Pick.head | apply Pick.tail)) ?_)) ?_
       rintro i m ⟨h1, hi, em⟩
       refine W.seq ?_
       refine W.sreg ?_
       refine WO.p rfl rfl (WO.p rfl rfl ?_)
       refine' WO.len (n := _) rfl rfl ?hs rfl ?_
       case hs => (first | exact hR.sl)
       refine WO.p rfl rfl ?_
       refine WO.nil ?_
       refine W.cond_bl rfl (fun c2 => ?_) (fun c2 => ?_)
       · first
         | (exfalso; omega)
         | (refine W.skip ?_
            refine W.seq ?_
            refine W.block ?_
            refine W.region ?_
            refine WO.p rfl rfl (WO.p rfl rfl (WO.p rfl rfl ?_))
            refine' WO.indexAddr (n := _) (i := _) rfl rfl rfl ?hs ?h1 rfl ?_
            case hs => (first | exact hR.sl)
            case h1 => (first | omega | (simp; omega))
            refine' WO.load (v := _) rfl rfl ?hc rfl ?_
            case hc => (first | (refine hR.cell0 ?_ 0 ?_ <;> first | rfl | omega))
            refine WO.min2 rfl rfl rfl ?_
            refine WO.p rfl rfl ?_
            refine WO.nil ?_
            refine W.region ?_
            refine WO.p rfl rfl (WO.ar rfl rfl rfl (by (first | (unfold in64; omega))) rfl (WO.p rfl rfl ?_))
            refine WO.nil ?_
            refine' ⟨i + 1, _, ?hp, ?hmu, ⟨rfl, rfl, rfl, trivial⟩, ?hS⟩
            case hS => repeat (first | exact Sub.nil | refine Sub.cons (by repeat (first | exact Pick.head | apply Pick.tail)) ?_)
            case hp => exact ⟨by omega, by omega, by rw [minL_succ (by omega) h1, em]⟩
            case hmu => omega)
       · first
         | (exfalso; omega)
         | (refine W.exit (blk_same ?_)
            refine W.sreg ?_
            refine WO.p rfl rfl (WO.p rfl rfl ?_)
            refine WO.nil ?_
            refine W.ret ?_
            obtain rfl : i = xs.length := by omega
            refine fin.ret (Res.one rfl (RV.tmp rfl)) ?_
            rw [em, List.take_length]))
  · first
    | (exfalso; omega)
    | (refine W.skip ?_
       refine W.sreg ?_
       refine WO.p rfl rfl ?_
       refine' WO.indexAddr (n := _) (i := 0) rfl rfl rfl ?hs ?h1 rfl ?_
       case hs => (first | exact hR.sl)
       case h1 => (first | omega | (simp; omega))
       refine' WO.load (v := _) rfl rfl ?hc rfl ?_
       case hc => (first | (refine hR.cell0 ?_ 0 ?_ <;> first | rfl | omega))
       refine WO.p rfl rfl ?_
       refine WO.nil ?_
       refine W.seq ?_
       refine W.sreg ?_
       refine WO.p rfl rfl ?_
       refine WO.nil ?_
       refine W.block ?_
       refine W.loop2 (fun (i : Nat) (m : Int) => 1 ≤ i ∧ i ≤ xs.length ∧ m = minL (xs.take i))
         (fun (i : Nat) (m : Int) => [(4, .int .i64 (i : Int)), (3, .int .i64 m), (0, o)])
         (fun (i : Nat) (m : Int) => [])
         (fun (i : Nat) (m : Int) => xs.length - i) 1 (xs.getD 0 0)
         (by exact ⟨by omega, by omega, (minL_one hn).symm⟩) ⟨rfl, rfl, rfl, trivial⟩ (by repeat (first | exact Sub.nil | refine Sub.cons (by repeat (first | exact Pick.head | apply Pick.tail)) ?_)) ?_
       rintro i m ⟨h1, hi, em⟩
       refine W.seq ?_
       refine W.sreg ?_
       refine WO.p rfl rfl (WO.p rfl rfl ?_)
       refine' WO.len (n := _) rfl rfl ?hs rfl ?_
       case hs => (first | exact hR.sl)
       refine WO.p rfl rfl ?_
       refine WO.nil ?_
       refine W.cond_bl rfl (fun c3 => ?_) (fun c3 => ?_)
       · first
         | (exfalso; omega)
         | (refine W.skip ?_
            refine W.seq ?_
            refine W.block ?_
            refine W.region ?_
            refine WO.p rfl rfl (WO.p rfl rfl (WO.p rfl rfl ?_))
            refine' WO.indexAddr (n := _) (i := _) rfl rfl rfl ?hs ?h1 rfl ?_
            case hs => (first | exact hR.sl)
            case h1 => (first | omega | (simp; omega))
            refine' WO.load (v := _) rfl rfl ?hc rfl ?_
            case hc => (first | (refine hR.cell0 ?_ 0 ?_ <;> first | rfl | omega))
            refine WO.min2 rfl rfl rfl ?_
            refine WO.p rfl rfl ?_
            refine WO.nil ?_
            refine W.region ?_
            refine WO.p rfl rfl (WO.ar rfl rfl rfl (by (first | (unfold in64; omega))) rfl (WO.p rfl rfl ?_))
            refine WO.nil ?_
            refine' ⟨i + 1, _, ?hp, ?hmu, ⟨rfl, rfl, rfl, trivial⟩, ?hS⟩
            case hS => repeat (first | exact Sub.nil | refine Sub.cons (by repeat (first | exact Pick.head | apply Pick.tail)) ?_)
            case hp => exact ⟨by omega, by omega, by rw [minL_succ (by omega) h1, em]⟩
            case hmu => omega)
       · first
         | (exfalso; omega)
         | (refine W.exit (blk_same ?_)
            refine W.sreg ?_
            refine WO.p rfl rfl (WO.p rfl rfl ?_)
            refine WO.nil ?_
            refine W.ret ?_
            obtain rfl : i = xs.length := by omega
            refine fin.ret (Res.one rfl (RV.tmp rfl)) ?_
            rw [em, List.take_length]))
theorem c_Max (w : World) (o : Value) (xs : List Int) (hR : RdF encI 1 w.heap.size w o xs) (hn : 0 < xs.length) : Ret Tryz.prog 121 [o].toArray w (.int .i64 (maxL xs)) := by
  refine Ret.of mixed tyTab Tryz.func121 rfl rfl ?_
  replace hR : RdF encI 1 (fnCx mixed tyTab Tryz.f121.ntmps w).B (fnCx mixed tyTab Tryz.f121.ntmps w).w0 o xs := hR
  have hle := hR.sl.le
  refine W.sreg ?_
  refine WO.p rfl rfl ?_
  refine WO.nil ?_
  refine W.seq ?_
  refine W.sreg ?_
  refine WO.p rfl rfl ?_
  refine' WO.len (n := _) rfl rfl ?hs rfl ?_
  case hs => (first | exact hR.sl)
  refine WO.p rfl rfl ?_
  refine WO.nil ?_
  refine W.cond_bl rfl (fun c1 => ?_) (fun c1 => ?_)
  · first
    | (exfalso; omega)
    | (refine W.region ?_
       omega
       omega
       refine WO.nil ?_
       refine W.sreg ?_
       refine WO.p rfl rfl ?_
       refine' WO.indexAddr (n := _) (i := 0) rfl rfl rfl ?hs ?h1 rfl ?_
       case hs => (first | exact hR.sl)
       case h1 => (first | omega | (simp; omega))
       refine' WO.load (v := _) rfl rfl ?hc rfl ?_
       case hc => (first | (refine hR.cell0 ?_ 0 ?_ <;> first | rfl | omega))
       refine WO.p rfl rfl ?_
       refine WO.nil ?_
       refine W.seq ?_
       refine W.sreg ?_
       refine WO.p rfl rfl ?_
       refine WO.nil ?_
       refine W.block ?_
       refine W.loop2 (fun (i : Nat) (m : Int) => 1 ≤ i ∧ i ≤ xs.length ∧ m = maxL (xs.take i))
         (fun (i : Nat) (m : Int) => [(4, .int .i64 (i : Int)), (3, .int .i64 m), (0, o)])
         (fun (i : Nat) (m : Int) => [])
         (fun (i : Nat) (m : Int) => xs.length - i) 1 (xs.getD 0 0)
         (by exact ⟨by omega, by omega, (maxL_one hn).symm⟩) ⟨rfl, rfl, rfl, trivial⟩ (by repeat (first | exact Sub.nil | refine Sub.cons (by repeat (first | exact Pick.head | apply Pick.tail)) ?_)) ?_
       rintro i m ⟨h1, hi, em⟩
       refine W.seq ?_
       refine W.sreg ?_
       refine WO.p rfl rfl (WO.p rfl rfl ?_)
       refine' WO.len (n := _) rfl rfl ?hs rfl ?_
       case hs => (first | exact hR.sl)
       refine WO.p rfl rfl ?_
       refine WO.nil ?_
       refine W.cond_bl rfl (fun c2 => ?_) (fun c2 => ?_)
       · first
         | (exfalso; omega)
         | (refine W.skip ?_
            refine W.seq ?_
            refine W.block ?_
            refine W.region ?_
            refine WO.p rfl rfl (WO.p rfl rfl (WO.p rfl rfl ?_))
            refine' WO.indexAddr (n := _) (i := _) rfl rfl rfl ?hs ?h1 rfl ?_
            case hs => (first | exact hR.sl)
            case h1 => (first | omega | (simp; omega))
            refine' WO.load (v := _) rfl rfl ?hc rfl ?_
            case hc => (first | (refine hR.cell0 ?_ 0 ?_ <;> first | rfl | omega))
            refine WO.max2 rfl rfl rfl ?_
            refine WO.p rfl rfl ?_
            refine WO.nil ?_
            refine W.region ?_
            refine WO.p rfl rfl (WO.ar rfl rfl rfl (by (first | (unfold in64; omega))) rfl (WO.p rfl rfl ?_))
            refine WO.nil ?_
            refine' ⟨i + 1, _, ?hp, ?hmu, ⟨rfl, rfl, rfl, trivial⟩, ?hS⟩
            case hS => repeat (first | exact Sub.nil | refine Sub.cons (by repeat (first | exact Pick.head | apply Pick.tail)) ?_)
            case hp => exact ⟨by omega, by omega, by rw [maxL_succ (by omega) h1, em]⟩
            case hmu => omega)
       · first
         | (exfalso; omega)
         | (refine W.exit (blk_same ?_)
            refine W.sreg ?_
            refine WO.p rfl rfl (WO.p rfl rfl ?_)
            refine WO.nil ?_
            refine W.ret ?_
            obtain rfl : i = xs.length := by omega
            refine fin.ret (Res.one rfl (RV.tmp rfl)) ?_
            rw [em, List.take_length]))
  · first
    | (exfalso; omega)
    | (refine W.skip ?_
       refine W.sreg ?_
       refine WO.p rfl rfl ?_
       refine' WO.indexAddr (n := _) (i := 0) rfl rfl rfl ?hs ?h1 rfl ?_
       case hs => (first | exact hR.sl)
       case h1 => (first | omega | (simp; omega))
       refine' WO.load (v := _) rfl rfl ?hc rfl ?_
       case hc => (first | (refine hR.cell0 ?_ 0 ?_ <;> first | rfl | omega))
       refine WO.p rfl rfl ?_
       refine WO.nil ?_
       refine W.seq ?_
       refine W.sreg ?_
       refine WO.p rfl rfl ?_
       refine WO.nil ?_
       refine W.block ?_
       refine W.loop2 (fun (i : Nat) (m : Int) => 1 ≤ i ∧ i ≤ xs.length ∧ m = maxL (xs.take i))
         (fun (i : Nat) (m : Int) => [(4, .int .i64 (i : Int)), (3, .int .i64 m), (0, o)])
         (fun (i : Nat) (m : Int) => [])
         (fun (i : Nat) (m : Int) => xs.length - i) 1 (xs.getD 0 0)
         (by exact ⟨by omega, by omega, (maxL_one hn).symm⟩) ⟨rfl, rfl, rfl, trivial⟩ (by repeat (first | exact Sub.nil | refine Sub.cons (by repeat (first | exact Pick.head | apply Pick.tail)) ?_)) ?_
       rintro i m ⟨h1, hi, em⟩
       refine W.seq ?_
       refine W.sreg ?_
       refine WO.p rfl rfl (WO.p rfl rfl ?_)
       refine' WO.len (n := _) rfl rfl ?hs rfl ?_
       case hs => (first | exact hR.sl)
       refine WO.p rfl rfl ?_
       refine WO.nil ?_
       refine W.cond_bl rfl (fun c3 => ?_) (fun c3 => ?_)
       · first
         | (exfalso; omega)
         | (refine W.skip ?_
            refine W.seq ?_
            refine W.block ?_
            refine W.region ?_
            refine WO.p rfl rfl (WO.p rfl rfl (WO.p rfl rfl ?_))
            refine' WO.indexAddr (n := _) (i := _) rfl rfl rfl ?hs ?h1 rfl ?_
            case hs => (first | exact hR.sl)
            case h1 => (first | omega | (simp; omega))
            refine' WO.load (v := _) rfl rfl ?hc rfl ?_
            case hc => (first | (refine hR.cell0 ?_ 0 ?_ <;> first | rfl | omega))
            refine WO.max2 rfl rfl rfl ?_
            refine WO.p rfl rfl ?_
            refine WO.nil ?_
            refine W.region ?_
            refine WO.p rfl rfl (WO.ar rfl rfl rfl (by (first | (unfold in64; omega))) rfl (WO.p rfl rfl ?_))
            refine WO.nil ?_
            refine' ⟨i + 1, _, ?hp, ?hmu, ⟨rfl, rfl, rfl, trivial⟩, ?hS⟩
            case hS => repeat (first | exact Sub.nil | refine Sub.cons (by repeat (first | exact Pick.head | apply Pick.tail)) ?_)
            case hp => exact ⟨by omega, by omega, by rw [maxL_succ (by omega) h1, em]⟩
            case hmu => omega)
       · first
         | (exfalso; omega)
         | (refine W.exit (blk_same ?_)
            refine W.sreg ?_
            refine WO.p rfl rfl (WO.p rfl rfl ?_)
            refine WO.nil ?_
            refine W.ret ?_
            obtain rfl : i = xs.length := by omega
            refine fin.ret (Res.one rfl (RV.tmp rfl)) ?_
            rw [em, List.take_length]))
/-- are all from one to another one? -/
def btw (lo hi : Int) (xs : List Int) : Bool := bl (lo ≤ minL xs) && bl (maxL xs ≤ hi)
theorem c_within (w : World) (lo hi : Int) (o : Value) (xs : List Int) (hR : RdF encI 1 w.heap.size w o xs) (hn : 0 < xs.length) : Ret Tryz.prog 45 [.int .i64 lo, .int .i64 hi, o].toArray w (.bool (btw lo hi xs)) := by
  refine Ret.of mixed tyTab Tryz.func45 rfl rfl ?_
  replace hR : RdF encI 1 (fnCx mixed tyTab Tryz.f45.ntmps w).B (fnCx mixed tyTab Tryz.f45.ntmps w).w0 o xs := hR
  refine W.sreg ?_
  refine WO.p rfl rfl ?_
  refine WO.nil ?_
  refine W.sreg ?_
  refine WO.p rfl rfl ?_
  refine WO.callR rfl Tryz.call120 (fun L w hi => c_Min w o xs (hR.later hi) hn) rfl ?_
  refine WO.p rfl rfl (WO.p rfl rfl (WO.p rfl rfl ?_))
  refine WO.guard_bl rfl rfl (fun c1 => ?_) (fun c1 => ?_)
  · first
    | (exfalso; omega)
    | (refine WO.pg rfl rfl rfl (WO.go' rfl ?_)
       refine WO.callR rfl Tryz.call121 (fun L w hi => c_Max w o xs (hR.later hi) hn) rfl ?_
       refine WO.pg rfl rfl rfl (WO.pg rfl rfl rfl (WO.p rfl rfl (WO.p rfl rfl ?_)))
       refine WO.nil ?_
       refine W.ret ?_
       refine fin.ret (Res.one rfl (RV.tmp rfl)) ?_
       refine congrArg Value.bool ?_
       first | (simp_all [btw, bl_eq]; done) | (simp_all [btw, bl_eq]; omega))
  · first
    | (exfalso; omega)
    | (refine WO.no rfl rfl (WO.no rfl rfl (WO.no rfl rfl (WO.no rfl rfl (WO.p rfl rfl (WO.p rfl rfl ?_)))))
       refine WO.nil ?_
       refine W.ret ?_
       refine fin.ret (Res.one rfl (RV.tmp rfl)) ?_
       refine congrArg Value.bool ?_
       first | (simp_all [btw, bl_eq]; done) | (simp_all [btw, bl_eq]; omega))
theorem btw1 (lo hi x : Int) : btw lo hi [x] = bl (lo ≤ x ∧ x ≤ hi) := by
  unfold btw; rw [bl_eq, bl_eq, bl_eq]
  show (decide (lo ≤ x) && decide (x ≤ hi)) = _
  simp
theorem btw2 (lo hi x y : Int) : btw lo hi [x, y] = bl (lo ≤ x ∧ x ≤ hi ∧ lo ≤ y ∧ y ≤ hi) := by
  unfold btw; rw [bl_eq, bl_eq, bl_eq]
  show (decide (lo ≤ min x y) && decide (max x y ≤ hi)) = _
  rw [← Bool.decide_and, decide_eq_decide]
  omega
/-- a run: its minute, and its least and its greatest speed over the ground -/
def encR (r : Int × Int × Int) : List Value := [.int .i64 r.1, .int .i64 r.2.1, .int .i64 r.2.2]
theorem encR_ok : EncOk encR 3 := ⟨fun _ => rfl, fun x u hu => by simp [encR] at hu; rcases hu with rfl | rfl | rfl <;> rfl, by omega⟩
def r0 : Int × Int × Int := (0, 0, 0)
def prevAt (rs : List (Int × Int × Int)) (i : Nat) : Int := if i = 0 then -1 else (rs.getD (i - 1) r0).1
def goodR (p : Int) (r : Int × Int × Int) : Prop := p + 1 ≤ r.1 ∧ r.1 ≤ 60 ∧ 0 ≤ r.2.1 ∧ r.2.1 ≤ r.2.2 ∧ r.2.2 ≤ 20000
instance (p : Int) (r : Int × Int × Int) : Decidable (goodR p r) := by unfold goodR; infer_instance
def goodTo (rs : List (Int × Int × Int)) (n : Nat) : Prop := ∀ i, i < n → goodR (prevAt rs i) (rs.getD i r0)
instance (rs : List (Int × Int × Int)) (n : Nat) : Decidable (goodTo rs n) := by unfold goodTo; infer_instance
/-- what CheckTest answers -/
def chkT (m : Int) (rs : List (Int × Int × Int)) : Int := if rs.length < 2 ∨ 5 < rs.length then 6 else if m < 0 ∨ 2 < m then 2 else if goodTo rs rs.length then 0 else 2
theorem prev_in {rs : List (Int × Int × Int)} {i : Nat} (h : goodTo rs i) : -1 ≤ prevAt rs i ∧ prevAt rs i ≤ 60 := by
  induction i with
  | zero => simp [prevAt]
  | succ i ih =>
    have h1 := h i (by omega)
    have h2 := ih (fun j hj => h j (by omega))
    unfold prevAt
    rw [if_neg (by omega), Nat.add_sub_cancel]
    unfold goodR at h1
    omega
theorem goodTo_succ {rs : List (Int × Int × Int)} {i : Nat} (h : goodTo rs i) (h2 : goodR (prevAt rs i) (rs.getD i r0)) : goodTo rs (i + 1) := by
  intro j hj
  by_cases e : j = i
  · subst e; exact h2
  · exact h j (by omega)
theorem chkT_bad {m : Int} {rs : List (Int × Int × Int)} {i : Nat} (h1 : 2 ≤ rs.length ∧ rs.length ≤ 5) (h2 : 0 ≤ m ∧ m ≤ 2) (hi : i < rs.length) (h : ¬ goodR (prevAt rs i) (rs.getD i r0)) : 2 = chkT m rs := by
  unfold chkT; rw [if_neg (by omega), if_neg (by omega), if_neg (fun hg => h (hg i hi))]
theorem chkT_good {m : Int} {rs : List (Int × Int × Int)} {i : Nat} (h1 : 2 ≤ rs.length ∧ rs.length ≤ 5) (h2 : 0 ≤ m ∧ m ≤ 2) (hi : rs.length ≤ i) (h : goodTo rs i) : 0 = chkT m rs := by
  have h' : goodTo rs rs.length := fun j hj => h j (by omega)
  unfold chkT; rw [if_neg (by omega), if_neg (by omega), if_pos h']
theorem c_CheckTest (w : World) (m : Int) (o : Value) (rs : List (Int × Int × Int)) (hR : RdF encR 3 w.heap.size w o rs) : Ret Tryz.prog 115 [.agg #[.int .i64 m, o]].toArray w (.int .i64 (chkT m rs)) := by
  refine Ret.of mixed tyTab Tryz.func115 rfl rfl ?_
  replace hR : RdF encR 3 (fnCx mixed tyTab Tryz.f115.ntmps w).B (fnCx mixed tyTab Tryz.f115.ntmps w).w0 o rs := hR
  have hle := hR.sl.le
  have ho := hR.sl.oc
  refine W.sreg ?_
  refine WO.boxA rfl rfl (fun b1 hb1 => ?_)
  refine WO.p rfl rfl ?_
  refine WO.nil ?_
  refine W.seq ?_
  refine W.block ?_
  refine W.sreg ?_
  refine WO.fieldL rfl rfl rfl (WO.load rfl rfl (Cell.own Pick.head rfl) rfl ?_)
  refine' WO.len (n := _) rfl rfl ?hs rfl ?_
  case hs => (first | exact hR.sl)
  refine WO.p rfl rfl (WO.p rfl rfl ?_)
  refine WO.guard_bl rfl rfl (fun c1 => ?_) (fun c1 => ?_)
  · first
    | (exfalso; omega)
    | (refine WO.no rfl rfl (WO.no rfl rfl (WO.no rfl rfl (WO.no rfl rfl (WO.p rfl rfl (WO.p rfl rfl ?_)))))
       refine WO.nil ?_
       refine W.cond_t rfl ?_
       refine W.sreg ?_
       refine WO.p rfl rfl ?_
       refine WO.nil ?_
       refine W.ret ?_
       refine fin.ret (Res.one rfl (RV.tmp rfl)) ?_
       refine congrArg (Value.int .i64) ?_
       first | (unfold chkT; first | rw [if_pos (by omega)] | (rw [if_neg (by omega), if_pos (by omega)]); done) | exact chkT_bad (i := i) (by omega) (by omega) (by omega) (by unfold goodR; omega) | exact chkT_good (by omega) (by omega) (by omega) hg)
  · first
    | (exfalso; omega)
    | (refine WO.go' rfl (WO.fieldL rfl rfl rfl (WO.go' rfl (WO.load rfl rfl (Cell.own Pick.head rfl) rfl (WO.go' rfl ?_))))
       refine' WO.len (n := _) rfl rfl ?hs rfl ?_
       case hs => (first | exact hR.sl)
       refine WO.pg rfl rfl rfl (WO.p rfl rfl (WO.p rfl rfl ?_))
       refine WO.nil ?_
       refine W.cond_bl rfl (fun c2 => ?_) (fun c2 => ?_)
       · first
         | (exfalso; omega)
         | (refine W.sreg ?_
            refine WO.p rfl rfl ?_
            refine WO.nil ?_
            refine W.ret ?_
            refine fin.ret (Res.one rfl (RV.tmp rfl)) ?_
            refine congrArg (Value.int .i64) ?_
            first | (unfold chkT; first | rw [if_pos (by omega)] | (rw [if_neg (by omega), if_pos (by omega)]); done) | exact chkT_bad (i := i) (by omega) (by omega) (by omega) (by unfold goodR; omega) | exact chkT_good (by omega) (by omega) (by omega) hg)
       · first
         | (exfalso; omega)
         | (refine W.sreg ?_
            refine WO.field0 rfl rfl rfl (WO.load rfl rfl (Cell.own Pick.head rfl) rfl (WO.p rfl rfl (WO.p rfl rfl ?_)))
            refine WO.guard_bl rfl rfl (fun c3 => ?_) (fun c3 => ?_)
            · first
              | (exfalso; omega)
              | (refine WO.no rfl rfl (WO.no rfl rfl (WO.no rfl rfl (WO.p rfl rfl (WO.p rfl rfl ?_))))
                 refine WO.nil ?_
                 refine W.cond_t rfl ?_
                 refine W.sreg ?_
                 refine WO.p rfl rfl ?_
                 refine WO.nil ?_
                 refine W.ret ?_
                 refine fin.ret (Res.one rfl (RV.tmp rfl)) ?_
                 refine congrArg (Value.int .i64) ?_
                 first | (unfold chkT; first | rw [if_pos (by omega)] | (rw [if_neg (by omega), if_pos (by omega)]); done) | exact chkT_bad (i := i) (by omega) (by omega) (by omega) (by unfold goodR; omega) | exact chkT_good (by omega) (by omega) (by omega) hg)
            · first
              | (exfalso; omega)
              | (refine WO.go' rfl (WO.field0 rfl rfl rfl (WO.go' rfl (WO.load rfl rfl (Cell.own Pick.head rfl) rfl (WO.pg rfl rfl rfl (WO.p rfl rfl (WO.p rfl rfl ?_))))))
                 refine WO.nil ?_
                 refine W.cond_bl rfl (fun c4 => ?_) (fun c4 => ?_)
                 · first
                   | (exfalso; omega)
                   | (refine W.sreg ?_
                      refine WO.p rfl rfl ?_
                      refine WO.nil ?_
                      refine W.ret ?_
                      refine fin.ret (Res.one rfl (RV.tmp rfl)) ?_
                      refine congrArg (Value.int .i64) ?_
                      first | (unfold chkT; first | rw [if_pos (by omega)] | (rw [if_neg (by omega), if_pos (by omega)]); done) | exact chkT_bad (i := i) (by omega) (by omega) (by omega) (by unfold goodR; omega) | exact chkT_good (by omega) (by omega) (by omega) hg)
                 · first
                   | (exfalso; omega)
                   | (refine W.skip ?_
                      refine W.sreg ?_
                      refine WO.p rfl rfl ?_
                      refine WO.nil ?_
                      refine W.seq ?_
                      refine W.sreg ?_
                      refine WO.fieldL rfl rfl rfl (WO.load rfl rfl (Cell.own Pick.head rfl) rfl ?_)
                      refine' WO.len (n := _) rfl rfl ?hs rfl ?_
                      case hs => (first | exact hR.sl)
                      refine WO.p rfl rfl ?_
                      refine WO.nil ?_
                      refine W.block ?_
                      refine W.loop2 (fun (i : Nat) (last : Int) => i ≤ rs.length ∧ last = prevAt rs i ∧ goodTo rs i)
                        (fun (i : Nat) (last : Int) => [(29, .int .i64 (i : Int)), (28, .int .i64 (rs.length : Int)), (27, o), (3, .int .i64 last)])
                        (fun (i : Nat) (last : Int) => [])
                        (fun (i : Nat) (last : Int) => rs.length - i) 0 (-1)
                        (by exact ⟨by omega, rfl, fun j hj => by omega⟩) ⟨rfl, rfl, rfl, rfl, trivial⟩ (by repeat (first | exact Sub.nil | refine Sub.cons (by repeat (first | exact Pick.head | apply Pick.tail)) ?_)) ?_
                      rintro i last ⟨hi, hl, hg⟩
                      refine W.sreg ?_
                      refine WO.p rfl rfl ?_
                      refine WO.nil ?_
                      refine W.seq ?_
                      refine W.cond_bl rfl (fun c5 => ?_) (fun c5 => ?_)
                      · first
                        | (exfalso; omega)
                        | (refine W.skip ?_
                           refine W.seq ?_
                           refine W.block ?_
                           refine W.sreg ?_
                           refine' WO.indexAddr (n := _) (i := _) rfl rfl rfl ?hs ?h1 rfl ?_
                           case hs => (first | exact hR.sl)
                           case h1 => (first | omega | (simp; omega))
                           refine' WO.loadA (vs := _) rfl rfl ?hc ?hl rfl ?_
                           case hc => (first | (refine hR.cells ?_ r0; omega))
                           case hl => rfl
                           refine WO.alloc rfl rfl rfl (fun b2 hb2 => ?_)
                           refine WO.storeA rfl rfl rfl rfl Pick.head rfl rfl ?_
                           refine WO.nil ?_
                           refine W.seq ?_
                           have hpi := prev_in hg
                           refine W.sreg ?_
                           refine WO.p rfl rfl (WO.ar rfl rfl rfl (by (first | (unfold in64; omega) | (unfold in64; omega))) rfl (WO.field0 rfl rfl rfl (WO.load rfl rfl (Cell.own Pick.head rfl) rfl ?_)))
                           refine' WO.buildSl (cs := _) rfl rfl rfl rfl ?hf rfl rfl ?hl rfl (fun v3 => ?_)
                           case hf => (conv => lhs; simp [-List.getD_eq_getElem?_getD, fillL, vcl, wrl, TTab.pl?.lget']) <;> rfl
                           case hl => rfl
                           refine WO.callR (r := .bool (bl (last + 1 ≤ (rs.getD i r0).1 ∧ (rs.getD i r0).1 ≤ 60))) rfl Tryz.call45 (fun L w hi => by rw [← btw1]; exact c_within w _ _ _ [(rs.getD i r0).1] (RdF.of_ow (e := 2) encI_ok (by repeat (first | exact Pick.head | apply Pick.tail)) hi) (by simp)) rfl ?_
                           refine WO.p rfl rfl (WO.p rfl rfl ?_)
                           refine WO.guard_nbl rfl rfl (fun c6 => ?_) (fun c6 => ?_)
                           · first
                             | (exfalso; omega)
                             | (refine WO.no rfl rfl (WO.no rfl rfl (WO.no rfl rfl (WO.no rfl rfl (WO.no rfl rfl (WO.no rfl rfl (WO.no rfl rfl (WO.no rfl rfl (WO.no rfl rfl (WO.p rfl rfl (WO.p rfl rfl (WO.no rfl rfl ?_)))))))))))
                                refine WO.no rfl rfl (WO.no rfl rfl (WO.no rfl rfl (WO.no rfl rfl (WO.no rfl rfl (WO.no rfl rfl (WO.p rfl rfl ?_))))))
                                refine WO.nil ?_
                                refine W.cond_t rfl ?_
                                refine W.sreg ?_
                                refine WO.p rfl rfl ?_
                                refine WO.nil ?_
                                refine W.ret ?_
                                refine fin.ret (Res.one rfl (RV.tmp rfl)) ?_
                                refine congrArg (Value.int .i64) ?_
                                first | (unfold chkT; first | rw [if_pos (by omega)] | (rw [if_neg (by omega), if_pos (by omega)]); done) | exact chkT_bad (i := i) (by omega) (by omega) (by omega) (by unfold goodR; omega) | exact chkT_good (by omega) (by omega) (by omega) hg)
                           · first
                             | (exfalso; omega)
                             | (refine WO.go' rfl (WO.fieldL rfl rfl rfl (WO.go' rfl (WO.field0 rfl rfl rfl (WO.go' rfl (WO.load rfl rfl (Cell.own (Pick.tail (Pick.head)) rfl) rfl (WO.go' rfl (WO.fieldL rfl rfl rfl (WO.go' rfl (WO.fieldL rfl rfl rfl (WO.go' rfl (WO.load rfl rfl (Cell.own (Pick.tail (Pick.head)) rfl) rfl ?_)))))))))))
                                refine WO.go' rfl ?_
                                refine' WO.buildSl (cs := _) rfl rfl rfl rfl ?hf rfl rfl ?hl rfl (fun v4 => ?_)
                                case hf => (conv => lhs; simp [-List.getD_eq_getElem?_getD, fillL, vcl, wrl, TTab.pl?.lget']) <;> rfl
                                case hl => rfl
                                refine WO.go' rfl ?_
                                refine WO.callR (r := .bool (bl (0 ≤ (rs.getD i r0).2.1 ∧ (rs.getD i r0).2.1 ≤ 20000 ∧ 0 ≤ (rs.getD i r0).2.2 ∧ (rs.getD i r0).2.2 ≤ 20000))) rfl Tryz.call45 (fun L w hi => by rw [← btw2]; exact c_within w _ _ _ [(rs.getD i r0).2.1, (rs.getD i r0).2.2] (RdF.of_ow (e := 2) encI_ok (by repeat (first | exact Pick.head | apply Pick.tail)) hi) (by simp)) rfl ?_
                                refine WO.pg rfl rfl rfl (WO.p rfl rfl (WO.p rfl rfl ?_))
                                refine WO.guard_nbl rfl rfl (fun c7 => ?_) (fun c7 => ?_)
                                · first
                                  | (exfalso; omega)
                                  | (refine WO.no rfl rfl (WO.no rfl rfl (WO.no rfl rfl (WO.no rfl rfl (WO.no rfl rfl (WO.no rfl rfl (WO.no rfl rfl (WO.p rfl rfl ?_)))))))
                                     refine WO.nil ?_
                                     refine W.cond_t rfl ?_
                                     refine W.sreg ?_
                                     refine WO.p rfl rfl ?_
                                     refine WO.nil ?_
                                     refine W.ret ?_
                                     refine fin.ret (Res.one rfl (RV.tmp rfl)) ?_
                                     refine congrArg (Value.int .i64) ?_
                                     first | (unfold chkT; first | rw [if_pos (by omega)] | (rw [if_neg (by omega), if_pos (by omega)]); done) | exact chkT_bad (i := i) (by omega) (by omega) (by omega) (by unfold goodR; omega) | exact chkT_good (by omega) (by omega) (by omega) hg)
                                · first
                                  | (exfalso; omega)
                                  | (refine WO.go' rfl (WO.fieldL rfl rfl rfl (WO.go' rfl (WO.field0 rfl rfl rfl (WO.go' rfl (WO.load rfl rfl (Cell.own (Pick.tail (Pick.tail (Pick.head))) rfl) rfl (WO.go' rfl (WO.fieldL rfl rfl rfl (WO.go' rfl (WO.fieldL rfl rfl rfl (WO.go' rfl (WO.load rfl rfl (Cell.own (Pick.tail (Pick.tail (Pick.head))) rfl) rfl ?_)))))))))))
                                     refine WO.pg rfl rfl rfl (WO.p rfl rfl ?_)
                                     refine WO.nil ?_
                                     refine W.cond_bl rfl (fun c8 => ?_) (fun c8 => ?_)
                                     · first
                                       | (exfalso; omega)
                                       | (refine W.sreg ?_
                                          refine WO.p rfl rfl ?_
                                          refine WO.nil ?_
                                          refine W.ret ?_
                                          refine fin.ret (Res.one rfl (RV.tmp rfl)) ?_
                                          refine congrArg (Value.int .i64) ?_
                                          first | (unfold chkT; first | rw [if_pos (by omega)] | (rw [if_neg (by omega), if_pos (by omega)]); done) | exact chkT_bad (i := i) (by omega) (by omega) (by omega) (by unfold goodR; omega) | exact chkT_good (by omega) (by omega) (by omega) hg)
                                     · first
                                       | (exfalso; omega)
                                       | (refine W.skip ?_
                                          refine W.region ?_
                                          refine WO.field0 rfl rfl rfl (WO.load rfl rfl (Cell.own (Pick.tail (Pick.tail (Pick.head))) rfl) rfl (WO.p rfl rfl ?_))
                                          refine WO.nil ?_
                                          refine W.region ?_
                                          refine WO.ar rfl rfl rfl (by (first | (unfold in64; omega) | (unfold in64; omega))) rfl (WO.p rfl rfl ?_)
                                          refine WO.nil ?_
                                          refine' ⟨i + 1, _, ?hp, ?hmu, ⟨rfl, rfl, rfl, rfl, trivial⟩, ?hS⟩
                                          case hS => repeat (first | exact Sub.nil | refine Sub.cons (by repeat (first | exact Pick.head | apply Pick.tail)) ?_)
                                          case hp => exact ⟨by omega, by unfold prevAt; rw [if_neg (by omega), Nat.add_sub_cancel], goodTo_succ hg (by unfold goodR; omega)⟩
                                          case hmu => omega))))
                      · first
                        | (exfalso; omega)
                        | (refine W.exit (blk_same ?_)
                           refine W.sreg ?_
                           refine WO.p rfl rfl ?_
                           refine WO.nil ?_
                           refine W.ret ?_
                           refine fin.ret (Res.one rfl (RV.tmp rfl)) ?_
                           refine congrArg (Value.int .i64) ?_
                           first | (unfold chkT; first | rw [if_pos (by omega)] | (rw [if_neg (by omega), if_pos (by omega)]); done) | exact chkT_bad (i := i) (by omega) (by omega) (by omega) (by unfold goodR; omega) | exact chkT_good (by omega) (by omega) (by omega) hg)))))
theorem ref_between (w : World) (n lo hi : Int) : Ret Tryz.prog 69 [.int .i64 n, .int .i64 lo, .int .i64 hi].toArray w (.bool (bl (lo ≤ n ∧ n ≤ hi))) := by
  refine Ret.of mixed tyTab Tryz.func69 rfl rfl ?_
  refine W.sreg ?_
  refine WO.p rfl rfl ?_
  refine WO.nil ?_
  refine W.sreg ?_
  refine WO.p rfl rfl (WO.p rfl rfl (WO.p rfl rfl (WO.p rfl rfl ?_)))
  refine WO.guard_bl rfl rfl (fun c1 => ?_) (fun c1 => ?_)
  · first
    | (exfalso; omega)
    | (refine WO.pg rfl rfl rfl (WO.pg rfl rfl rfl (WO.pg rfl rfl rfl (WO.p rfl rfl (WO.p rfl rfl ?_))))
       refine WO.nil ?_
       refine W.ret ?_
       refine fin.ret (Res.one rfl (RV.tmp rfl)) ?_
       refine congrArg Value.bool ?_
       first | (simp_all [bl_eq]; done) | (simp_all [bl_eq]; omega))
  · first
    | (exfalso; omega)
    | (refine WO.no rfl rfl (WO.no rfl rfl (WO.no rfl rfl (WO.p rfl rfl (WO.p rfl rfl ?_))))
       refine WO.nil ?_
       refine W.ret ?_
       refine fin.ret (Res.one rfl (RV.tmp rfl)) ?_
       refine congrArg Value.bool ?_
       first | (simp_all [bl_eq]; done) | (simp_all [bl_eq]; omega))
theorem prevAt_pos {rs : List (Int × Int × Int)} {i : Nat} (h : 0 < i) : prevAt rs i = (rs.getD (i - 1) r0).1 := by unfold prevAt; rw [if_neg (by omega)]
theorem prevAt_0 {rs : List (Int × Int × Int)} {i : Nat} (h : ¬ 0 < i) : prevAt rs i = -1 := by unfold prevAt; rw [if_pos (by omega)]
theorem ref_CheckTest (w : World) (m : Int) (o : Value) (rs : List (Int × Int × Int)) (hR : RdF encR 3 w.heap.size w o rs) : Ret Tryz.prog 25 [.agg #[.int .i64 m, o]].toArray w (.int .i64 (chkT m rs)) := by
  refine Ret.of mixed tyTab Tryz.func25 rfl rfl ?_
  replace hR : RdF encR 3 (fnCx mixed tyTab Tryz.f25.ntmps w).B (fnCx mixed tyTab Tryz.f25.ntmps w).w0 o rs := hR
  have hle := hR.sl.le
  have ho := hR.sl.oc
  refine W.sreg ?_
  refine WO.boxA rfl rfl (fun b1 hb1 => ?_)
  refine WO.p rfl rfl ?_
  refine WO.nil ?_
  refine W.seq ?_
  refine W.sreg ?_
  refine WO.fieldL rfl rfl rfl (WO.load rfl rfl (Cell.own Pick.head rfl) rfl ?_)
  refine' WO.len (n := _) rfl rfl ?hs rfl ?_
  case hs => (first | exact hR.sl)
  refine WO.p rfl rfl (WO.p rfl rfl ?_)
  refine WO.guard_bl rfl rfl (fun c1 => ?_) (fun c1 => ?_)
  · first
    | (exfalso; omega)
    | (refine WO.no rfl rfl (WO.no rfl rfl (WO.no rfl rfl (WO.no rfl rfl (WO.p rfl rfl ?_))))
       refine WO.nil ?_
       refine W.cond_t rfl ?_
       refine W.sreg ?_
       refine WO.p rfl rfl ?_
       refine WO.nil ?_
       refine W.ret ?_
       refine fin.ret (Res.one rfl (RV.tmp rfl)) ?_
       refine congrArg (Value.int .i64) ?_
       first | (unfold chkT; first | rw [if_pos (by omega)] | (rw [if_neg (by omega), if_pos (by omega)]); done) | exact chkT_bad (i := i) (by omega) (by omega) (by omega) (by unfold goodR; omega) | exact chkT_good (by omega) (by omega) (by omega) hg)
  · first
    | (exfalso; omega)
    | (refine WO.go' rfl (WO.fieldL rfl rfl rfl (WO.go' rfl (WO.load rfl rfl (Cell.own Pick.head rfl) rfl (WO.go' rfl ?_))))
       refine' WO.len (n := _) rfl rfl ?hs rfl ?_
       case hs => (first | exact hR.sl)
       refine WO.pg rfl rfl rfl (WO.p rfl rfl ?_)
       refine WO.nil ?_
       refine W.cond_bl rfl (fun c2 => ?_) (fun c2 => ?_)
       · first
         | (exfalso; omega)
         | (refine W.sreg ?_
            refine WO.p rfl rfl ?_
            refine WO.nil ?_
            refine W.ret ?_
            refine fin.ret (Res.one rfl (RV.tmp rfl)) ?_
            refine congrArg (Value.int .i64) ?_
            first | (unfold chkT; first | rw [if_pos (by omega)] | (rw [if_neg (by omega), if_pos (by omega)]); done) | exact chkT_bad (i := i) (by omega) (by omega) (by omega) (by unfold goodR; omega) | exact chkT_good (by omega) (by omega) (by omega) hg)
       · first
         | (exfalso; omega)
         | (refine W.skip ?_
            refine W.seq ?_
            refine W.sreg ?_
            refine WO.field0 rfl rfl rfl (WO.load rfl rfl (Cell.own Pick.head rfl) rfl (WO.p rfl rfl (WO.p rfl rfl ?_)))
            refine WO.guard_bl rfl rfl (fun c3 => ?_) (fun c3 => ?_)
            · first
              | (exfalso; omega)
              | (refine WO.no rfl rfl (WO.no rfl rfl (WO.no rfl rfl (WO.p rfl rfl ?_)))
                 refine WO.nil ?_
                 refine W.cond_t rfl ?_
                 refine W.sreg ?_
                 refine WO.p rfl rfl ?_
                 refine WO.nil ?_
                 refine W.ret ?_
                 refine fin.ret (Res.one rfl (RV.tmp rfl)) ?_
                 refine congrArg (Value.int .i64) ?_
                 first | (unfold chkT; first | rw [if_pos (by omega)] | (rw [if_neg (by omega), if_pos (by omega)]); done) | exact chkT_bad (i := i) (by omega) (by omega) (by omega) (by unfold goodR; omega) | exact chkT_good (by omega) (by omega) (by omega) hg)
            · first
              | (exfalso; omega)
              | (refine WO.go' rfl (WO.field0 rfl rfl rfl (WO.go' rfl (WO.load rfl rfl (Cell.own Pick.head rfl) rfl (WO.pg rfl rfl rfl (WO.p rfl rfl ?_)))))
                 refine WO.nil ?_
                 refine W.cond_bl rfl (fun c4 => ?_) (fun c4 => ?_)
                 · first
                   | (exfalso; omega)
                   | (refine W.sreg ?_
                      refine WO.p rfl rfl ?_
                      refine WO.nil ?_
                      refine W.ret ?_
                      refine fin.ret (Res.one rfl (RV.tmp rfl)) ?_
                      refine congrArg (Value.int .i64) ?_
                      first | (unfold chkT; first | rw [if_pos (by omega)] | (rw [if_neg (by omega), if_pos (by omega)]); done) | exact chkT_bad (i := i) (by omega) (by omega) (by omega) (by unfold goodR; omega) | exact chkT_good (by omega) (by omega) (by omega) hg)
                 · first
                   | (exfalso; omega)
                   | (refine W.skip ?_
                      refine W.seq ?_
                      refine W.sreg ?_
                      refine WO.p rfl rfl ?_
                      refine WO.nil ?_
                      refine W.block ?_
                      refine W.loop (fun (i : Nat) => i ≤ rs.length ∧ goodTo rs i)
                        (fun (i : Nat) => [(3, .int .i64 (i : Int)), (1, .pointer (some ⟨b1, 0, none⟩))])
                        (fun (i : Nat) => [pt b1 (.cells #[.int .i64 m, o] 27 (0, 0))])
                        (fun (i : Nat) => rs.length - i) 0
                        (by exact ⟨by omega, fun j hj => by omega⟩) ⟨rfl, rfl, trivial⟩ (by repeat (first | exact Sub.nil | refine Sub.cons (by repeat (first | exact Pick.head | apply Pick.tail)) ?_)) ?_
                      rintro i ⟨hi, hg⟩
                      refine W.seq ?_
                      refine W.sreg ?_
                      refine WO.p rfl rfl (WO.fieldL rfl rfl rfl (WO.load rfl rfl (Cell.own Pick.head rfl) rfl ?_))
                      refine' WO.len (n := _) rfl rfl ?hs rfl ?_
                      case hs => (first | exact hR.sl)
                      refine WO.p rfl rfl ?_
                      refine WO.nil ?_
                      refine W.cond_bl rfl (fun c5 => ?_) (fun c5 => ?_)
                      · first
                        | (exfalso; omega)
                        | (refine W.skip ?_
                           refine W.seq ?_
                           refine W.block ?_
                           refine W.sreg ?_
                           refine WO.fieldL rfl rfl rfl (WO.load rfl rfl (Cell.own Pick.head rfl) rfl (WO.p rfl rfl ?_))
                           refine' WO.indexAddr (n := _) (i := _) rfl rfl rfl ?hs ?h1 rfl ?_
                           case hs => (first | exact hR.sl)
                           case h1 => (first | omega | (simp; omega))
                           refine' WO.loadA (vs := _) rfl rfl ?hc ?hl rfl ?_
                           case hc => (first | (refine hR.cells ?_ r0; omega))
                           case hl => rfl
                           refine WO.alloc rfl rfl rfl (fun b2 hb2 => ?_)
                           refine WO.storeA rfl rfl rfl rfl Pick.head rfl rfl ?_
                           refine WO.nil ?_
                           refine W.seq ?_
                           have hpi := prev_in hg
                           have hp1 : 0 < i → prevAt rs i = (rs.getD ((i : Int) - 1).toNat r0).1 := fun h => by rw [prevAt_pos h, show ((i : Int) - 1).toNat = i - 1 by omega]
                           have hp0 : ¬ 0 < i → prevAt rs i = -1 := prevAt_0
                           refine W.drawD 33 [.r 0 [], .b 1 [], .b 2 [], .r 3 [], .r 4 [], .r 5 [], .r 6 [], .r 7 [], .r 8 [], .b 9 [], .r 10 [], .b 11 [], .r 12 [], .r 13 [], .r 14 [], .r 15 [], .b 16 [], .r 17 [], .r 18 [], .r 19 [], .r 20 [], .r 21 [], .r 22 [], .b 23 [], .r 24 [], .r 25 [], .r 26 [], .r 27 [], .r 28 [], .b 29 [], .r 30 [], .r 31 [], .b 32 []] [] (A0 := []) (Sub.refl _) (by kernel_rfl) ?_ ?_
                           · exact (ALok.r (ALok.b (ALok.b (ALok.r (ALok.r (ALok.r (ALok.r (ALok.r (ALok.r (ALok.b (ALok.r (ALok.b (ALok.r (ALok.r (ALok.r (ALok.r (ALok.b (ALok.r (ALok.r (ALok.r (ALok.r (ALok.r (ALok.r (ALok.b (ALok.r (ALok.r (ALok.r (ALok.r (ALok.r (ALok.b (ALok.r (ALok.r (ALok.b ALok.nil)))))))))))))))))))))))))))))))))
                           refine' DT.r rfl rfl rfl ?hq ?_
                           case hq =>
                             refine WO.field0 rfl rfl rfl ?_
                             exact WO.nil ⟨rfl, rfl⟩
                           refine' DT.b rfl rfl rfl ?hq ?_
                           case hq =>
                             refine WO.load rfl rfl (Cell.own Pick.head rfl) rfl ?_
                             exact WO.nil ⟨rfl, rfl⟩
                           refine' DT.b rfl rfl rfl ?hq ?_
                           case hq =>
                             refine WO.callR (r := .bool (bl (0 ≤ (rs.getD i r0).1 ∧ (rs.getD i r0).1 ≤ 60))) rfl Tryz.call69 (fun L w hi => ref_between w _ _ _) rfl ?_
                             exact WO.nil ⟨rfl, rfl⟩
                           refine' DT.r rfl rfl rfl ?hq ?_
                           case hq =>
                             refine WO.p rfl rfl ?_
                             exact WO.nil ⟨rfl, rfl⟩
                           refine' DT.rNB rfl rfl rfl ?hq (fun c6 => ?_) (fun c6 => ?_)
                           case hq =>
                             refine WO.p rfl rfl ?_
                             exact WO.nil ⟨rfl, rfl⟩
                           · first
                             | (exfalso; omega)
                             | (refine' DT.r rfl rfl rfl ?hq ?_
                                case hq =>
                                  refine WO.no rfl rfl ?_
                                  exact WO.nil ⟨rfl, rfl⟩
                                refine' DT.r rfl rfl rfl ?hq ?_
                                case hq =>
                                  refine WO.no rfl rfl ?_
                                  exact WO.nil ⟨rfl, rfl⟩
                                refine' DT.r rfl rfl rfl ?hq ?_
                                case hq =>
                                  refine WO.no rfl rfl ?_
                                  exact WO.nil ⟨rfl, rfl⟩
                                refine' DT.r rfl rfl rfl ?hq ?_
                                case hq =>
                                  refine WO.no rfl rfl ?_
                                  exact WO.nil ⟨rfl, rfl⟩
                                refine' DT.b rfl rfl rfl ?hq ?_
                                case hq =>
                                  refine WO.no rfl rfl ?_
                                  exact WO.nil ⟨rfl, rfl⟩
                                refine' DT.r rfl rfl rfl ?hq ?_
                                case hq =>
                                  refine WO.no rfl rfl ?_
                                  exact WO.nil ⟨rfl, rfl⟩
                                refine' DT.b rfl rfl rfl ?hq ?_
                                case hq =>
                                  refine WO.no rfl rfl ?_
                                  exact WO.nil ⟨rfl, rfl⟩
                                refine' DT.r rfl rfl rfl ?hq ?_
                                case hq =>
                                  refine WO.no rfl rfl ?_
                                  exact WO.nil ⟨rfl, rfl⟩
                                refine' DT.r rfl rfl rfl ?hq ?_
                                case hq =>
                                  refine WO.no rfl rfl ?_
                                  exact WO.nil ⟨rfl, rfl⟩
                                refine' DT.r rfl rfl rfl ?hq ?_
                                case hq =>
                                  refine WO.no rfl rfl ?_
                                  exact WO.nil ⟨rfl, rfl⟩
                                refine' DT.r rfl rfl rfl ?hq ?_
                                case hq =>
                                  refine WO.no rfl rfl ?_
                                  exact WO.nil ⟨rfl, rfl⟩
                                refine' DT.b rfl rfl rfl ?hq ?_
                                case hq =>
                                  refine WO.no rfl rfl ?_
                                  exact WO.nil ⟨rfl, rfl⟩
                                refine' DT.r rfl rfl rfl ?hq ?_
                                case hq =>
                                  refine WO.no rfl rfl ?_
                                  exact WO.nil ⟨rfl, rfl⟩
                                refine' DT.r rfl rfl rfl ?hq ?_
                                case hq =>
                                  refine WO.no rfl rfl ?_
                                  exact WO.nil ⟨rfl, rfl⟩
                                refine' DT.r rfl rfl rfl ?hq ?_
                                case hq =>
                                  refine WO.p rfl rfl ?_
                                  exact WO.nil ⟨rfl, rfl⟩
                                refine' DT.r rfl rfl rfl ?hq ?_
                                case hq =>
                                  refine WO.p rfl rfl ?_
                                  exact WO.nil ⟨rfl, rfl⟩
                                refine' DT.r rfl rfl rfl ?hq ?_
                                case hq =>
                                  refine WO.no rfl rfl ?_
                                  exact WO.nil ⟨rfl, rfl⟩
                                refine' DT.r rfl rfl rfl ?hq ?_
                                case hq =>
                                  refine WO.no rfl rfl ?_
                                  exact WO.nil ⟨rfl, rfl⟩
                                refine' DT.b rfl rfl rfl ?hq ?_
                                case hq =>
                                  refine WO.no rfl rfl ?_
                                  exact WO.nil ⟨rfl, rfl⟩
                                refine' DT.r rfl rfl rfl ?hq ?_
                                case hq =>
                                  refine WO.no rfl rfl ?_
                                  exact WO.nil ⟨rfl, rfl⟩
                                refine' DT.r rfl rfl rfl ?hq ?_
                                case hq =>
                                  refine WO.p rfl rfl ?_
                                  exact WO.nil ⟨rfl, rfl⟩
                                refine' DT.r rfl rfl rfl ?hq ?_
                                case hq =>
                                  refine WO.p rfl rfl ?_
                                  exact WO.nil ⟨rfl, rfl⟩
                                refine' DT.r rfl rfl rfl ?hq ?_
                                case hq =>
                                  refine WO.no rfl rfl ?_
                                  exact WO.nil ⟨rfl, rfl⟩
                                refine' DT.r rfl rfl rfl ?hq ?_
                                case hq =>
                                  refine WO.no rfl rfl ?_
                                  exact WO.nil ⟨rfl, rfl⟩
                                refine' DT.b rfl rfl rfl ?hq ?_
                                case hq =>
                                  refine WO.no rfl rfl ?_
                                  exact WO.nil ⟨rfl, rfl⟩
                                refine' DT.r rfl rfl rfl ?hq ?_
                                case hq =>
                                  refine WO.no rfl rfl ?_
                                  exact WO.nil ⟨rfl, rfl⟩
                                refine' DT.r rfl rfl rfl ?hq ?_
                                case hq =>
                                  refine WO.no rfl rfl ?_
                                  exact WO.nil ⟨rfl, rfl⟩
                                refine' DT.b rfl rfl rfl ?hq ?_
                                case hq =>
                                  refine WO.no rfl rfl ?_
                                  exact WO.nil ⟨rfl, rfl⟩
                                refine DT.nil [_, _] rfl ?_
                                refine WO.no rfl rfl (WO.p rfl rfl (WO.p rfl rfl (WO.no rfl rfl (WO.no rfl rfl (WO.no rfl rfl (WO.no rfl rfl (WO.p rfl rfl ?_)))))))
                                refine WO.nil ?_
                                refine W.cond_t rfl ?_
                                refine W.sreg ?_
                                refine WO.p rfl rfl ?_
                                refine WO.nil ?_
                                refine W.ret ?_
                                refine fin.ret (Res.one rfl (RV.tmp rfl)) ?_
                                refine congrArg (Value.int .i64) ?_
                                first | (unfold chkT; first | rw [if_pos (by omega)] | (rw [if_neg (by omega), if_pos (by omega)]); done) | exact chkT_bad (i := i) (by omega) (by omega) (by omega) (by unfold goodR; omega) | exact chkT_good (by omega) (by omega) (by omega) hg)
                           · first
                             | (exfalso; omega)
                             | (refine' DT.r rfl rfl rfl ?hq ?_
                                case hq =>
                                  refine WO.pg rfl rfl rfl ?_
                                  exact WO.nil ⟨rfl, rfl⟩
                                refine' DT.r rfl rfl rfl ?hq ?_
                                case hq =>
                                  refine WO.pg rfl rfl rfl ?_
                                  exact WO.nil ⟨rfl, rfl⟩
                                refine' DT.rB rfl rfl rfl ?hq (fun c7 => ?_) (fun c7 => ?_)
                                case hq =>
                                  refine WO.pg rfl rfl rfl ?_
                                  exact WO.nil ⟨rfl, rfl⟩
                                · first
                                  | (exfalso; omega)
                                  | (refine' DT.r rfl rfl rfl ?hq ?_
                                     case hq =>
                                       refine WO.go' rfl (WO.field0 rfl rfl rfl ?_)
                                       exact WO.nil ⟨rfl, rfl⟩
                                     refine' DT.b rfl rfl rfl ?hq ?_
                                     case hq =>
                                       refine WO.go' rfl (WO.load rfl rfl (Cell.own Pick.head rfl) rfl ?_)
                                       exact WO.nil ⟨rfl, rfl⟩
                                     refine' DT.r rfl rfl rfl ?hq ?_
                                     case hq =>
                                       refine WO.go' rfl (WO.fieldL rfl rfl rfl ?_)
                                       exact WO.nil ⟨rfl, rfl⟩
                                     refine' DT.b rfl rfl rfl ?hq ?_
                                     case hq =>
                                       refine WO.go' rfl (WO.load rfl rfl (Cell.own (Pick.tail (Pick.head)) rfl) rfl ?_)
                                       exact WO.nil ⟨rfl, rfl⟩
                                     refine' DT.r rfl rfl rfl ?hq ?_
                                     case hq =>
                                       refine WO.pg rfl rfl rfl ?_
                                       exact WO.nil ⟨rfl, rfl⟩
                                     refine' DT.r rfl rfl rfl ?hq ?_
                                     case hq =>
                                       refine WO.go' rfl (WO.ar rfl rfl rfl (by (first | (unfold in64; omega) | (unfold in64; omega))) rfl ?_)
                                       exact WO.nil ⟨rfl, rfl⟩
                                     refine' DT.r rfl rfl rfl ?hq ?_
                                     case hq =>
                                       refine WO.go' rfl ?_
                                       refine' WO.indexAddrZ (n := _) rfl rfl rfl ?hs ?h00 ?h1 rfl ?_
                                       case hs => (first | exact hR.sl)
                                       case h00 => omega
                                       case h1 => (first | omega | (simp; omega))
                                       exact WO.nil ⟨rfl, rfl⟩
                                     refine' DT.r rfl rfl rfl ?hq ?_
                                     case hq =>
                                       refine WO.go' rfl (WO.field0 rfl rfl rfl ?_)
                                       exact WO.nil ⟨rfl, rfl⟩
                                     refine' DT.b rfl rfl rfl ?hq ?_
                                     case hq =>
                                       refine WO.go' rfl ?_
                                       refine' WO.load (v := _) rfl rfl ?hc rfl ?_
                                       case hc => (first | (refine hR.cell0 ?_ r0 ?_ <;> first | rfl | omega))
                                       exact WO.nil ⟨rfl, rfl⟩
                                     refine' DT.r rfl rfl rfl ?hq ?_
                                     case hq =>
                                       refine WO.pg rfl rfl rfl ?_
                                       exact WO.nil ⟨rfl, rfl⟩
                                     refine' DT.r rfl rfl rfl ?hq ?_
                                     case hq =>
                                       refine WO.pg rfl rfl rfl ?_
                                       exact WO.nil ⟨rfl, rfl⟩
                                     refine' DT.r rfl rfl rfl ?hq ?_
                                     case hq =>
                                       refine WO.p rfl rfl ?_
                                       exact WO.nil ⟨rfl, rfl⟩
                                     refine' DT.rB rfl rfl rfl ?hq (fun c8 => ?_) (fun c8 => ?_)
                                     case hq =>
                                       refine WO.p rfl rfl ?_
                                       exact WO.nil ⟨rfl, rfl⟩
                                     · first
                                       | (exfalso; omega)
                                       | (refine' DT.r rfl rfl rfl ?hq ?_
                                          case hq =>
                                            refine WO.no rfl rfl ?_
                                            exact WO.nil ⟨rfl, rfl⟩
                                          refine' DT.r rfl rfl rfl ?hq ?_
                                          case hq =>
                                            refine WO.no rfl rfl ?_
                                            exact WO.nil ⟨rfl, rfl⟩
                                          refine' DT.b rfl rfl rfl ?hq ?_
                                          case hq =>
                                            refine WO.no rfl rfl ?_
                                            exact WO.nil ⟨rfl, rfl⟩
                                          refine' DT.r rfl rfl rfl ?hq ?_
                                          case hq =>
                                            refine WO.no rfl rfl ?_
                                            exact WO.nil ⟨rfl, rfl⟩
                                          refine' DT.r rfl rfl rfl ?hq ?_
                                          case hq =>
                                            refine WO.p rfl rfl ?_
                                            exact WO.nil ⟨rfl, rfl⟩
                                          refine' DT.r rfl rfl rfl ?hq ?_
                                          case hq =>
                                            refine WO.p rfl rfl ?_
                                            exact WO.nil ⟨rfl, rfl⟩
                                          refine' DT.r rfl rfl rfl ?hq ?_
                                          case hq =>
                                            refine WO.no rfl rfl ?_
                                            exact WO.nil ⟨rfl, rfl⟩
                                          refine' DT.r rfl rfl rfl ?hq ?_
                                          case hq =>
                                            refine WO.no rfl rfl ?_
                                            exact WO.nil ⟨rfl, rfl⟩
                                          refine' DT.b rfl rfl rfl ?hq ?_
                                          case hq =>
                                            refine WO.no rfl rfl ?_
                                            exact WO.nil ⟨rfl, rfl⟩
                                          refine' DT.r rfl rfl rfl ?hq ?_
                                          case hq =>
                                            refine WO.no rfl rfl ?_
                                            exact WO.nil ⟨rfl, rfl⟩
                                          refine' DT.r rfl rfl rfl ?hq ?_
                                          case hq =>
                                            refine WO.no rfl rfl ?_
                                            exact WO.nil ⟨rfl, rfl⟩
                                          refine' DT.b rfl rfl rfl ?hq ?_
                                          case hq =>
                                            refine WO.no rfl rfl ?_
                                            exact WO.nil ⟨rfl, rfl⟩
                                          refine DT.nil [_, _] rfl ?_
                                          refine WO.no rfl rfl (WO.p rfl rfl (WO.p rfl rfl (WO.no rfl rfl (WO.no rfl rfl (WO.no rfl rfl (WO.no rfl rfl (WO.p rfl rfl ?_)))))))
                                          refine WO.nil ?_
                                          refine W.cond_t rfl ?_
                                          refine W.sreg ?_
                                          refine WO.p rfl rfl ?_
                                          refine WO.nil ?_
                                          refine W.ret ?_
                                          refine fin.ret (Res.one rfl (RV.tmp rfl)) ?_
                                          refine congrArg (Value.int .i64) ?_
                                          first | (unfold chkT; first | rw [if_pos (by omega)] | (rw [if_neg (by omega), if_pos (by omega)]); done) | exact chkT_bad (i := i) (by omega) (by omega) (by omega) (by unfold goodR; omega) | exact chkT_good (by omega) (by omega) (by omega) hg)
                                     · first
                                       | (exfalso; omega)
                                       | (refine' DT.r rfl rfl rfl ?hq ?_
                                          case hq =>
                                            refine WO.go' rfl (WO.fieldL rfl rfl rfl ?_)
                                            exact WO.nil ⟨rfl, rfl⟩
                                          refine' DT.r rfl rfl rfl ?hq ?_
                                          case hq =>
                                            refine WO.go' rfl (WO.field0 rfl rfl rfl ?_)
                                            exact WO.nil ⟨rfl, rfl⟩
                                          refine' DT.b rfl rfl rfl ?hq ?_
                                          case hq =>
                                            refine WO.go' rfl (WO.load rfl rfl (Cell.own Pick.head rfl) rfl ?_)
                                            exact WO.nil ⟨rfl, rfl⟩
                                          refine' DT.r rfl rfl rfl ?hq ?_
                                          case hq =>
                                            refine WO.pg rfl rfl rfl ?_
                                            exact WO.nil ⟨rfl, rfl⟩
                                          refine' DT.r rfl rfl rfl ?hq ?_
                                          case hq =>
                                            refine WO.p rfl rfl ?_
                                            exact WO.nil ⟨rfl, rfl⟩
                                          refine' DT.rB rfl rfl rfl ?hq (fun c9 => ?_) (fun c9 => ?_)
                                          case hq =>
                                            refine WO.p rfl rfl ?_
                                            exact WO.nil ⟨rfl, rfl⟩
                                          · first
                                            | (exfalso; omega)
                                            | (refine' DT.r rfl rfl rfl ?hq ?_
                                               case hq =>
                                                 refine WO.no rfl rfl ?_
                                                 exact WO.nil ⟨rfl, rfl⟩
                                               refine' DT.r rfl rfl rfl ?hq ?_
                                               case hq =>
                                                 refine WO.no rfl rfl ?_
                                                 exact WO.nil ⟨rfl, rfl⟩
                                               refine' DT.b rfl rfl rfl ?hq ?_
                                               case hq =>
                                                 refine WO.no rfl rfl ?_
                                                 exact WO.nil ⟨rfl, rfl⟩
                                               refine' DT.r rfl rfl rfl ?hq ?_
                                               case hq =>
                                                 refine WO.no rfl rfl ?_
                                                 exact WO.nil ⟨rfl, rfl⟩
                                               refine' DT.r rfl rfl rfl ?hq ?_
                                               case hq =>
                                                 refine WO.no rfl rfl ?_
                                                 exact WO.nil ⟨rfl, rfl⟩
                                               refine' DT.b rfl rfl rfl ?hq ?_
                                               case hq =>
                                                 refine WO.no rfl rfl ?_
                                                 exact WO.nil ⟨rfl, rfl⟩
                                               refine DT.nil [_, _] rfl ?_
                                               refine WO.no rfl rfl (WO.p rfl rfl (WO.p rfl rfl (WO.no rfl rfl (WO.no rfl rfl (WO.no rfl rfl (WO.no rfl rfl (WO.p rfl rfl ?_)))))))
                                               refine WO.nil ?_
                                               refine W.cond_t rfl ?_
                                               refine W.sreg ?_
                                               refine WO.p rfl rfl ?_
                                               refine WO.nil ?_
                                               refine W.ret ?_
                                               refine fin.ret (Res.one rfl (RV.tmp rfl)) ?_
                                               refine congrArg (Value.int .i64) ?_
                                               first | (unfold chkT; first | rw [if_pos (by omega)] | (rw [if_neg (by omega), if_pos (by omega)]); done) | exact chkT_bad (i := i) (by omega) (by omega) (by omega) (by unfold goodR; omega) | exact chkT_good (by omega) (by omega) (by omega) hg)
                                          · first
                                            | (exfalso; omega)
                                            | (refine' DT.r rfl rfl rfl ?hq ?_
                                               case hq =>
                                                 refine WO.go' rfl (WO.fieldL rfl rfl rfl ?_)
                                                 exact WO.nil ⟨rfl, rfl⟩
                                               refine' DT.r rfl rfl rfl ?hq ?_
                                               case hq =>
                                                 refine WO.go' rfl (WO.field0 rfl rfl rfl ?_)
                                                 exact WO.nil ⟨rfl, rfl⟩
                                               refine' DT.b rfl rfl rfl ?hq ?_
                                               case hq =>
                                                 refine WO.go' rfl (WO.load rfl rfl (Cell.own Pick.head rfl) rfl ?_)
                                                 exact WO.nil ⟨rfl, rfl⟩
                                               refine' DT.r rfl rfl rfl ?hq ?_
                                               case hq =>
                                                 refine WO.go' rfl (WO.fieldL rfl rfl rfl ?_)
                                                 exact WO.nil ⟨rfl, rfl⟩
                                               refine' DT.r rfl rfl rfl ?hq ?_
                                               case hq =>
                                                 refine WO.go' rfl (WO.fieldL rfl rfl rfl ?_)
                                                 exact WO.nil ⟨rfl, rfl⟩
                                               refine' DT.b rfl rfl rfl ?hq ?_
                                               case hq =>
                                                 refine WO.go' rfl (WO.load rfl rfl (Cell.own Pick.head rfl) rfl ?_)
                                                 exact WO.nil ⟨rfl, rfl⟩
                                               refine DT.nil [_, _] rfl ?_
                                               refine WO.pg rfl rfl rfl (WO.p rfl rfl (WO.p rfl rfl ?_))
                                               refine WO.guard_bl rfl rfl (fun c10 => ?_) (fun c10 => ?_)
                                               · first
                                                 | (exfalso; omega)
                                                 | (refine WO.no rfl rfl (WO.no rfl rfl (WO.no rfl rfl (WO.no rfl rfl (WO.p rfl rfl ?_))))
                                                    refine WO.nil ?_
                                                    refine W.cond_t rfl ?_
                                                    refine W.sreg ?_
                                                    refine WO.p rfl rfl ?_
                                                    refine WO.nil ?_
                                                    refine W.ret ?_
                                                    refine fin.ret (Res.one rfl (RV.tmp rfl)) ?_
                                                    refine congrArg (Value.int .i64) ?_
                                                    first | (unfold chkT; first | rw [if_pos (by omega)] | (rw [if_neg (by omega), if_pos (by omega)]); done) | exact chkT_bad (i := i) (by omega) (by omega) (by omega) (by unfold goodR; omega) | exact chkT_good (by omega) (by omega) (by omega) hg)
                                               · first
                                                 | (exfalso; omega)
                                                 | (refine WO.go' rfl (WO.fieldL rfl rfl rfl (WO.go' rfl (WO.fieldL rfl rfl rfl (WO.go' rfl (WO.load rfl rfl (Cell.own Pick.head rfl) rfl (WO.pg rfl rfl rfl (WO.p rfl rfl ?_)))))))
                                                    refine WO.nil ?_
                                                    refine W.cond_bl rfl (fun c11 => ?_) (fun c11 => ?_)
                                                    · first
                                                      | (exfalso; omega)
                                                      | (refine W.sreg ?_
                                                         refine WO.p rfl rfl ?_
                                                         refine WO.nil ?_
                                                         refine W.ret ?_
                                                         refine fin.ret (Res.one rfl (RV.tmp rfl)) ?_
                                                         refine congrArg (Value.int .i64) ?_
                                                         first | (unfold chkT; first | rw [if_pos (by omega)] | (rw [if_neg (by omega), if_pos (by omega)]); done) | exact chkT_bad (i := i) (by omega) (by omega) (by omega) (by unfold goodR; omega) | exact chkT_good (by omega) (by omega) (by omega) hg)
                                                    · first
                                                      | (exfalso; omega)
                                                      | (refine W.skip ?_
                                                         refine W.region ?_
                                                         refine WO.p rfl rfl (WO.ar rfl rfl rfl (by (first | (unfold in64; omega) | (unfold in64; omega))) rfl (WO.p rfl rfl ?_))
                                                         refine WO.nil ?_
                                                         refine' ⟨i + 1, ?hp, ?hmu, ⟨rfl, rfl, trivial⟩, ?hS⟩
                                                         case hS => repeat (first | exact Sub.nil | refine Sub.cons (by repeat (first | exact Pick.head | apply Pick.tail)) ?_)
                                                         case hp => exact ⟨by omega, goodTo_succ hg (by unfold goodR; omega)⟩
                                                         case hmu => omega)))))
                                · first
                                  | (exfalso; omega)
                                  | (refine' DT.r rfl rfl rfl ?hq ?_
                                     case hq =>
                                       refine WO.no rfl rfl ?_
                                       exact WO.nil ⟨rfl, rfl⟩
                                     refine' DT.b rfl rfl rfl ?hq ?_
                                     case hq =>
                                       refine WO.no rfl rfl ?_
                                       exact WO.nil ⟨rfl, rfl⟩
                                     refine' DT.r rfl rfl rfl ?hq ?_
                                     case hq =>
                                       refine WO.no rfl rfl ?_
                                       exact WO.nil ⟨rfl, rfl⟩
                                     refine' DT.b rfl rfl rfl ?hq ?_
                                     case hq =>
                                       refine WO.no rfl rfl ?_
                                       exact WO.nil ⟨rfl, rfl⟩
                                     refine' DT.r rfl rfl rfl ?hq ?_
                                     case hq =>
                                       refine WO.no rfl rfl ?_
                                       exact WO.nil ⟨rfl, rfl⟩
                                     refine' DT.r rfl rfl rfl ?hq ?_
                                     case hq =>
                                       refine WO.no rfl rfl ?_
                                       exact WO.nil ⟨rfl, rfl⟩
                                     refine' DT.r rfl rfl rfl ?hq ?_
                                     case hq =>
                                       refine WO.no rfl rfl ?_
                                       exact WO.nil ⟨rfl, rfl⟩
                                     refine' DT.r rfl rfl rfl ?hq ?_
                                     case hq =>
                                       refine WO.no rfl rfl ?_
                                       exact WO.nil ⟨rfl, rfl⟩
                                     refine' DT.b rfl rfl rfl ?hq ?_
                                     case hq =>
                                       refine WO.no rfl rfl ?_
                                       exact WO.nil ⟨rfl, rfl⟩
                                     refine' DT.r rfl rfl rfl ?hq ?_
                                     case hq =>
                                       refine WO.no rfl rfl ?_
                                       exact WO.nil ⟨rfl, rfl⟩
                                     refine' DT.r rfl rfl rfl ?hq ?_
                                     case hq =>
                                       refine WO.pg rfl rfl rfl ?_
                                       exact WO.nil ⟨rfl, rfl⟩
                                     refine' DT.r rfl rfl rfl ?hq ?_
                                     case hq =>
                                       refine WO.p rfl rfl ?_
                                       exact WO.nil ⟨rfl, rfl⟩
                                     refine' DT.r rfl rfl rfl ?hq ?_
                                     case hq =>
                                       refine WO.p rfl rfl ?_
                                       exact WO.nil ⟨rfl, rfl⟩
                                     refine' DT.r rfl rfl rfl ?hq ?_
                                     case hq =>
                                       refine WO.go' rfl (WO.fieldL rfl rfl rfl ?_)
                                       exact WO.nil ⟨rfl, rfl⟩
                                     refine' DT.r rfl rfl rfl ?hq ?_
                                     case hq =>
                                       refine WO.go' rfl (WO.field0 rfl rfl rfl ?_)
                                       exact WO.nil ⟨rfl, rfl⟩
                                     refine' DT.b rfl rfl rfl ?hq ?_
                                     case hq =>
                                       refine WO.go' rfl (WO.load rfl rfl (Cell.own Pick.head rfl) rfl ?_)
                                       exact WO.nil ⟨rfl, rfl⟩
                                     refine' DT.r rfl rfl rfl ?hq ?_
                                     case hq =>
                                       refine WO.pg rfl rfl rfl ?_
                                       exact WO.nil ⟨rfl, rfl⟩
                                     refine' DT.r rfl rfl rfl ?hq ?_
                                     case hq =>
                                       refine WO.p rfl rfl ?_
                                       exact WO.nil ⟨rfl, rfl⟩
                                     refine' DT.rB rfl rfl rfl ?hq (fun c12 => ?_) (fun c12 => ?_)
                                     case hq =>
                                       refine WO.p rfl rfl ?_
                                       exact WO.nil ⟨rfl, rfl⟩
                                     · first
                                       | (exfalso; omega)
                                       | (refine' DT.r rfl rfl rfl ?hq ?_
                                          case hq =>
                                            refine WO.no rfl rfl ?_
                                            exact WO.nil ⟨rfl, rfl⟩
                                          refine' DT.r rfl rfl rfl ?hq ?_
                                          case hq =>
                                            refine WO.no rfl rfl ?_
                                            exact WO.nil ⟨rfl, rfl⟩
                                          refine' DT.b rfl rfl rfl ?hq ?_
                                          case hq =>
                                            refine WO.no rfl rfl ?_
                                            exact WO.nil ⟨rfl, rfl⟩
                                          refine' DT.r rfl rfl rfl ?hq ?_
                                          case hq =>
                                            refine WO.no rfl rfl ?_
                                            exact WO.nil ⟨rfl, rfl⟩
                                          refine' DT.r rfl rfl rfl ?hq ?_
                                          case hq =>
                                            refine WO.no rfl rfl ?_
                                            exact WO.nil ⟨rfl, rfl⟩
                                          refine' DT.b rfl rfl rfl ?hq ?_
                                          case hq =>
                                            refine WO.no rfl rfl ?_
                                            exact WO.nil ⟨rfl, rfl⟩
                                          refine DT.nil [_, _] rfl ?_
                                          refine WO.no rfl rfl (WO.p rfl rfl (WO.p rfl rfl (WO.no rfl rfl (WO.no rfl rfl (WO.no rfl rfl (WO.no rfl rfl (WO.p rfl rfl ?_)))))))
                                          refine WO.nil ?_
                                          refine W.cond_t rfl ?_
                                          refine W.sreg ?_
                                          refine WO.p rfl rfl ?_
                                          refine WO.nil ?_
                                          refine W.ret ?_
                                          refine fin.ret (Res.one rfl (RV.tmp rfl)) ?_
                                          refine congrArg (Value.int .i64) ?_
                                          first | (unfold chkT; first | rw [if_pos (by omega)] | (rw [if_neg (by omega), if_pos (by omega)]); done) | exact chkT_bad (i := i) (by omega) (by omega) (by omega) (by unfold goodR; omega) | exact chkT_good (by omega) (by omega) (by omega) hg)
                                     · first
                                       | (exfalso; omega)
                                       | (refine' DT.r rfl rfl rfl ?hq ?_
                                          case hq =>
                                            refine WO.go' rfl (WO.fieldL rfl rfl rfl ?_)
                                            exact WO.nil ⟨rfl, rfl⟩
                                          refine' DT.r rfl rfl rfl ?hq ?_
                                          case hq =>
                                            refine WO.go' rfl (WO.field0 rfl rfl rfl ?_)
                                            exact WO.nil ⟨rfl, rfl⟩
                                          refine' DT.b rfl rfl rfl ?hq ?_
                                          case hq =>
                                            refine WO.go' rfl (WO.load rfl rfl (Cell.own Pick.head rfl) rfl ?_)
                                            exact WO.nil ⟨rfl, rfl⟩
                                          refine' DT.r rfl rfl rfl ?hq ?_
                                          case hq =>
                                            refine WO.go' rfl (WO.fieldL rfl rfl rfl ?_)
                                            exact WO.nil ⟨rfl, rfl⟩
                                          refine' DT.r rfl rfl rfl ?hq ?_
                                          case hq =>
                                            refine WO.go' rfl (WO.fieldL rfl rfl rfl ?_)
                                            exact WO.nil ⟨rfl, rfl⟩
                                          refine' DT.b rfl rfl rfl ?hq ?_
                                          case hq =>
                                            refine WO.go' rfl (WO.load rfl rfl (Cell.own Pick.head rfl) rfl ?_)
                                            exact WO.nil ⟨rfl, rfl⟩
                                          refine DT.nil [_, _] rfl ?_
                                          refine WO.pg rfl rfl rfl (WO.p rfl rfl (WO.p rfl rfl ?_))
                                          refine WO.guard_bl rfl rfl (fun c13 => ?_) (fun c13 => ?_)
                                          · first
                                            | (exfalso; omega)
                                            | (refine WO.no rfl rfl (WO.no rfl rfl (WO.no rfl rfl (WO.no rfl rfl (WO.p rfl rfl ?_))))
                                               refine WO.nil ?_
                                               refine W.cond_t rfl ?_
                                               refine W.sreg ?_
                                               refine WO.p rfl rfl ?_
                                               refine WO.nil ?_
                                               refine W.ret ?_
                                               refine fin.ret (Res.one rfl (RV.tmp rfl)) ?_
                                               refine congrArg (Value.int .i64) ?_
                                               first | (unfold chkT; first | rw [if_pos (by omega)] | (rw [if_neg (by omega), if_pos (by omega)]); done) | exact chkT_bad (i := i) (by omega) (by omega) (by omega) (by unfold goodR; omega) | exact chkT_good (by omega) (by omega) (by omega) hg)
                                          · first
                                            | (exfalso; omega)
                                            | (refine WO.go' rfl (WO.fieldL rfl rfl rfl (WO.go' rfl (WO.fieldL rfl rfl rfl (WO.go' rfl (WO.load rfl rfl (Cell.own Pick.head rfl) rfl (WO.pg rfl rfl rfl (WO.p rfl rfl ?_)))))))
                                               refine WO.nil ?_
                                               refine W.cond_bl rfl (fun c14 => ?_) (fun c14 => ?_)
                                               · first
                                                 | (exfalso; omega)
                                                 | (refine W.sreg ?_
                                                    refine WO.p rfl rfl ?_
                                                    refine WO.nil ?_
                                                    refine W.ret ?_
                                                    refine fin.ret (Res.one rfl (RV.tmp rfl)) ?_
                                                    refine congrArg (Value.int .i64) ?_
                                                    first | (unfold chkT; first | rw [if_pos (by omega)] | (rw [if_neg (by omega), if_pos (by omega)]); done) | exact chkT_bad (i := i) (by omega) (by omega) (by omega) (by unfold goodR; omega) | exact chkT_good (by omega) (by omega) (by omega) hg)
                                               · first
                                                 | (exfalso; omega)
                                                 | (refine W.skip ?_
                                                    refine W.region ?_
                                                    refine WO.p rfl rfl (WO.ar rfl rfl rfl (by (first | (unfold in64; omega) | (unfold in64; omega))) rfl (WO.p rfl rfl ?_))
                                                    refine WO.nil ?_
                                                    refine' ⟨i + 1, ?hp, ?hmu, ⟨rfl, rfl, trivial⟩, ?hS⟩
                                                    case hS => repeat (first | exact Sub.nil | refine Sub.cons (by repeat (first | exact Pick.head | apply Pick.tail)) ?_)
                                                    case hp => exact ⟨by omega, goodTo_succ hg (by unfold goodR; omega)⟩
                                                    case hmu => omega))))))
                      · first
                        | (exfalso; omega)
                        | (refine W.exit (blk_same ?_)
                           refine W.sreg ?_
                           refine WO.p rfl rfl ?_
                           refine WO.nil ?_
                           refine W.ret ?_
                           refine fin.ret (Res.one rfl (RV.tmp rfl)) ?_
                           refine congrArg (Value.int .i64) ?_
                           first | (unfold chkT; first | rw [if_pos (by omega)] | (rw [if_neg (by omega), if_pos (by omega)]); done) | exact chkT_bad (i := i) (by omega) (by omega) (by omega) (by unfold goodR; omega) | exact chkT_good (by omega) (by omega) (by omega) hg)))))
end Go.Proofs.YtnehaifgcegemaaGreat.Tr
namespace Go.Proofs.YtnehaifgcegemaaGreat.Tr
open Go Go.TH
attribute [local irreducible] W WO pt
set_option maxRecDepth 10000
set_option maxHeartbeats 1000000
/-- a valid trial -/
structure VT (m : Int) (rs : List (Int × Int × Int)) : Prop where
  n : 2 ≤ rs.length ∧ rs.length ≤ 5
  m : 0 ≤ m ∧ m ≤ 2
  ok : goodTo rs rs.length
theorem VT.of {m : Int} {rs : List (Int × Int × Int)} (h : chkT m rs = 0) : VT m rs := by
  unfold chkT at h
  split at h; · omega
  split at h; · omega
  split at h
  · exact ⟨by omega, by omega, by assumption⟩
  · omega
theorem VT.to {m : Int} {rs : List (Int × Int × Int)} (h : VT m rs) : chkT m rs = 0 := by
  have h1 := h.n; have h2 := h.m
  unfold chkT; rw [if_neg (by omega), if_neg (by omega), if_pos h.ok]
/-- the minute of a run -/
def tm (rs : List (Int × Int × Int)) (i : Nat) : Int := (rs.getD i r0).1
theorem VT.run {m : Int} {rs : List (Int × Int × Int)} (h : VT m rs) {i : Nat} (hi : i < rs.length) : 0 ≤ tm rs i ∧ tm rs i ≤ 60 ∧ 0 ≤ (rs.getD i r0).2.1 ∧ (rs.getD i r0).2.1 ≤ (rs.getD i r0).2.2 ∧ (rs.getD i r0).2.2 ≤ 20000 := by
  have h1 := h.ok i hi
  have h2 := prev_in (rs := rs) (i := i) (fun j hj => h.ok j (by omega))
  unfold goodR at h1
  unfold tm; omega
theorem VT.next {m : Int} {rs : List (Int × Int × Int)} (h : VT m rs) {i : Nat} (hi : i + 1 < rs.length) : tm rs i + 1 ≤ tm rs (i + 1) := by
  have h1 := h.ok (i + 1) hi
  unfold goodR at h1
  rw [prevAt_pos (by omega), Nat.add_sub_cancel] at h1
  exact h1.1
theorem VT.lt {m : Int} {rs : List (Int × Int × Int)} (h : VT m rs) {j k : Nat} (hjk : j < k) (hk : k < rs.length) : 1 ≤ tm rs k - tm rs j ∧ tm rs k - tm rs j ≤ 60 := by
  have key : ∀ d, j + 1 + d < rs.length → tm rs j + 1 ≤ tm rs (j + 1 + d) := by
    intro d
    induction d with
    | zero => exact fun hd => h.next hd
    | succ d ih => intro hd; have h1 := ih (by omega); have h2 := h.next (i := j + 1 + d) hd; rw [show j + 1 + (d + 1) = j + 1 + d + 1 by omega]; omega
  have h1 := key (k - j - 1) (by omega)
  rw [show j + 1 + (k - j - 1) = k by omega] at h1
  have h2 := h.run (i := j) (by omega)
  have h3 := h.run hk
  omega
/-- two runs, the second one later, in order -/
def pairsTo (k : Nat) : List (Nat × Nat) := (List.range k).flatMap fun k => (List.range k).map fun j => (j, k)
theorem pairsTo_succ (k : Nat) : pairsTo (k + 1) = pairsTo k ++ (List.range k).map fun j => (j, k) := by
  unfold pairsTo; rw [List.range_succ, List.flatMap_append]; simp
theorem pairsTo_len (k : Nat) : (pairsTo (k + 1)).length = (pairsTo k).length + k := by rw [pairsTo_succ]; simp
theorem pairsTo_get {j k : Nat} : ∀ {n : Nat}, k < n → j < k → (pairsTo n)[(pairsTo k).length + j]? = some (j, k)
  | 0, h, _ => by omega
  | n + 1, h, hj => by
    rw [pairsTo_succ]
    rcases Nat.lt_or_ge k n with h1 | h1
    · have := pairsTo_get (n := n) h1 hj
      rw [List.getElem?_append_left (List.getElem?_eq_some_iff.1 this).1]; exact this
    · obtain rfl : k = n := by omega
      rw [List.getElem?_append_right (by omega), Nat.add_sub_cancel_left, List.getElem?_map, List.getElem?_range hj]
      rfl
theorem pairsTo_mem {n : Nat} {q : Nat × Nat} (h : q ∈ pairsTo n) : q.1 < q.2 ∧ q.2 < n := by
  unfold pairsTo at h
  obtain ⟨k, hk, h⟩ := List.mem_flatMap.1 h
  obtain ⟨j, hj, rfl⟩ := List.mem_map.1 h
  simp at hk hj
  exact ⟨hj, hk⟩
def pairV (q : Nat × Nat) : Value × Value := (.int .i64 (q.1 : Int), .int .i64 (q.2 : Int))
theorem pairV_get {j k n : Nat} (hk : k < n) (hj : j < k) : ((pairsTo n).map pairV)[(pairsTo k).length + j]? = some (.int .i64 (j : Int), .int .i64 (k : Int)) := by
  rw [List.getElem?_map, pairsTo_get hk hj]; rfl
theorem c_pairs (w : World) (p : Addr) : Ct Tryz.prog 220 [.pointer (some p)].toArray w fun v w' => ∃ Hq, (∃ b1, v = .func (.func 318) #[] #[.pointer (some ⟨b1, 0, none⟩)] ∧
    Hq = [pt b1 (.cells #[.pointer (some p)] 99 (0, 0))]) ∧ Inv w [] Hq w' := by
  refine Ct.of mixed tyTab Tryz.func220 rfl rfl ?_
  refine W.sreg ?_
  refine WO.box1 rfl (by first | rfl | assumption) rfl (fun b1 hb1 => ?_)
  refine WO.p rfl rfl ?_
  refine WO.nil ?_
  refine W.sreg ?_
  refine WO.p rfl rfl (WO.p rfl rfl ?_)
  refine WO.nil ?_
  refine W.ret ?_
  exact fin.ret (Res.one rfl (RV.tmp rfl)) ⟨b1, rfl, rfl⟩
theorem c_pairs1 (B : Nat) (wr : World) (p : Addr) (m : Int) (o : Value) (rest : List Value) (rs : List (Int × Int × Int)) (hP : RdC B wr p (.int .i64 m :: o :: rest)) (hR : RdF encR 3 B wr o rs) (hn : rs.length ≤ 5)
    (l : Nat) (Hc : Nat → List HP) (hy : ∀ k x, ((pairsTo rs.length).map pairV)[k]? = some x → YieldOK Tryz.prog B wr l #[x.1, x.2] (Hc k) (Hc (k + 1))) (b1 : Nat) (w : World) (M' : List Nat) (hB : B ≤ w.heap.size) (hk : ∀ k, k < B → w.heap[k]? = wr.heap[k]?) (hM : ∀ b ∈ M', B ≤ b)
    (hi : Inv w M' ([pt b1 (.cells #[.pointer (some p)] 99 (0, 0))] ++ Hc 0) w) :
    Ct Tryz.prog 318 ([.func (.yield l) #[] #[], .pointer (some ⟨b1, 0, none⟩)] : List Value).toArray w fun _ w' => Inv w M' ([pt b1 (.cells #[.pointer (some p)] 99 (0, 0))] ++ Hc ((pairsTo rs.length).map pairV).length) w' := by
  refine Iter.of mixed tyTab hB hM Tryz.func318 rfl rfl hi ?_
  replace hR : RdF encR 3 (itCx mixed tyTab Tryz.f318.ntmps w M' B hB hM).B (itCx mixed tyTab Tryz.f318.ntmps w M' B hB hM).w0 o rs := hR.agree hk
  replace hP : RdC (itCx mixed tyTab Tryz.f318.ntmps w M' B hB hM).B (itCx mixed tyTab Tryz.f318.ntmps w M' B hB hM).w0 p (.int .i64 m :: o :: rest) := hP.agree hk
  have hle := hR.sl.le
  refine W.sreg ?_
  refine WO.load rfl rfl (Cell.own Pick.head rfl) rfl (WO.p rfl rfl (WO.field0 rfl rfl rfl (WO.field rfl rfl rfl ?_)))
  refine' WO.load (v := _) rfl rfl ?hc rfl ?_
  case hc => (first | (refine hP.cellAt ?_; rfl))
  refine' WO.len (n := _) rfl rfl ?hs rfl ?_
  case hs => (first | exact hR.sl)
  refine WO.p rfl rfl ?_
  refine WO.nil ?_
  refine W.block ?_
  refine W.loop (fun (k : Nat) => k ≤ rs.length)
    (fun (k : Nat) => [(11, .int .i64 (k : Int)), (10, .int .i64 (rs.length : Int)), (0, .func (.yield l) #[] #[]), (1, .pointer (some ⟨b1, 0, none⟩))])
    (fun (k : Nat) => [pt b1 (.cells #[.pointer (some p)] 99 (0, 0)), sat (Hc (pairsTo k).length)])
    (fun (k : Nat) => rs.length - k) 0
    (by exact Nat.zero_le _) ⟨rfl, rfl, rfl, rfl, trivial⟩ (by repeat (first | exact Sub.nil | refine Sub.cons (by repeat (first | exact Pick.head | apply Pick.tail)) ?_)) ?_
  rintro k hk'
  refine W.sreg ?_
  refine WO.p rfl rfl ?_
  refine WO.nil ?_
  refine W.seq ?_
  refine W.cond_bl rfl (fun c1 => ?_) (fun c1 => ?_)
  · first
    | (exfalso; omega)
    | (refine W.skip ?_
       refine W.seq ?_
       refine W.block ?_
       refine W.sreg ?_
       refine WO.p rfl rfl (WO.p rfl rfl ?_)
       refine WO.nil ?_
       refine W.sreg ?_
       refine WO.p rfl rfl (WO.p rfl rfl ?_)
       refine WO.nil ?_
       refine W.block ?_
       refine W.loop (fun (j : Nat) => j ≤ k)
         (fun (j : Nat) => [(11, .int .i64 (k : Int)), (10, .int .i64 (rs.length : Int)), (3, .int .i64 (k : Int)), (14, .int .i64 (k : Int)), (15, .int .i64 (j : Int)), (0, .func (.yield l) #[] #[]), (1, .pointer (some ⟨b1, 0, none⟩))])
         (fun (j : Nat) => [pt b1 (.cells #[.pointer (some p)] 99 (0, 0)), sat (Hc ((pairsTo k).length + j))])
         (fun (j : Nat) => k - j) 0
         (by exact Nat.zero_le _) ⟨rfl, rfl, rfl, rfl, rfl, rfl, rfl, trivial⟩ (by repeat (first | exact Sub.nil | refine Sub.cons (by repeat (first | exact Pick.head | apply Pick.tail)) ?_)) ?_
       rintro j hj'
       refine W.sreg ?_
       refine WO.p rfl rfl ?_
       refine WO.nil ?_
       refine W.seq ?_
       refine W.cond_bl rfl (fun c2 => ?_) (fun c2 => ?_)
       · first
         | (exfalso; omega)
         | (refine W.skip ?_
            refine W.seq ?_
            refine W.block ?_
            refine W.sreg ?_
            refine WO.p rfl rfl (WO.p rfl rfl ?_)
            refine WO.nil ?_
            refine W.sreg ?_
            refine WO.p rfl rfl (WO.p rfl rfl (WO.p rfl rfl ?_))
            refine WO.yield rfl rfl (by repeat (first | exact Pick.head | apply Pick.tail)) ((hy _ _ (pairV_get (j := j) (k := k) (by omega) (by omega))).one.agree hk) rfl ?_
            refine WO.p rfl rfl ?_
            refine WO.nil ?_
            refine W.cond_f rfl ?_
            refine W.skip ?_
            refine W.region ?_
            refine WO.ar rfl rfl rfl (by (first | (unfold in64; omega) | (unfold in64; omega))) rfl (WO.p rfl rfl ?_)
            refine WO.nil ?_
            refine' ⟨j + 1, ?hp, ?hmu, ⟨rfl, rfl, rfl, rfl, rfl, rfl, rfl, trivial⟩, ?hS⟩
            case hS => repeat (first | exact Sub.nil | refine Sub.cons (by repeat (first | exact Pick.head | apply Pick.tail)) ?_)
            case hp => omega
            case hmu => omega)
       · first
         | (exfalso; omega)
         | (refine W.exit (blk_same ?_)
            obtain rfl : k = j := by omega
            rw [← pairsTo_len]
            refine W.region ?_
            refine WO.ar rfl rfl rfl (by (first | (unfold in64; omega) | (unfold in64; omega))) rfl (WO.p rfl rfl ?_)
            refine WO.nil ?_
            refine' ⟨k + 1, ?hp, ?hmu, ⟨rfl, rfl, rfl, rfl, trivial⟩, ?hS⟩
            case hS => repeat (first | exact Sub.nil | refine Sub.cons (by repeat (first | exact Pick.head | apply Pick.tail)) ?_)
            case hp => omega
            case hmu => omega))
  · first
    | (exfalso; omega)
    | (refine W.exit (blk_same ?_)
       obtain rfl : k = rs.length := by omega
       refine fin.normal (Res.none rfl) ?_
       rw [show ((pairsTo rs.length).map pairV).length = (pairsTo rs.length).length by simp]
       exact .cons .head (.cons .head .nil))
end Go.Proofs.YtnehaifgcegemaaGreat.Tr
