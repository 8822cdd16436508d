/- Bytes as numbers. -/
import Derived.Test.YtdaddlplpkmkmaaDoorPlain
import Derived.Test.YtdaddlplpkmkmaaDoorWMore
namespace Go.Proofs.YtdaddlplpkmkmaaDoor.Spec
open Go.RowKit Go.Proofs.YtdaddlplpkmkmaaDoorW.PrintWords Go.Proofs.YtdaddlplpkmkmaaDoorW.PrintMore

def nb (l : List UInt8) : List Int := l.map fun b => (b.toNat : Int)
theorem nb_str (l : List UInt8) : strOfNums (nb l) = str l := by
  refine str_eq _ _ ?_
  rw [strOfNums_data, nb, List.map_map]
  conv => rhs; rw [← List.map_id l]
  apply List.map_congr_left
  intro b _
  simp
theorem nb_app (a b : List UInt8) : nb a ++ nb b = nb (a ++ b) := by simp [nb]
theorem nb_len (a : List UInt8) : (nb a).length = a.length := by simp [nb]
theorem bytes_nb (s : ByteArray) : bytesOf s = nb s.data.toList := rfl
end Go.Proofs.YtdaddlplpkmkmaaDoor.Spec
