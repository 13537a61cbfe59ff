/- Closed facts on the types and functions of this seat's program, by the kernel (written by a program of this session: gentypes.py). -/
import Derived.Test.YthknnpojfhohbaaGreatProg
import Derived.Test.YthknnpojfhohbaaGreatKitA
namespace Go.Proofs
open Go Go.Vc
set_option maxRecDepth 100000
theorem takeP_pure {P : Program} {s : Sem Value} {v : Value} {k : Value → Prop} (h : ∀ w, s.run P w = .ok v w) : TakeP P s k = k v := by
  unfold TakeP
  refine propext ⟨fun ⟨u, hu, hk⟩ => ?_, fun hk => ⟨v, h, hk⟩⟩
  have := (hu default).symm.trans (h default)
  cases this
  exact hk
@[push_cast] theorem Tryz.ae213 : arrayEl Tryz.prog 213 = some (2, 1) := by kernel_rfl
@[push_cast] theorem Tryz.ae254 : arrayEl Tryz.prog 254 = some (4, 1) := by kernel_rfl
@[push_cast] theorem Tryz.ae84 : arrayEl Tryz.prog 84 = some (64, 1) := by kernel_rfl
@[push_cast] theorem Tryz.en10 : enters Tryz.prog 10 = true := by kernel_rfl
@[push_cast] theorem Tryz.en100 : enters Tryz.prog 100 = true := by kernel_rfl
@[push_cast] theorem Tryz.en101 : enters Tryz.prog 101 = true := by kernel_rfl
@[push_cast] theorem Tryz.en102 : enters Tryz.prog 102 = true := by kernel_rfl
@[push_cast] theorem Tryz.en103 : enters Tryz.prog 103 = true := by kernel_rfl
@[push_cast] theorem Tryz.en104 : enters Tryz.prog 104 = true := by kernel_rfl
@[push_cast] theorem Tryz.en105 : enters Tryz.prog 105 = true := by kernel_rfl
@[push_cast] theorem Tryz.en106 : enters Tryz.prog 106 = true := by kernel_rfl
@[push_cast] theorem Tryz.en107 : enters Tryz.prog 107 = true := by kernel_rfl
@[push_cast] theorem Tryz.en108 : enters Tryz.prog 108 = true := by kernel_rfl
@[push_cast] theorem Tryz.en109 : enters Tryz.prog 109 = true := by kernel_rfl
@[push_cast] theorem Tryz.en11 : enters Tryz.prog 11 = true := by kernel_rfl
@[push_cast] theorem Tryz.en110 : enters Tryz.prog 110 = true := by kernel_rfl
@[push_cast] theorem Tryz.en111 : enters Tryz.prog 111 = true := by kernel_rfl
@[push_cast] theorem Tryz.en112 : enters Tryz.prog 112 = true := by kernel_rfl
@[push_cast] theorem Tryz.en113 : enters Tryz.prog 113 = true := by kernel_rfl
@[push_cast] theorem Tryz.en114 : enters Tryz.prog 114 = true := by kernel_rfl
@[push_cast] theorem Tryz.en115 : enters Tryz.prog 115 = true := by kernel_rfl
@[push_cast] theorem Tryz.en116 : enters Tryz.prog 116 = true := by kernel_rfl
@[push_cast] theorem Tryz.en117 : enters Tryz.prog 117 = true := by kernel_rfl
@[push_cast] theorem Tryz.en118 : enters Tryz.prog 118 = true := by kernel_rfl
@[push_cast] theorem Tryz.en119 : enters Tryz.prog 119 = true := by kernel_rfl
@[push_cast] theorem Tryz.en12 : enters Tryz.prog 12 = true := by kernel_rfl
@[push_cast] theorem Tryz.en120 : enters Tryz.prog 120 = true := by kernel_rfl
@[push_cast] theorem Tryz.en121 : enters Tryz.prog 121 = true := by kernel_rfl
@[push_cast] theorem Tryz.en122 : enters Tryz.prog 122 = true := by kernel_rfl
@[push_cast] theorem Tryz.en123 : enters Tryz.prog 123 = true := by kernel_rfl
@[push_cast] theorem Tryz.en124 : enters Tryz.prog 124 = true := by kernel_rfl
@[push_cast] theorem Tryz.en125 : enters Tryz.prog 125 = true := by kernel_rfl
@[push_cast] theorem Tryz.en126 : enters Tryz.prog 126 = true := by kernel_rfl
@[push_cast] theorem Tryz.en127 : enters Tryz.prog 127 = true := by kernel_rfl
@[push_cast] theorem Tryz.en128 : enters Tryz.prog 128 = true := by kernel_rfl
@[push_cast] theorem Tryz.en129 : enters Tryz.prog 129 = true := by kernel_rfl
@[push_cast] theorem Tryz.en13 : enters Tryz.prog 13 = true := by kernel_rfl
@[push_cast] theorem Tryz.en130 : enters Tryz.prog 130 = true := by kernel_rfl
@[push_cast] theorem Tryz.en131 : enters Tryz.prog 131 = true := by kernel_rfl
@[push_cast] theorem Tryz.en132 : enters Tryz.prog 132 = true := by kernel_rfl
@[push_cast] theorem Tryz.en133 : enters Tryz.prog 133 = true := by kernel_rfl
@[push_cast] theorem Tryz.en134 : enters Tryz.prog 134 = true := by kernel_rfl
@[push_cast] theorem Tryz.en136 : enters Tryz.prog 136 = true := by kernel_rfl
@[push_cast] theorem Tryz.en137 : enters Tryz.prog 137 = true := by kernel_rfl
@[push_cast] theorem Tryz.en138 : enters Tryz.prog 138 = true := by kernel_rfl
@[push_cast] theorem Tryz.en139 : enters Tryz.prog 139 = true := by kernel_rfl
@[push_cast] theorem Tryz.en14 : enters Tryz.prog 14 = true := by kernel_rfl
@[push_cast] theorem Tryz.en140 : enters Tryz.prog 140 = true := by kernel_rfl
@[push_cast] theorem Tryz.en141 : enters Tryz.prog 141 = true := by kernel_rfl
@[push_cast] theorem Tryz.en142 : enters Tryz.prog 142 = true := by kernel_rfl
@[push_cast] theorem Tryz.en143 : enters Tryz.prog 143 = true := by kernel_rfl
@[push_cast] theorem Tryz.en144 : enters Tryz.prog 144 = true := by kernel_rfl
@[push_cast] theorem Tryz.en145 : enters Tryz.prog 145 = true := by kernel_rfl
@[push_cast] theorem Tryz.en146 : enters Tryz.prog 146 = true := by kernel_rfl
@[push_cast] theorem Tryz.en147 : enters Tryz.prog 147 = true := by kernel_rfl
@[push_cast] theorem Tryz.en148 : enters Tryz.prog 148 = true := by kernel_rfl
@[push_cast] theorem Tryz.en149 : enters Tryz.prog 149 = true := by kernel_rfl
@[push_cast] theorem Tryz.en15 : enters Tryz.prog 15 = true := by kernel_rfl
@[push_cast] theorem Tryz.en150 : enters Tryz.prog 150 = true := by kernel_rfl
@[push_cast] theorem Tryz.en151 : enters Tryz.prog 151 = true := by kernel_rfl
@[push_cast] theorem Tryz.en152 : enters Tryz.prog 152 = true := by kernel_rfl
@[push_cast] theorem Tryz.en153 : enters Tryz.prog 153 = true := by kernel_rfl
@[push_cast] theorem Tryz.en154 : enters Tryz.prog 154 = true := by kernel_rfl
@[push_cast] theorem Tryz.en155 : enters Tryz.prog 155 = true := by kernel_rfl
@[push_cast] theorem Tryz.en156 : enters Tryz.prog 156 = true := by kernel_rfl
@[push_cast] theorem Tryz.en157 : enters Tryz.prog 157 = true := by kernel_rfl
@[push_cast] theorem Tryz.en158 : enters Tryz.prog 158 = true := by kernel_rfl
@[push_cast] theorem Tryz.en159 : enters Tryz.prog 159 = true := by kernel_rfl
@[push_cast] theorem Tryz.en16 : enters Tryz.prog 16 = true := by kernel_rfl
@[push_cast] theorem Tryz.en160 : enters Tryz.prog 160 = true := by kernel_rfl
@[push_cast] theorem Tryz.en161 : enters Tryz.prog 161 = true := by kernel_rfl
@[push_cast] theorem Tryz.en162 : enters Tryz.prog 162 = true := by kernel_rfl
@[push_cast] theorem Tryz.en163 : enters Tryz.prog 163 = true := by kernel_rfl
@[push_cast] theorem Tryz.en164 : enters Tryz.prog 164 = true := by kernel_rfl
@[push_cast] theorem Tryz.en165 : enters Tryz.prog 165 = true := by kernel_rfl
@[push_cast] theorem Tryz.en166 : enters Tryz.prog 166 = true := by kernel_rfl
@[push_cast] theorem Tryz.en167 : enters Tryz.prog 167 = true := by kernel_rfl
@[push_cast] theorem Tryz.en168 : enters Tryz.prog 168 = true := by kernel_rfl
@[push_cast] theorem Tryz.en169 : enters Tryz.prog 169 = true := by kernel_rfl
@[push_cast] theorem Tryz.en17 : enters Tryz.prog 17 = true := by kernel_rfl
@[push_cast] theorem Tryz.en170 : enters Tryz.prog 170 = true := by kernel_rfl
@[push_cast] theorem Tryz.en171 : enters Tryz.prog 171 = true := by kernel_rfl
@[push_cast] theorem Tryz.en172 : enters Tryz.prog 172 = true := by kernel_rfl
@[push_cast] theorem Tryz.en173 : enters Tryz.prog 173 = true := by kernel_rfl
@[push_cast] theorem Tryz.en174 : enters Tryz.prog 174 = true := by kernel_rfl
@[push_cast] theorem Tryz.en176 : enters Tryz.prog 176 = true := by kernel_rfl
@[push_cast] theorem Tryz.en177 : enters Tryz.prog 177 = true := by kernel_rfl
@[push_cast] theorem Tryz.en178 : enters Tryz.prog 178 = true := by kernel_rfl
@[push_cast] theorem Tryz.en179 : enters Tryz.prog 179 = true := by kernel_rfl
@[push_cast] theorem Tryz.en18 : enters Tryz.prog 18 = true := by kernel_rfl
@[push_cast] theorem Tryz.en180 : enters Tryz.prog 180 = true := by kernel_rfl
@[push_cast] theorem Tryz.en181 : enters Tryz.prog 181 = true := by kernel_rfl
@[push_cast] theorem Tryz.en182 : enters Tryz.prog 182 = true := by kernel_rfl
@[push_cast] theorem Tryz.en183 : enters Tryz.prog 183 = true := by kernel_rfl
@[push_cast] theorem Tryz.en184 : enters Tryz.prog 184 = true := by kernel_rfl
@[push_cast] theorem Tryz.en185 : enters Tryz.prog 185 = true := by kernel_rfl
@[push_cast] theorem Tryz.en186 : enters Tryz.prog 186 = true := by kernel_rfl
@[push_cast] theorem Tryz.en187 : enters Tryz.prog 187 = true := by kernel_rfl
@[push_cast] theorem Tryz.en188 : enters Tryz.prog 188 = true := by kernel_rfl
@[push_cast] theorem Tryz.en189 : enters Tryz.prog 189 = true := by kernel_rfl
@[push_cast] theorem Tryz.en19 : enters Tryz.prog 19 = true := by kernel_rfl
@[push_cast] theorem Tryz.en190 : enters Tryz.prog 190 = true := by kernel_rfl
@[push_cast] theorem Tryz.en193 : enters Tryz.prog 193 = true := by kernel_rfl
@[push_cast] theorem Tryz.en194 : enters Tryz.prog 194 = true := by kernel_rfl
@[push_cast] theorem Tryz.en195 : enters Tryz.prog 195 = true := by kernel_rfl
@[push_cast] theorem Tryz.en196 : enters Tryz.prog 196 = true := by kernel_rfl
@[push_cast] theorem Tryz.en197 : enters Tryz.prog 197 = true := by kernel_rfl
@[push_cast] theorem Tryz.en198 : enters Tryz.prog 198 = true := by kernel_rfl
@[push_cast] theorem Tryz.en199 : enters Tryz.prog 199 = true := by kernel_rfl
@[push_cast] theorem Tryz.en20 : enters Tryz.prog 20 = true := by kernel_rfl
@[push_cast] theorem Tryz.en200 : enters Tryz.prog 200 = true := by kernel_rfl
@[push_cast] theorem Tryz.en201 : enters Tryz.prog 201 = true := by kernel_rfl
@[push_cast] theorem Tryz.en202 : enters Tryz.prog 202 = true := by kernel_rfl
@[push_cast] theorem Tryz.en203 : enters Tryz.prog 203 = true := by kernel_rfl
@[push_cast] theorem Tryz.en204 : enters Tryz.prog 204 = true := by kernel_rfl
@[push_cast] theorem Tryz.en205 : enters Tryz.prog 205 = true := by kernel_rfl
@[push_cast] theorem Tryz.en206 : enters Tryz.prog 206 = true := by kernel_rfl
@[push_cast] theorem Tryz.en21 : enters Tryz.prog 21 = true := by kernel_rfl
@[push_cast] theorem Tryz.en22 : enters Tryz.prog 22 = true := by kernel_rfl
@[push_cast] theorem Tryz.en23 : enters Tryz.prog 23 = true := by kernel_rfl
@[push_cast] theorem Tryz.en24 : enters Tryz.prog 24 = true := by kernel_rfl
@[push_cast] theorem Tryz.en25 : enters Tryz.prog 25 = true := by kernel_rfl
@[push_cast] theorem Tryz.en26 : enters Tryz.prog 26 = true := by kernel_rfl
@[push_cast] theorem Tryz.en27 : enters Tryz.prog 27 = true := by kernel_rfl
@[push_cast] theorem Tryz.en28 : enters Tryz.prog 28 = true := by kernel_rfl
@[push_cast] theorem Tryz.en29 : enters Tryz.prog 29 = true := by kernel_rfl
@[push_cast] theorem Tryz.en30 : enters Tryz.prog 30 = true := by kernel_rfl
@[push_cast] theorem Tryz.en31 : enters Tryz.prog 31 = true := by kernel_rfl
@[push_cast] theorem Tryz.en32 : enters Tryz.prog 32 = true := by kernel_rfl
@[push_cast] theorem Tryz.en33 : enters Tryz.prog 33 = true := by kernel_rfl
@[push_cast] theorem Tryz.en34 : enters Tryz.prog 34 = true := by kernel_rfl
@[push_cast] theorem Tryz.en35 : enters Tryz.prog 35 = true := by kernel_rfl
@[push_cast] theorem Tryz.en36 : enters Tryz.prog 36 = true := by kernel_rfl
@[push_cast] theorem Tryz.en37 : enters Tryz.prog 37 = true := by kernel_rfl
@[push_cast] theorem Tryz.en38 : enters Tryz.prog 38 = true := by kernel_rfl
@[push_cast] theorem Tryz.en39 : enters Tryz.prog 39 = true := by kernel_rfl
@[push_cast] theorem Tryz.en40 : enters Tryz.prog 40 = true := by kernel_rfl
@[push_cast] theorem Tryz.en41 : enters Tryz.prog 41 = true := by kernel_rfl
@[push_cast] theorem Tryz.en42 : enters Tryz.prog 42 = true := by kernel_rfl
@[push_cast] theorem Tryz.en43 : enters Tryz.prog 43 = true := by kernel_rfl
@[push_cast] theorem Tryz.en44 : enters Tryz.prog 44 = true := by kernel_rfl
@[push_cast] theorem Tryz.en45 : enters Tryz.prog 45 = true := by kernel_rfl
@[push_cast] theorem Tryz.en46 : enters Tryz.prog 46 = true := by kernel_rfl
@[push_cast] theorem Tryz.en47 : enters Tryz.prog 47 = true := by kernel_rfl
@[push_cast] theorem Tryz.en48 : enters Tryz.prog 48 = true := by kernel_rfl
@[push_cast] theorem Tryz.en49 : enters Tryz.prog 49 = true := by kernel_rfl
@[push_cast] theorem Tryz.en50 : enters Tryz.prog 50 = true := by kernel_rfl
@[push_cast] theorem Tryz.en52 : enters Tryz.prog 52 = true := by kernel_rfl
@[push_cast] theorem Tryz.en53 : enters Tryz.prog 53 = true := by kernel_rfl
@[push_cast] theorem Tryz.en54 : enters Tryz.prog 54 = true := by kernel_rfl
@[push_cast] theorem Tryz.en55 : enters Tryz.prog 55 = true := by kernel_rfl
@[push_cast] theorem Tryz.en56 : enters Tryz.prog 56 = true := by kernel_rfl
@[push_cast] theorem Tryz.en57 : enters Tryz.prog 57 = true := by kernel_rfl
@[push_cast] theorem Tryz.en58 : enters Tryz.prog 58 = true := by kernel_rfl
@[push_cast] theorem Tryz.en59 : enters Tryz.prog 59 = true := by kernel_rfl
@[push_cast] theorem Tryz.en60 : enters Tryz.prog 60 = true := by kernel_rfl
@[push_cast] theorem Tryz.en61 : enters Tryz.prog 61 = true := by kernel_rfl
@[push_cast] theorem Tryz.en62 : enters Tryz.prog 62 = true := by kernel_rfl
@[push_cast] theorem Tryz.en63 : enters Tryz.prog 63 = true := by kernel_rfl
@[push_cast] theorem Tryz.en64 : enters Tryz.prog 64 = true := by kernel_rfl
@[push_cast] theorem Tryz.en65 : enters Tryz.prog 65 = true := by kernel_rfl
@[push_cast] theorem Tryz.en66 : enters Tryz.prog 66 = true := by kernel_rfl
@[push_cast] theorem Tryz.en67 : enters Tryz.prog 67 = true := by kernel_rfl
@[push_cast] theorem Tryz.en68 : enters Tryz.prog 68 = true := by kernel_rfl
@[push_cast] theorem Tryz.en69 : enters Tryz.prog 69 = true := by kernel_rfl
@[push_cast] theorem Tryz.en70 : enters Tryz.prog 70 = true := by kernel_rfl
@[push_cast] theorem Tryz.en71 : enters Tryz.prog 71 = true := by kernel_rfl
@[push_cast] theorem Tryz.en72 : enters Tryz.prog 72 = true := by kernel_rfl
@[push_cast] theorem Tryz.en73 : enters Tryz.prog 73 = true := by kernel_rfl
@[push_cast] theorem Tryz.en74 : enters Tryz.prog 74 = true := by kernel_rfl
@[push_cast] theorem Tryz.en75 : enters Tryz.prog 75 = true := by kernel_rfl
@[push_cast] theorem Tryz.en76 : enters Tryz.prog 76 = true := by kernel_rfl
@[push_cast] theorem Tryz.en77 : enters Tryz.prog 77 = true := by kernel_rfl
@[push_cast] theorem Tryz.en78 : enters Tryz.prog 78 = true := by kernel_rfl
@[push_cast] theorem Tryz.en79 : enters Tryz.prog 79 = true := by kernel_rfl
@[push_cast] theorem Tryz.en80 : enters Tryz.prog 80 = true := by kernel_rfl
@[push_cast] theorem Tryz.en81 : enters Tryz.prog 81 = true := by kernel_rfl
@[push_cast] theorem Tryz.en82 : enters Tryz.prog 82 = true := by kernel_rfl
@[push_cast] theorem Tryz.en83 : enters Tryz.prog 83 = true := by kernel_rfl
@[push_cast] theorem Tryz.en84 : enters Tryz.prog 84 = true := by kernel_rfl
@[push_cast] theorem Tryz.en85 : enters Tryz.prog 85 = true := by kernel_rfl
@[push_cast] theorem Tryz.en86 : enters Tryz.prog 86 = true := by kernel_rfl
@[push_cast] theorem Tryz.en87 : enters Tryz.prog 87 = true := by kernel_rfl
@[push_cast] theorem Tryz.en88 : enters Tryz.prog 88 = true := by kernel_rfl
@[push_cast] theorem Tryz.en89 : enters Tryz.prog 89 = true := by kernel_rfl
@[push_cast] theorem Tryz.en90 : enters Tryz.prog 90 = true := by kernel_rfl
@[push_cast] theorem Tryz.en91 : enters Tryz.prog 91 = true := by kernel_rfl
@[push_cast] theorem Tryz.en92 : enters Tryz.prog 92 = true := by kernel_rfl
@[push_cast] theorem Tryz.en93 : enters Tryz.prog 93 = true := by kernel_rfl
@[push_cast] theorem Tryz.en94 : enters Tryz.prog 94 = true := by kernel_rfl
@[push_cast] theorem Tryz.en95 : enters Tryz.prog 95 = true := by kernel_rfl
@[push_cast] theorem Tryz.en96 : enters Tryz.prog 96 = true := by kernel_rfl
@[push_cast] theorem Tryz.en97 : enters Tryz.prog 97 = true := by kernel_rfl
@[push_cast] theorem Tryz.en98 : enters Tryz.prog 98 = true := by kernel_rfl
@[push_cast] theorem Tryz.en99 : enters Tryz.prog 99 = true := by kernel_rfl
@[push_cast] theorem Tryz.fo106_0 : fieldOff Tryz.prog 106 0 = some 0 := by kernel_rfl
@[push_cast] theorem Tryz.fo106_1 : fieldOff Tryz.prog 106 1 = some 1 := by kernel_rfl
@[push_cast] theorem Tryz.fo106_2 : fieldOff Tryz.prog 106 2 = some 2 := by kernel_rfl
@[push_cast] theorem Tryz.fo106_3 : fieldOff Tryz.prog 106 3 = some 3 := by kernel_rfl
@[push_cast] theorem Tryz.fo106_4 : fieldOff Tryz.prog 106 4 = some 4 := by kernel_rfl
@[push_cast] theorem Tryz.fo113_0 : fieldOff Tryz.prog 113 0 = some 0 := by kernel_rfl
@[push_cast] theorem Tryz.fo113_1 : fieldOff Tryz.prog 113 1 = some 1 := by kernel_rfl
@[push_cast] theorem Tryz.fo123_0 : fieldOff Tryz.prog 123 0 = some 0 := by kernel_rfl
@[push_cast] theorem Tryz.fo123_1 : fieldOff Tryz.prog 123 1 = some 1 := by kernel_rfl
@[push_cast] theorem Tryz.fo123_2 : fieldOff Tryz.prog 123 2 = some 2 := by kernel_rfl
@[push_cast] theorem Tryz.fo123_3 : fieldOff Tryz.prog 123 3 = some 3 := by kernel_rfl
@[push_cast] theorem Tryz.fo123_4 : fieldOff Tryz.prog 123 4 = some 4 := by kernel_rfl
@[push_cast] theorem Tryz.fo123_5 : fieldOff Tryz.prog 123 5 = some 5 := by kernel_rfl
@[push_cast] theorem Tryz.fo123_6 : fieldOff Tryz.prog 123 6 = some 6 := by kernel_rfl
@[push_cast] theorem Tryz.fo127_0 : fieldOff Tryz.prog 127 0 = some 0 := by kernel_rfl
@[push_cast] theorem Tryz.fo127_1 : fieldOff Tryz.prog 127 1 = some 1 := by kernel_rfl
@[push_cast] theorem Tryz.fo127_2 : fieldOff Tryz.prog 127 2 = some 2 := by kernel_rfl
@[push_cast] theorem Tryz.fo127_3 : fieldOff Tryz.prog 127 3 = some 3 := by kernel_rfl
@[push_cast] theorem Tryz.fo127_4 : fieldOff Tryz.prog 127 4 = some 4 := by kernel_rfl
@[push_cast] theorem Tryz.fo133_0 : fieldOff Tryz.prog 133 0 = some 0 := by kernel_rfl
@[push_cast] theorem Tryz.fo133_1 : fieldOff Tryz.prog 133 1 = some 1 := by kernel_rfl
@[push_cast] theorem Tryz.fo135_0 : fieldOff Tryz.prog 135 0 = some 0 := by kernel_rfl
@[push_cast] theorem Tryz.fo135_1 : fieldOff Tryz.prog 135 1 = some 1 := by kernel_rfl
@[push_cast] theorem Tryz.fo135_2 : fieldOff Tryz.prog 135 2 = some 2 := by kernel_rfl
@[push_cast] theorem Tryz.fo144_0 : fieldOff Tryz.prog 144 0 = some 0 := by kernel_rfl
@[push_cast] theorem Tryz.fo144_1 : fieldOff Tryz.prog 144 1 = some 1 := by kernel_rfl
@[push_cast] theorem Tryz.fo144_2 : fieldOff Tryz.prog 144 2 = some 2 := by kernel_rfl
@[push_cast] theorem Tryz.fo166_0 : fieldOff Tryz.prog 166 0 = some 0 := by kernel_rfl
@[push_cast] theorem Tryz.fo166_1 : fieldOff Tryz.prog 166 1 = some 1 := by kernel_rfl
@[push_cast] theorem Tryz.fo182_0 : fieldOff Tryz.prog 182 0 = some 0 := by kernel_rfl
@[push_cast] theorem Tryz.fo182_1 : fieldOff Tryz.prog 182 1 = some 1 := by kernel_rfl
@[push_cast] theorem Tryz.fo200_0 : fieldOff Tryz.prog 200 0 = some 0 := by kernel_rfl
@[push_cast] theorem Tryz.fo200_1 : fieldOff Tryz.prog 200 1 = some 1 := by kernel_rfl
@[push_cast] theorem Tryz.fo200_2 : fieldOff Tryz.prog 200 2 = some 2 := by kernel_rfl
@[push_cast] theorem Tryz.fo200_3 : fieldOff Tryz.prog 200 3 = some 3 := by kernel_rfl
@[push_cast] theorem Tryz.fo221_0 : fieldOff Tryz.prog 221 0 = some 0 := by kernel_rfl
@[push_cast] theorem Tryz.fo221_1 : fieldOff Tryz.prog 221 1 = some 1 := by kernel_rfl
@[push_cast] theorem Tryz.fo224_0 : fieldOff Tryz.prog 224 0 = some 0 := by kernel_rfl
@[push_cast] theorem Tryz.fo224_1 : fieldOff Tryz.prog 224 1 = some 1 := by kernel_rfl
@[push_cast] theorem Tryz.fo32_0 : fieldOff Tryz.prog 32 0 = some 0 := by kernel_rfl
@[push_cast] theorem Tryz.fo32_1 : fieldOff Tryz.prog 32 1 = some 1 := by kernel_rfl
@[push_cast] theorem Tryz.fo32_2 : fieldOff Tryz.prog 32 2 = some 2 := by kernel_rfl
@[push_cast] theorem Tryz.fo68_0 : fieldOff Tryz.prog 68 0 = some 0 := by kernel_rfl
@[push_cast] theorem Tryz.fo68_1 : fieldOff Tryz.prog 68 1 = some 1 := by kernel_rfl
@[push_cast] theorem Tryz.fo68_10 : fieldOff Tryz.prog 68 10 = some 10 := by kernel_rfl
@[push_cast] theorem Tryz.fo68_11 : fieldOff Tryz.prog 68 11 = some 11 := by kernel_rfl
@[push_cast] theorem Tryz.fo68_12 : fieldOff Tryz.prog 68 12 = some 12 := by kernel_rfl
@[push_cast] theorem Tryz.fo68_13 : fieldOff Tryz.prog 68 13 = some 13 := by kernel_rfl
@[push_cast] theorem Tryz.fo68_2 : fieldOff Tryz.prog 68 2 = some 2 := by kernel_rfl
@[push_cast] theorem Tryz.fo68_3 : fieldOff Tryz.prog 68 3 = some 3 := by kernel_rfl
@[push_cast] theorem Tryz.fo68_4 : fieldOff Tryz.prog 68 4 = some 4 := by kernel_rfl
@[push_cast] theorem Tryz.fo68_5 : fieldOff Tryz.prog 68 5 = some 5 := by kernel_rfl
@[push_cast] theorem Tryz.fo68_6 : fieldOff Tryz.prog 68 6 = some 6 := by kernel_rfl
@[push_cast] theorem Tryz.fo68_7 : fieldOff Tryz.prog 68 7 = some 7 := by kernel_rfl
@[push_cast] theorem Tryz.fo68_8 : fieldOff Tryz.prog 68 8 = some 8 := by kernel_rfl
@[push_cast] theorem Tryz.fo68_9 : fieldOff Tryz.prog 68 9 = some 9 := by kernel_rfl
@[push_cast] theorem Tryz.fo70_0 : fieldOff Tryz.prog 70 0 = some 0 := by kernel_rfl
@[push_cast] theorem Tryz.fo70_1 : fieldOff Tryz.prog 70 1 = some 1 := by kernel_rfl
@[push_cast] theorem Tryz.fo70_2 : fieldOff Tryz.prog 70 2 = some 2 := by kernel_rfl
@[push_cast] theorem Tryz.fo70_3 : fieldOff Tryz.prog 70 3 = some 3 := by kernel_rfl
@[push_cast] theorem Tryz.fo72_0 : fieldOff Tryz.prog 72 0 = some 0 := by kernel_rfl
@[push_cast] theorem Tryz.fo72_1 : fieldOff Tryz.prog 72 1 = some 1 := by kernel_rfl
@[push_cast] theorem Tryz.fo72_2 : fieldOff Tryz.prog 72 2 = some 2 := by kernel_rfl
@[push_cast] theorem Tryz.fo72_3 : fieldOff Tryz.prog 72 3 = some 3 := by kernel_rfl
@[push_cast] theorem Tryz.fo86_0 : fieldOff Tryz.prog 86 0 = some 0 := by kernel_rfl
@[push_cast] theorem Tryz.fo86_1 : fieldOff Tryz.prog 86 1 = some 1 := by kernel_rfl
@[push_cast] theorem Tryz.fo86_2 : fieldOff Tryz.prog 86 2 = some 2 := by kernel_rfl
@[push_cast] theorem Tryz.fo86_3 : fieldOff Tryz.prog 86 3 = some 66 := by kernel_rfl
@[push_cast] theorem Tryz.fo86_4 : fieldOff Tryz.prog 86 4 = some 67 := by kernel_rfl
@[push_cast] theorem Tryz.fo86_5 : fieldOff Tryz.prog 86 5 = some 68 := by kernel_rfl
@[push_cast] theorem Tryz.fo86_6 : fieldOff Tryz.prog 86 6 = some 69 := by kernel_rfl
@[push_cast] theorem Tryz.fo90_0 : fieldOff Tryz.prog 90 0 = some 0 := by kernel_rfl
@[push_cast] theorem Tryz.fo90_1 : fieldOff Tryz.prog 90 1 = some 1 := by kernel_rfl
@[push_cast] theorem Tryz.fo90_2 : fieldOff Tryz.prog 90 2 = some 2 := by kernel_rfl
@[push_cast] theorem Tryz.fo90_3 : fieldOff Tryz.prog 90 3 = some 3 := by kernel_rfl
@[push_cast] theorem Tryz.fo90_4 : fieldOff Tryz.prog 90 4 = some 4 := by kernel_rfl
@[push_cast] theorem Tryz.iB4 : isBoolT Tryz.prog 4 = true := by kernel_rfl
@[push_cast] theorem Tryz.iM38 : isMapT Tryz.prog 38 = true := by kernel_rfl
@[push_cast] theorem Tryz.iM42 : isMapT Tryz.prog 42 = true := by kernel_rfl
@[push_cast] theorem Tryz.iM88 : isMapT Tryz.prog 88 = true := by kernel_rfl
@[push_cast] theorem Tryz.iP164 : isPtrT Tryz.prog 164 = true := by kernel_rfl
@[push_cast] theorem Tryz.iP174 : isPtrT Tryz.prog 174 = true := by kernel_rfl
@[push_cast] theorem Tryz.iP219 : isPtrT Tryz.prog 219 = true := by kernel_rfl
@[push_cast] theorem Tryz.iP245 : isPtrT Tryz.prog 245 = true := by kernel_rfl
@[push_cast] theorem Tryz.iP25 : isPtrT Tryz.prog 25 = true := by kernel_rfl
@[push_cast] theorem Tryz.iP27 : isPtrT Tryz.prog 27 = true := by kernel_rfl
@[push_cast] theorem Tryz.iP56 : isPtrT Tryz.prog 56 = true := by kernel_rfl
@[push_cast] theorem Tryz.iS104 : isSliceT Tryz.prog 104 = true := by kernel_rfl
@[push_cast] theorem Tryz.iS125 : isSliceT Tryz.prog 125 = true := by kernel_rfl
@[push_cast] theorem Tryz.iS189 : isSliceT Tryz.prog 189 = true := by kernel_rfl
@[push_cast] theorem Tryz.iS191 : isSliceT Tryz.prog 191 = true := by kernel_rfl
@[push_cast] theorem Tryz.iS193 : isSliceT Tryz.prog 193 = true := by kernel_rfl
@[push_cast] theorem Tryz.iS195 : isSliceT Tryz.prog 195 = true := by kernel_rfl
@[push_cast] theorem Tryz.iS197 : isSliceT Tryz.prog 197 = true := by kernel_rfl
@[push_cast] theorem Tryz.iS22 : isSliceT Tryz.prog 22 = true := by kernel_rfl
@[push_cast] theorem Tryz.iS34 : isSliceT Tryz.prog 34 = true := by kernel_rfl
@[push_cast] theorem Tryz.iS40 : isSliceT Tryz.prog 40 = true := by kernel_rfl
@[push_cast] theorem Tryz.iS47 : isSliceT Tryz.prog 47 = true := by kernel_rfl
@[push_cast] theorem Tryz.iS51 : isSliceT Tryz.prog 51 = true := by kernel_rfl
@[push_cast] theorem Tryz.iS53 : isSliceT Tryz.prog 53 = true := by kernel_rfl
@[push_cast] theorem Tryz.iS60 : isSliceT Tryz.prog 60 = true := by kernel_rfl
@[push_cast] theorem Tryz.iS61 : isSliceT Tryz.prog 61 = true := by kernel_rfl
@[push_cast] theorem Tryz.iS62 : isSliceT Tryz.prog 62 = true := by kernel_rfl
@[push_cast] theorem Tryz.iS63 : isSliceT Tryz.prog 63 = true := by kernel_rfl
@[push_cast] theorem Tryz.iS64 : isSliceT Tryz.prog 64 = true := by kernel_rfl
@[push_cast] theorem Tryz.iS65 : isSliceT Tryz.prog 65 = true := by kernel_rfl
@[push_cast] theorem Tryz.iS66 : isSliceT Tryz.prog 66 = true := by kernel_rfl
@[push_cast] theorem Tryz.iS74 : isSliceT Tryz.prog 74 = true := by kernel_rfl
@[push_cast] theorem Tryz.iS77 : isSliceT Tryz.prog 77 = true := by kernel_rfl
@[push_cast] theorem Tryz.iS82 : isSliceT Tryz.prog 82 = true := by kernel_rfl
@[push_cast] theorem Tryz.iT104 : isStringT Tryz.prog 104 = false := by kernel_rfl
@[push_cast] theorem Tryz.iT121 : isStringT Tryz.prog 121 = false := by kernel_rfl
@[push_cast] theorem Tryz.iT125 : isStringT Tryz.prog 125 = false := by kernel_rfl
@[push_cast] theorem Tryz.iT164 : isStringT Tryz.prog 164 = false := by kernel_rfl
@[push_cast] theorem Tryz.iT174 : isStringT Tryz.prog 174 = false := by kernel_rfl
@[push_cast] theorem Tryz.iT189 : isStringT Tryz.prog 189 = false := by kernel_rfl
@[push_cast] theorem Tryz.iT191 : isStringT Tryz.prog 191 = false := by kernel_rfl
@[push_cast] theorem Tryz.iT193 : isStringT Tryz.prog 193 = false := by kernel_rfl
@[push_cast] theorem Tryz.iT195 : isStringT Tryz.prog 195 = false := by kernel_rfl
@[push_cast] theorem Tryz.iT197 : isStringT Tryz.prog 197 = false := by kernel_rfl
@[push_cast] theorem Tryz.iT205 : isStringT Tryz.prog 205 = false := by kernel_rfl
@[push_cast] theorem Tryz.iT208 : isStringT Tryz.prog 208 = false := by kernel_rfl
@[push_cast] theorem Tryz.iT211 : isStringT Tryz.prog 211 = false := by kernel_rfl
@[push_cast] theorem Tryz.iT213 : isStringT Tryz.prog 213 = false := by kernel_rfl
@[push_cast] theorem Tryz.iT214 : isStringT Tryz.prog 214 = false := by kernel_rfl
@[push_cast] theorem Tryz.iT219 : isStringT Tryz.prog 219 = false := by kernel_rfl
@[push_cast] theorem Tryz.iT22 : isStringT Tryz.prog 22 = false := by kernel_rfl
@[push_cast] theorem Tryz.iT232 : isStringT Tryz.prog 232 = false := by kernel_rfl
@[push_cast] theorem Tryz.iT241 : isStringT Tryz.prog 241 = false := by kernel_rfl
@[push_cast] theorem Tryz.iT245 : isStringT Tryz.prog 245 = false := by kernel_rfl
@[push_cast] theorem Tryz.iT248 : isStringT Tryz.prog 248 = false := by kernel_rfl
@[push_cast] theorem Tryz.iT25 : isStringT Tryz.prog 25 = false := by kernel_rfl
@[push_cast] theorem Tryz.iT254 : isStringT Tryz.prog 254 = false := by kernel_rfl
@[push_cast] theorem Tryz.iT27 : isStringT Tryz.prog 27 = false := by kernel_rfl
@[push_cast] theorem Tryz.iT28 : isStringT Tryz.prog 28 = false := by kernel_rfl
@[push_cast] theorem Tryz.iT3 : isStringT Tryz.prog 3 = false := by kernel_rfl
@[push_cast] theorem Tryz.iT34 : isStringT Tryz.prog 34 = false := by kernel_rfl
@[push_cast] theorem Tryz.iT38 : isStringT Tryz.prog 38 = false := by kernel_rfl
@[push_cast] theorem Tryz.iT4 : isStringT Tryz.prog 4 = false := by kernel_rfl
@[push_cast] theorem Tryz.iT40 : isStringT Tryz.prog 40 = false := by kernel_rfl
@[push_cast] theorem Tryz.iT42 : isStringT Tryz.prog 42 = false := by kernel_rfl
@[push_cast] theorem Tryz.iT47 : isStringT Tryz.prog 47 = false := by kernel_rfl
@[push_cast] theorem Tryz.iT5 : isStringT Tryz.prog 5 = false := by kernel_rfl
@[push_cast] theorem Tryz.iT51 : isStringT Tryz.prog 51 = false := by kernel_rfl
@[push_cast] theorem Tryz.iT53 : isStringT Tryz.prog 53 = false := by kernel_rfl
@[push_cast] theorem Tryz.iT56 : isStringT Tryz.prog 56 = false := by kernel_rfl
@[push_cast] theorem Tryz.iT60 : isStringT Tryz.prog 60 = false := by kernel_rfl
@[push_cast] theorem Tryz.iT61 : isStringT Tryz.prog 61 = false := by kernel_rfl
@[push_cast] theorem Tryz.iT62 : isStringT Tryz.prog 62 = false := by kernel_rfl
@[push_cast] theorem Tryz.iT63 : isStringT Tryz.prog 63 = false := by kernel_rfl
@[push_cast] theorem Tryz.iT64 : isStringT Tryz.prog 64 = false := by kernel_rfl
@[push_cast] theorem Tryz.iT65 : isStringT Tryz.prog 65 = false := by kernel_rfl
@[push_cast] theorem Tryz.iT66 : isStringT Tryz.prog 66 = false := by kernel_rfl
@[push_cast] theorem Tryz.iT74 : isStringT Tryz.prog 74 = false := by kernel_rfl
@[push_cast] theorem Tryz.iT77 : isStringT Tryz.prog 77 = false := by kernel_rfl
@[push_cast] theorem Tryz.iT82 : isStringT Tryz.prog 82 = false := by kernel_rfl
@[push_cast] theorem Tryz.iT83 : isStringT Tryz.prog 83 = false := by kernel_rfl
@[push_cast] theorem Tryz.iT84 : isStringT Tryz.prog 84 = false := by kernel_rfl
@[push_cast] theorem Tryz.iT88 : isStringT Tryz.prog 88 = false := by kernel_rfl
@[push_cast] theorem Tryz.iT9 : isStringT Tryz.prog 9 = true := by kernel_rfl
@[push_cast] theorem Tryz.it121 : intT Tryz.prog 121 = some .u64 := by kernel_rfl
@[push_cast] theorem Tryz.it214 : intT Tryz.prog 214 = some .u32 := by kernel_rfl
@[push_cast] theorem Tryz.it232 : intT Tryz.prog 232 = some .i64 := by kernel_rfl
@[push_cast] theorem Tryz.it248 : intT Tryz.prog 248 = some .u64 := by kernel_rfl
@[push_cast] theorem Tryz.it28 : intT Tryz.prog 28 = some .i64 := by kernel_rfl
@[push_cast] theorem Tryz.it3 : intT Tryz.prog 3 = some .i64 := by kernel_rfl
@[push_cast] theorem Tryz.it5 : intT Tryz.prog 5 = some .u8 := by kernel_rfl
@[push_cast] theorem Tryz.it83 : intT Tryz.prog 83 = some .u64 := by kernel_rfl
@[push_cast] theorem Tryz.mixed : Tryz.prog.follows .mixedOrders = true := by kernel_rfl
@[push_cast] theorem Tryz.se104 : sliceEl Tryz.prog 104 = some 2 := by kernel_rfl
@[push_cast] theorem Tryz.se125 : sliceEl Tryz.prog 125 = some 3 := by kernel_rfl
@[push_cast] theorem Tryz.se189 : sliceEl Tryz.prog 189 = some 2 := by kernel_rfl
@[push_cast] theorem Tryz.se191 : sliceEl Tryz.prog 191 = some 3 := by kernel_rfl
@[push_cast] theorem Tryz.se193 : sliceEl Tryz.prog 193 = some 3 := by kernel_rfl
@[push_cast] theorem Tryz.se195 : sliceEl Tryz.prog 195 = some 2 := by kernel_rfl
@[push_cast] theorem Tryz.se197 : sliceEl Tryz.prog 197 = some 4 := by kernel_rfl
@[push_cast] theorem Tryz.se22 : sliceEl Tryz.prog 22 = some 3 := by kernel_rfl
@[push_cast] theorem Tryz.se34 : sliceEl Tryz.prog 34 = some 1 := by kernel_rfl
@[push_cast] theorem Tryz.se40 : sliceEl Tryz.prog 40 = some 1 := by kernel_rfl
@[push_cast] theorem Tryz.se47 : sliceEl Tryz.prog 47 = some 1 := by kernel_rfl
@[push_cast] theorem Tryz.se51 : sliceEl Tryz.prog 51 = some 1 := by kernel_rfl
@[push_cast] theorem Tryz.se53 : sliceEl Tryz.prog 53 = some 7 := by kernel_rfl
@[push_cast] theorem Tryz.se60 : sliceEl Tryz.prog 60 = some 1 := by kernel_rfl
@[push_cast] theorem Tryz.se61 : sliceEl Tryz.prog 61 = some 1 := by kernel_rfl
@[push_cast] theorem Tryz.se62 : sliceEl Tryz.prog 62 = some 1 := by kernel_rfl
@[push_cast] theorem Tryz.se63 : sliceEl Tryz.prog 63 = some 1 := by kernel_rfl
@[push_cast] theorem Tryz.se64 : sliceEl Tryz.prog 64 = some 1 := by kernel_rfl
@[push_cast] theorem Tryz.se65 : sliceEl Tryz.prog 65 = some 1 := by kernel_rfl
@[push_cast] theorem Tryz.se66 : sliceEl Tryz.prog 66 = some 1 := by kernel_rfl
@[push_cast] theorem Tryz.se74 : sliceEl Tryz.prog 74 = some 4 := by kernel_rfl
@[push_cast] theorem Tryz.se77 : sliceEl Tryz.prog 77 = some 3 := by kernel_rfl
@[push_cast] theorem Tryz.se82 : sliceEl Tryz.prog 82 = some 1 := by kernel_rfl
@[push_cast] theorem Tryz.st104 : sliceElT Tryz.prog 104 = some 182 := by kernel_rfl
@[push_cast] theorem Tryz.st125 : sliceElT Tryz.prog 125 = some 135 := by kernel_rfl
@[push_cast] theorem Tryz.st189 : sliceElT Tryz.prog 189 = some 205 := by kernel_rfl
@[push_cast] theorem Tryz.st191 : sliceElT Tryz.prog 191 = some 208 := by kernel_rfl
@[push_cast] theorem Tryz.st193 : sliceElT Tryz.prog 193 = some 211 := by kernel_rfl
@[push_cast] theorem Tryz.st195 : sliceElT Tryz.prog 195 = some 213 := by kernel_rfl
@[push_cast] theorem Tryz.st197 : sliceElT Tryz.prog 197 = some 200 := by kernel_rfl
@[push_cast] theorem Tryz.st22 : sliceElT Tryz.prog 22 = some 32 := by kernel_rfl
@[push_cast] theorem Tryz.st34 : sliceElT Tryz.prog 34 = some 3 := by kernel_rfl
@[push_cast] theorem Tryz.st40 : sliceElT Tryz.prog 40 = some 22 := by kernel_rfl
@[push_cast] theorem Tryz.st47 : sliceElT Tryz.prog 47 = some 4 := by kernel_rfl
@[push_cast] theorem Tryz.st51 : sliceElT Tryz.prog 51 = some 5 := by kernel_rfl
@[push_cast] theorem Tryz.st53 : sliceElT Tryz.prog 53 = some 72 := by kernel_rfl
@[push_cast] theorem Tryz.st60 : sliceElT Tryz.prog 60 = some 82 := by kernel_rfl
@[push_cast] theorem Tryz.st61 : sliceElT Tryz.prog 61 = some 34 := by kernel_rfl
@[push_cast] theorem Tryz.st62 : sliceElT Tryz.prog 62 = some 189 := by kernel_rfl
@[push_cast] theorem Tryz.st63 : sliceElT Tryz.prog 63 = some 191 := by kernel_rfl
@[push_cast] theorem Tryz.st64 : sliceElT Tryz.prog 64 = some 193 := by kernel_rfl
@[push_cast] theorem Tryz.st65 : sliceElT Tryz.prog 65 = some 195 := by kernel_rfl
@[push_cast] theorem Tryz.st66 : sliceElT Tryz.prog 66 = some 197 := by kernel_rfl
@[push_cast] theorem Tryz.st74 : sliceElT Tryz.prog 74 = some 70 := by kernel_rfl
@[push_cast] theorem Tryz.st77 : sliceElT Tryz.prog 77 = some 144 := by kernel_rfl
@[push_cast] theorem Tryz.st82 : sliceElT Tryz.prog 82 = some 9 := by kernel_rfl
@[push_cast] theorem Tryz.ty104 : tyOf Tryz.prog 104 = some (false, 1) := by kernel_rfl
@[push_cast] theorem Tryz.ty106 : tyOf Tryz.prog 106 = some (true, 5) := by kernel_rfl
@[push_cast] theorem Tryz.ty113 : tyOf Tryz.prog 113 = some (true, 2) := by kernel_rfl
@[push_cast] theorem Tryz.ty123 : tyOf Tryz.prog 123 = some (true, 7) := by kernel_rfl
@[push_cast] theorem Tryz.ty125 : tyOf Tryz.prog 125 = some (false, 1) := by kernel_rfl
@[push_cast] theorem Tryz.ty127 : tyOf Tryz.prog 127 = some (true, 5) := by kernel_rfl
@[push_cast] theorem Tryz.ty133 : tyOf Tryz.prog 133 = some (true, 2) := by kernel_rfl
@[push_cast] theorem Tryz.ty135 : tyOf Tryz.prog 135 = some (true, 3) := by kernel_rfl
@[push_cast] theorem Tryz.ty144 : tyOf Tryz.prog 144 = some (true, 3) := by kernel_rfl
@[push_cast] theorem Tryz.ty164 : tyOf Tryz.prog 164 = some (false, 1) := by kernel_rfl
@[push_cast] theorem Tryz.ty166 : tyOf Tryz.prog 166 = some (true, 2) := by kernel_rfl
@[push_cast] theorem Tryz.ty182 : tyOf Tryz.prog 182 = some (true, 2) := by kernel_rfl
@[push_cast] theorem Tryz.ty189 : tyOf Tryz.prog 189 = some (false, 1) := by kernel_rfl
@[push_cast] theorem Tryz.ty191 : tyOf Tryz.prog 191 = some (false, 1) := by kernel_rfl
@[push_cast] theorem Tryz.ty193 : tyOf Tryz.prog 193 = some (false, 1) := by kernel_rfl
@[push_cast] theorem Tryz.ty195 : tyOf Tryz.prog 195 = some (false, 1) := by kernel_rfl
@[push_cast] theorem Tryz.ty197 : tyOf Tryz.prog 197 = some (false, 1) := by kernel_rfl
@[push_cast] theorem Tryz.ty200 : tyOf Tryz.prog 200 = some (true, 4) := by kernel_rfl
@[push_cast] theorem Tryz.ty205 : tyOf Tryz.prog 205 = some (true, 2) := by kernel_rfl
@[push_cast] theorem Tryz.ty208 : tyOf Tryz.prog 208 = some (true, 3) := by kernel_rfl
@[push_cast] theorem Tryz.ty211 : tyOf Tryz.prog 211 = some (true, 3) := by kernel_rfl
@[push_cast] theorem Tryz.ty213 : tyOf Tryz.prog 213 = some (true, 2) := by kernel_rfl
@[push_cast] theorem Tryz.ty22 : tyOf Tryz.prog 22 = some (false, 1) := by kernel_rfl
@[push_cast] theorem Tryz.ty221 : tyOf Tryz.prog 221 = some (true, 2) := by kernel_rfl
@[push_cast] theorem Tryz.ty224 : tyOf Tryz.prog 224 = some (true, 2) := by kernel_rfl
@[push_cast] theorem Tryz.ty248 : tyOf Tryz.prog 248 = some (false, 1) := by kernel_rfl
@[push_cast] theorem Tryz.ty25 : tyOf Tryz.prog 25 = some (false, 1) := by kernel_rfl
@[push_cast] theorem Tryz.ty254 : tyOf Tryz.prog 254 = some (true, 4) := by kernel_rfl
@[push_cast] theorem Tryz.ty28 : tyOf Tryz.prog 28 = some (false, 1) := by kernel_rfl
@[push_cast] theorem Tryz.ty3 : tyOf Tryz.prog 3 = some (false, 1) := by kernel_rfl
@[push_cast] theorem Tryz.ty32 : tyOf Tryz.prog 32 = some (true, 3) := by kernel_rfl
@[push_cast] theorem Tryz.ty34 : tyOf Tryz.prog 34 = some (false, 1) := by kernel_rfl
@[push_cast] theorem Tryz.ty38 : tyOf Tryz.prog 38 = some (false, 1) := by kernel_rfl
@[push_cast] theorem Tryz.ty4 : tyOf Tryz.prog 4 = some (false, 1) := by kernel_rfl
@[push_cast] theorem Tryz.ty47 : tyOf Tryz.prog 47 = some (false, 1) := by kernel_rfl
@[push_cast] theorem Tryz.ty5 : tyOf Tryz.prog 5 = some (false, 1) := by kernel_rfl
@[push_cast] theorem Tryz.ty51 : tyOf Tryz.prog 51 = some (false, 1) := by kernel_rfl
@[push_cast] theorem Tryz.ty54 : tyOf Tryz.prog 54 = some (false, 1) := by kernel_rfl
@[push_cast] theorem Tryz.ty60 : tyOf Tryz.prog 60 = some (false, 1) := by kernel_rfl
@[push_cast] theorem Tryz.ty61 : tyOf Tryz.prog 61 = some (false, 1) := by kernel_rfl
@[push_cast] theorem Tryz.ty62 : tyOf Tryz.prog 62 = some (false, 1) := by kernel_rfl
@[push_cast] theorem Tryz.ty63 : tyOf Tryz.prog 63 = some (false, 1) := by kernel_rfl
@[push_cast] theorem Tryz.ty64 : tyOf Tryz.prog 64 = some (false, 1) := by kernel_rfl
@[push_cast] theorem Tryz.ty65 : tyOf Tryz.prog 65 = some (false, 1) := by kernel_rfl
@[push_cast] theorem Tryz.ty66 : tyOf Tryz.prog 66 = some (false, 1) := by kernel_rfl
@[push_cast] theorem Tryz.ty68 : tyOf Tryz.prog 68 = some (true, 14) := by kernel_rfl
@[push_cast] theorem Tryz.ty70 : tyOf Tryz.prog 70 = some (true, 4) := by kernel_rfl
@[push_cast] theorem Tryz.ty82 : tyOf Tryz.prog 82 = some (false, 1) := by kernel_rfl
@[push_cast] theorem Tryz.ty83 : tyOf Tryz.prog 83 = some (false, 1) := by kernel_rfl
@[push_cast] theorem Tryz.ty84 : tyOf Tryz.prog 84 = some (true, 64) := by kernel_rfl
@[push_cast] theorem Tryz.ty86 : tyOf Tryz.prog 86 = some (true, 70) := by kernel_rfl
@[push_cast] theorem Tryz.ty88 : tyOf Tryz.prog 88 = some (false, 1) := by kernel_rfl
@[push_cast] theorem Tryz.ty9 : tyOf Tryz.prog 9 = some (false, 1) := by kernel_rfl
@[push_cast] theorem Tryz.ty90 : tyOf Tryz.prog 90 = some (true, 5) := by kernel_rfl
@[push_cast] theorem Tryz.us121 : (Tryz.prog.underlying 121).isSome = true := by kernel_rfl
@[push_cast] theorem Tryz.us164 : (Tryz.prog.underlying 164).isSome = true := by kernel_rfl
@[push_cast] theorem Tryz.us214 : (Tryz.prog.underlying 214).isSome = true := by kernel_rfl
@[push_cast] theorem Tryz.us241 : (Tryz.prog.underlying 241).isSome = true := by kernel_rfl
@[push_cast] theorem Tryz.us3 : (Tryz.prog.underlying 3).isSome = true := by kernel_rfl
@[push_cast] theorem Tryz.us5 : (Tryz.prog.underlying 5).isSome = true := by kernel_rfl
@[push_cast] theorem Tryz.us51 : (Tryz.prog.underlying 51).isSome = true := by kernel_rfl
@[push_cast] theorem Tryz.us83 : (Tryz.prog.underlying 83).isSome = true := by kernel_rfl
@[push_cast] theorem Tryz.ze113 : zeroOf Tryz.prog 113 = some (.agg #[(.int .i64 0), (.slice none 0 0)]) := by kernel_rfl
@[push_cast] theorem Tryz.ze135 : zeroOf Tryz.prog 135 = some (.agg #[(.int .i64 0), (.int .i64 0), (.slice none 0 0)]) := by kernel_rfl
@[push_cast] theorem Tryz.ze144 : zeroOf Tryz.prog 144 = some (.agg #[(.int .i64 0), (.string .empty), (.bool false)]) := by kernel_rfl
@[push_cast] theorem Tryz.ze166 : zeroOf Tryz.prog 166 = some (.agg #[(.pointer none), (.slice none 0 0)]) := by kernel_rfl
@[push_cast] theorem Tryz.ze182 : zeroOf Tryz.prog 182 = some (.agg #[(.int .i64 0), (.string .empty)]) := by kernel_rfl
@[push_cast] theorem Tryz.ze189 : zeroOf Tryz.prog 189 = some (.slice none 0 0) := by kernel_rfl
@[push_cast] theorem Tryz.ze191 : zeroOf Tryz.prog 191 = some (.slice none 0 0) := by kernel_rfl
@[push_cast] theorem Tryz.ze193 : zeroOf Tryz.prog 193 = some (.slice none 0 0) := by kernel_rfl
@[push_cast] theorem Tryz.ze195 : zeroOf Tryz.prog 195 = some (.slice none 0 0) := by kernel_rfl
@[push_cast] theorem Tryz.ze197 : zeroOf Tryz.prog 197 = some (.slice none 0 0) := by kernel_rfl
@[push_cast] theorem Tryz.ze200 : zeroOf Tryz.prog 200 = some (.agg #[(.int .i64 0), (.int .i64 0), (.int .i64 0), (.slice none 0 0)]) := by kernel_rfl
@[push_cast] theorem Tryz.ze205 : zeroOf Tryz.prog 205 = some (.agg #[(.int .i64 0), (.int .i64 0)]) := by kernel_rfl
@[push_cast] theorem Tryz.ze208 : zeroOf Tryz.prog 208 = some (.agg #[(.int .i64 0), (.int .i64 0), (.int .i64 0)]) := by kernel_rfl
@[push_cast] theorem Tryz.ze211 : zeroOf Tryz.prog 211 = some (.agg #[(.int .i64 0), (.int .i64 0), (.string .empty)]) := by kernel_rfl
@[push_cast] theorem Tryz.ze213 : zeroOf Tryz.prog 213 = some (.agg #[(.int .i64 0), (.int .i64 0)]) := by kernel_rfl
@[push_cast] theorem Tryz.ze224 : zeroOf Tryz.prog 224 = some (.agg #[(.slice none 0 0), (.int .i64 0)]) := by kernel_rfl
@[push_cast] theorem Tryz.ze248 : zeroOf Tryz.prog 248 = some (.int .u64 0) := by kernel_rfl
@[push_cast] theorem Tryz.ze254 : zeroOf Tryz.prog 254 = some (.agg #[(.int .u8 0), (.int .u8 0), (.int .u8 0), (.int .u8 0)]) := by kernel_rfl
@[push_cast] theorem Tryz.ze3 : zeroOf Tryz.prog 3 = some (.int .i64 0) := by kernel_rfl
@[push_cast] theorem Tryz.ze32 : zeroOf Tryz.prog 32 = some (.agg #[(.int .i64 0), (.string .empty), (.bool false)]) := by kernel_rfl
@[push_cast] theorem Tryz.ze34 : zeroOf Tryz.prog 34 = some (.slice none 0 0) := by kernel_rfl
@[push_cast] theorem Tryz.ze4 : zeroOf Tryz.prog 4 = some (.bool false) := by kernel_rfl
@[push_cast] theorem Tryz.ze5 : zeroOf Tryz.prog 5 = some (.int .u8 0) := by kernel_rfl
@[push_cast] theorem Tryz.ze70 : zeroOf Tryz.prog 70 = some (.agg #[(.int .i64 0), (.int .i64 0), (.string .empty), (.slice none 0 0)]) := by kernel_rfl
@[push_cast] theorem Tryz.ze82 : zeroOf Tryz.prog 82 = some (.slice none 0 0) := by kernel_rfl
@[push_cast] theorem Tryz.ze9 : zeroOf Tryz.prog 9 = some (.string .empty) := by kernel_rfl
@[push_cast] theorem Tryz.zs135 : (zeroOf Tryz.prog 135).isSome = true := by kernel_rfl
@[push_cast] theorem Tryz.zs144 : (zeroOf Tryz.prog 144).isSome = true := by kernel_rfl
@[push_cast] theorem Tryz.zs182 : (zeroOf Tryz.prog 182).isSome = true := by kernel_rfl
@[push_cast] theorem Tryz.zs189 : (zeroOf Tryz.prog 189).isSome = true := by kernel_rfl
@[push_cast] theorem Tryz.zs191 : (zeroOf Tryz.prog 191).isSome = true := by kernel_rfl
@[push_cast] theorem Tryz.zs193 : (zeroOf Tryz.prog 193).isSome = true := by kernel_rfl
@[push_cast] theorem Tryz.zs195 : (zeroOf Tryz.prog 195).isSome = true := by kernel_rfl
@[push_cast] theorem Tryz.zs197 : (zeroOf Tryz.prog 197).isSome = true := by kernel_rfl
@[push_cast] theorem Tryz.zs200 : (zeroOf Tryz.prog 200).isSome = true := by kernel_rfl
@[push_cast] theorem Tryz.zs205 : (zeroOf Tryz.prog 205).isSome = true := by kernel_rfl
@[push_cast] theorem Tryz.zs208 : (zeroOf Tryz.prog 208).isSome = true := by kernel_rfl
@[push_cast] theorem Tryz.zs211 : (zeroOf Tryz.prog 211).isSome = true := by kernel_rfl
@[push_cast] theorem Tryz.zs213 : (zeroOf Tryz.prog 213).isSome = true := by kernel_rfl
@[push_cast] theorem Tryz.zs3 : (zeroOf Tryz.prog 3).isSome = true := by kernel_rfl
@[push_cast] theorem Tryz.zs32 : (zeroOf Tryz.prog 32).isSome = true := by kernel_rfl
@[push_cast] theorem Tryz.zs34 : (zeroOf Tryz.prog 34).isSome = true := by kernel_rfl
@[push_cast] theorem Tryz.zs4 : (zeroOf Tryz.prog 4).isSome = true := by kernel_rfl
@[push_cast] theorem Tryz.zs5 : (zeroOf Tryz.prog 5).isSome = true := by kernel_rfl
@[push_cast] theorem Tryz.zs70 : (zeroOf Tryz.prog 70).isSome = true := by kernel_rfl
@[push_cast] theorem Tryz.zs82 : (zeroOf Tryz.prog 82).isSome = true := by kernel_rfl
@[push_cast] theorem Tryz.zs9 : (zeroOf Tryz.prog 9).isSome = true := by kernel_rfl
theorem Tryz.bu106_0_1_4R {x0a : Option Addr} {x0n x0c : Nat} {x1 : Option Nat} {x4 : Bool} (w : World) : (Instr.build 106 #[(0, (.slice x0a x0n x0c)), (1, (.map x1)), (4, (.bool x4))]).run Tryz.prog w = .ok (.agg #[.slice x0a x0n x0c, .map x1, (.slice none 0 0), (.slice none 0 0), .bool x4]) w := by kernel_rfl
@[push_cast] theorem Tryz.bu106_0_1_4 {x0a : Option Addr} {x0n x0c : Nat} {x1 : Option Nat} {x4 : Bool} {K : Value → Prop} : TakeP Tryz.prog (Instr.build 106 #[(0, (.slice x0a x0n x0c)), (1, (.map x1)), (4, (.bool x4))]) K = K (.agg #[.slice x0a x0n x0c, .map x1, (.slice none 0 0), (.slice none 0 0), .bool x4]) := takeP_pure (fun w => Tryz.bu106_0_1_4R w)
theorem Tryz.bu113_0R {x0 : Int} (w : World) : (Instr.build 113 #[(0, (.int .i64 x0))]).run Tryz.prog w = .ok (.agg #[.int .i64 x0, (.slice none 0 0)]) w := by kernel_rfl
@[push_cast] theorem Tryz.bu113_0 {x0 : Int} {K : Value → Prop} : TakeP Tryz.prog (Instr.build 113 #[(0, (.int .i64 x0))]) K = K (.agg #[.int .i64 x0, (.slice none 0 0)]) := takeP_pure (fun w => Tryz.bu113_0R w)
theorem Tryz.bu113_0_1R {x0 : Int} {x1a : Option Addr} {x1n x1c : Nat} (w : World) : (Instr.build 113 #[(0, (.int .i64 x0)), (1, (.slice x1a x1n x1c))]).run Tryz.prog w = .ok (.agg #[.int .i64 x0, .slice x1a x1n x1c]) w := by kernel_rfl
@[push_cast] theorem Tryz.bu113_0_1 {x0 : Int} {x1a : Option Addr} {x1n x1c : Nat} {K : Value → Prop} : TakeP Tryz.prog (Instr.build 113 #[(0, (.int .i64 x0)), (1, (.slice x1a x1n x1c))]) K = K (.agg #[.int .i64 x0, .slice x1a x1n x1c]) := takeP_pure (fun w => Tryz.bu113_0_1R w)
theorem Tryz.bu123_2R {x2a : Option Addr} {x2n x2c : Nat} (w : World) : (Instr.build 123 #[(2, (.slice x2a x2n x2c))]).run Tryz.prog w = .ok (.agg #[(.slice none 0 0), (.slice none 0 0), .slice x2a x2n x2c, (.bool false), (.bool false), (.int .i64 0), (.slice none 0 0)]) w := by kernel_rfl
@[push_cast] theorem Tryz.bu123_2 {x2a : Option Addr} {x2n x2c : Nat} {K : Value → Prop} : TakeP Tryz.prog (Instr.build 123 #[(2, (.slice x2a x2n x2c))]) K = K (.agg #[(.slice none 0 0), (.slice none 0 0), .slice x2a x2n x2c, (.bool false), (.bool false), (.int .i64 0), (.slice none 0 0)]) := takeP_pure (fun w => Tryz.bu123_2R w)
theorem Tryz.bu127_0R {x0 : Option Addr} (w : World) : (Instr.build 127 #[(0, (.pointer x0))]).run Tryz.prog w = .ok (.agg #[.pointer x0, (.int .i64 0), (.slice none 0 0), (.slice none 0 0), (.bool false)]) w := by kernel_rfl
@[push_cast] theorem Tryz.bu127_0 {x0 : Option Addr} {K : Value → Prop} : TakeP Tryz.prog (Instr.build 127 #[(0, (.pointer x0))]) K = K (.agg #[.pointer x0, (.int .i64 0), (.slice none 0 0), (.slice none 0 0), (.bool false)]) := takeP_pure (fun w => Tryz.bu127_0R w)
theorem Tryz.bu133_0R {x0 : ByteArray} (w : World) : (Instr.build 133 #[(0, (.string x0))]).run Tryz.prog w = .ok (.agg #[.string x0, (.bool false)]) w := by kernel_rfl
@[push_cast] theorem Tryz.bu133_0 {x0 : ByteArray} {K : Value → Prop} : TakeP Tryz.prog (Instr.build 133 #[(0, (.string x0))]) K = K (.agg #[.string x0, (.bool false)]) := takeP_pure (fun w => Tryz.bu133_0R w)
theorem Tryz.bu135_0R {x0 : Int} (w : World) : (Instr.build 135 #[(0, (.int .i64 x0))]).run Tryz.prog w = .ok (.agg #[.int .i64 x0, (.int .i64 0), (.slice none 0 0)]) w := by kernel_rfl
@[push_cast] theorem Tryz.bu135_0 {x0 : Int} {K : Value → Prop} : TakeP Tryz.prog (Instr.build 135 #[(0, (.int .i64 x0))]) K = K (.agg #[.int .i64 x0, (.int .i64 0), (.slice none 0 0)]) := takeP_pure (fun w => Tryz.bu135_0R w)
theorem Tryz.bu135_0_1R {x0 : Int} {x1 : Int} (w : World) : (Instr.build 135 #[(0, (.int .i64 x0)), (1, (.int .i64 x1))]).run Tryz.prog w = .ok (.agg #[.int .i64 x0, .int .i64 x1, (.slice none 0 0)]) w := by kernel_rfl
@[push_cast] theorem Tryz.bu135_0_1 {x0 : Int} {x1 : Int} {K : Value → Prop} : TakeP Tryz.prog (Instr.build 135 #[(0, (.int .i64 x0)), (1, (.int .i64 x1))]) K = K (.agg #[.int .i64 x0, .int .i64 x1, (.slice none 0 0)]) := takeP_pure (fun w => Tryz.bu135_0_1R w)
theorem Tryz.bu144_0_1_2R {x0 : Int} {x1 : ByteArray} {x2 : Bool} (w : World) : (Instr.build 144 #[(0, (.int .i64 x0)), (1, (.string x1)), (2, (.bool x2))]).run Tryz.prog w = .ok (.agg #[.int .i64 x0, .string x1, .bool x2]) w := by kernel_rfl
@[push_cast] theorem Tryz.bu144_0_1_2 {x0 : Int} {x1 : ByteArray} {x2 : Bool} {K : Value → Prop} : TakeP Tryz.prog (Instr.build 144 #[(0, (.int .i64 x0)), (1, (.string x1)), (2, (.bool x2))]) K = K (.agg #[.int .i64 x0, .string x1, .bool x2]) := takeP_pure (fun w => Tryz.bu144_0_1_2R w)
theorem Tryz.bu182_0_1R {x0 : Int} {x1 : ByteArray} (w : World) : (Instr.build 182 #[(0, (.int .i64 x0)), (1, (.string x1))]).run Tryz.prog w = .ok (.agg #[.int .i64 x0, .string x1]) w := by kernel_rfl
@[push_cast] theorem Tryz.bu182_0_1 {x0 : Int} {x1 : ByteArray} {K : Value → Prop} : TakeP Tryz.prog (Instr.build 182 #[(0, (.int .i64 x0)), (1, (.string x1))]) K = K (.agg #[.int .i64 x0, .string x1]) := takeP_pure (fun w => Tryz.bu182_0_1R w)
theorem Tryz.bu200_0R {x0 : Int} (w : World) : (Instr.build 200 #[(0, (.int .i64 x0))]).run Tryz.prog w = .ok (.agg #[.int .i64 x0, (.int .i64 0), (.int .i64 0), (.slice none 0 0)]) w := by kernel_rfl
@[push_cast] theorem Tryz.bu200_0 {x0 : Int} {K : Value → Prop} : TakeP Tryz.prog (Instr.build 200 #[(0, (.int .i64 x0))]) K = K (.agg #[.int .i64 x0, (.int .i64 0), (.int .i64 0), (.slice none 0 0)]) := takeP_pure (fun w => Tryz.bu200_0R w)
theorem Tryz.bu205_0R {x0 : Int} (w : World) : (Instr.build 205 #[(0, (.int .i64 x0))]).run Tryz.prog w = .ok (.agg #[.int .i64 x0, (.int .i64 0)]) w := by kernel_rfl
@[push_cast] theorem Tryz.bu205_0 {x0 : Int} {K : Value → Prop} : TakeP Tryz.prog (Instr.build 205 #[(0, (.int .i64 x0))]) K = K (.agg #[.int .i64 x0, (.int .i64 0)]) := takeP_pure (fun w => Tryz.bu205_0R w)
theorem Tryz.bu208_0R {x0 : Int} (w : World) : (Instr.build 208 #[(0, (.int .i64 x0))]).run Tryz.prog w = .ok (.agg #[.int .i64 x0, (.int .i64 0), (.int .i64 0)]) w := by kernel_rfl
@[push_cast] theorem Tryz.bu208_0 {x0 : Int} {K : Value → Prop} : TakeP Tryz.prog (Instr.build 208 #[(0, (.int .i64 x0))]) K = K (.agg #[.int .i64 x0, (.int .i64 0), (.int .i64 0)]) := takeP_pure (fun w => Tryz.bu208_0R w)
theorem Tryz.bu211_0R {x0 : Int} (w : World) : (Instr.build 211 #[(0, (.int .i64 x0))]).run Tryz.prog w = .ok (.agg #[.int .i64 x0, (.int .i64 0), (.string .empty)]) w := by kernel_rfl
@[push_cast] theorem Tryz.bu211_0 {x0 : Int} {K : Value → Prop} : TakeP Tryz.prog (Instr.build 211 #[(0, (.int .i64 x0))]) K = K (.agg #[.int .i64 x0, (.int .i64 0), (.string .empty)]) := takeP_pure (fun w => Tryz.bu211_0R w)
theorem Tryz.bu221_0R {x0 : ByteArray} (w : World) : (Instr.build 221 #[(0, (.string x0))]).run Tryz.prog w = .ok (.agg #[.string x0, (.bool false)]) w := by kernel_rfl
@[push_cast] theorem Tryz.bu221_0 {x0 : ByteArray} {K : Value → Prop} : TakeP Tryz.prog (Instr.build 221 #[(0, (.string x0))]) K = K (.agg #[.string x0, (.bool false)]) := takeP_pure (fun w => Tryz.bu221_0R w)
theorem Tryz.bu32_0_1R {x0 : Int} {x1 : ByteArray} (w : World) : (Instr.build 32 #[(0, (.int .i64 x0)), (1, (.string x1))]).run Tryz.prog w = .ok (.agg #[.int .i64 x0, .string x1, (.bool false)]) w := by kernel_rfl
@[push_cast] theorem Tryz.bu32_0_1 {x0 : Int} {x1 : ByteArray} {K : Value → Prop} : TakeP Tryz.prog (Instr.build 32 #[(0, (.int .i64 x0)), (1, (.string x1))]) K = K (.agg #[.int .i64 x0, .string x1, (.bool false)]) := takeP_pure (fun w => Tryz.bu32_0_1R w)
theorem Tryz.bu32_0_2R {x0 : Int} {x2 : Bool} (w : World) : (Instr.build 32 #[(0, (.int .i64 x0)), (2, (.bool x2))]).run Tryz.prog w = .ok (.agg #[.int .i64 x0, (.string .empty), .bool x2]) w := by kernel_rfl
@[push_cast] theorem Tryz.bu32_0_2 {x0 : Int} {x2 : Bool} {K : Value → Prop} : TakeP Tryz.prog (Instr.build 32 #[(0, (.int .i64 x0)), (2, (.bool x2))]) K = K (.agg #[.int .i64 x0, (.string .empty), .bool x2]) := takeP_pure (fun w => Tryz.bu32_0_2R w)
theorem Tryz.bu68_R  (w : World) : (Instr.build 68 #[]).run Tryz.prog w = .ok (.agg #[(.slice none 0 0), (.slice none 0 0), (.slice none 0 0), (.slice none 0 0), (.slice none 0 0), (.slice none 0 0), (.slice none 0 0), (.slice none 0 0), (.slice none 0 0), (.slice none 0 0), (.slice none 0 0), (.slice none 0 0), (.slice none 0 0), (.slice none 0 0)]) w := by kernel_rfl
@[push_cast] theorem Tryz.bu68_  {K : Value → Prop} : TakeP Tryz.prog (Instr.build 68 #[]) K = K (.agg #[(.slice none 0 0), (.slice none 0 0), (.slice none 0 0), (.slice none 0 0), (.slice none 0 0), (.slice none 0 0), (.slice none 0 0), (.slice none 0 0), (.slice none 0 0), (.slice none 0 0), (.slice none 0 0), (.slice none 0 0), (.slice none 0 0), (.slice none 0 0)]) := takeP_pure (fun w => Tryz.bu68_R w)
theorem Tryz.bu86_0_1R {x0a : Option Addr} {x0n x0c : Nat} {x1 : Option Nat} (w : World) : (Instr.build 86 #[(0, (.slice x0a x0n x0c)), (1, (.map x1))]).run Tryz.prog w = .ok (.agg #[.slice x0a x0n x0c, .map x1, (.int .u64 0), (.int .u64 0), (.int .u64 0), (.int .u64 0), (.int .u64 0), (.int .u64 0), (.int .u64 0), (.int .u64 0), (.int .u64 0), (.int .u64 0), (.int .u64 0), (.int .u64 0), (.int .u64 0), (.int .u64 0), (.int .u64 0), (.int .u64 0), (.int .u64 0), (.int .u64 0), (.int .u64 0), (.int .u64 0), (.int .u64 0), (.int .u64 0), (.int .u64 0), (.int .u64 0), (.int .u64 0), (.int .u64 0), (.int .u64 0), (.int .u64 0), (.int .u64 0), (.int .u64 0), (.int .u64 0), (.int .u64 0), (.int .u64 0), (.int .u64 0), (.int .u64 0), (.int .u64 0), (.int .u64 0), (.int .u64 0), (.int .u64 0), (.int .u64 0), (.int .u64 0), (.int .u64 0), (.int .u64 0), (.int .u64 0), (.int .u64 0), (.int .u64 0), (.int .u64 0), (.int .u64 0), (.int .u64 0), (.int .u64 0), (.int .u64 0), (.int .u64 0), (.int .u64 0), (.int .u64 0), (.int .u64 0), (.int .u64 0), (.int .u64 0), (.int .u64 0), (.int .u64 0), (.int .u64 0), (.int .u64 0), (.int .u64 0), (.int .u64 0), (.int .u64 0), (.bool false), (.bool false), (.int .i64 0), (.slice none 0 0)]) w := by kernel_rfl
@[push_cast] theorem Tryz.bu86_0_1 {x0a : Option Addr} {x0n x0c : Nat} {x1 : Option Nat} {K : Value → Prop} : TakeP Tryz.prog (Instr.build 86 #[(0, (.slice x0a x0n x0c)), (1, (.map x1))]) K = K (.agg #[.slice x0a x0n x0c, .map x1, (.int .u64 0), (.int .u64 0), (.int .u64 0), (.int .u64 0), (.int .u64 0), (.int .u64 0), (.int .u64 0), (.int .u64 0), (.int .u64 0), (.int .u64 0), (.int .u64 0), (.int .u64 0), (.int .u64 0), (.int .u64 0), (.int .u64 0), (.int .u64 0), (.int .u64 0), (.int .u64 0), (.int .u64 0), (.int .u64 0), (.int .u64 0), (.int .u64 0), (.int .u64 0), (.int .u64 0), (.int .u64 0), (.int .u64 0), (.int .u64 0), (.int .u64 0), (.int .u64 0), (.int .u64 0), (.int .u64 0), (.int .u64 0), (.int .u64 0), (.int .u64 0), (.int .u64 0), (.int .u64 0), (.int .u64 0), (.int .u64 0), (.int .u64 0), (.int .u64 0), (.int .u64 0), (.int .u64 0), (.int .u64 0), (.int .u64 0), (.int .u64 0), (.int .u64 0), (.int .u64 0), (.int .u64 0), (.int .u64 0), (.int .u64 0), (.int .u64 0), (.int .u64 0), (.int .u64 0), (.int .u64 0), (.int .u64 0), (.int .u64 0), (.int .u64 0), (.int .u64 0), (.int .u64 0), (.int .u64 0), (.int .u64 0), (.int .u64 0), (.int .u64 0), (.int .u64 0), (.bool false), (.bool false), (.int .i64 0), (.slice none 0 0)]) := takeP_pure (fun w => Tryz.bu86_0_1R w)
theorem Tryz.bu90_0_3R {x0 : Option Addr} {x3 : Option Nat} (w : World) : (Instr.build 90 #[(0, (.pointer x0)), (3, (.map x3))]).run Tryz.prog w = .ok (.agg #[.pointer x0, (.int .i64 0), (.slice none 0 0), .map x3, (.bool false)]) w := by kernel_rfl
@[push_cast] theorem Tryz.bu90_0_3 {x0 : Option Addr} {x3 : Option Nat} {K : Value → Prop} : TakeP Tryz.prog (Instr.build 90 #[(0, (.pointer x0)), (3, (.map x3))]) K = K (.agg #[.pointer x0, (.int .i64 0), (.slice none 0 0), .map x3, (.bool false)]) := takeP_pure (fun w => Tryz.bu90_0_3R w)
end Go.Proofs
