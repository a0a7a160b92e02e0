/- The tables of this seat are its program's. (Printed by a program.) -/
import Derived.Test.YtiinagmombigpaaEvE
import Derived.Test.YtiinagmombigpaaEvT
import Derived.KernelRfl
set_option linter.unusedSimpArgs false
set_option linter.unusedVariables false
set_option linter.unnecessarySimpa false

/- The tables of this seat are its program's. (Printed by a program.) -/
namespace Go.Abs
/-- what stands in a table -/
def Tr.list {α : Type} : Tr α → (Nat → Nat) → List (Nat × α)
  | .nil, _ => []
  | .node v l r, f => (match v with | some x => [(f 0, x)] | none => []) ++ (l.list (fun m => f (2 * m + 1)) ++ r.list (fun m => f (2 * m + 2)))
theorem Tr.mem_list {α : Type} : ∀ (t : Tr α) (f : Nat → Nat) {n : Nat} {x : α}, t.get n = some x → (f n, x) ∈ t.list f
  | .nil, _, n, x, h => by simp [Tr.get] at h
  | .node v l r, f, 0, x, h => by
    simp only [Tr.get] at h
    subst h
    simp [Tr.list]
  | .node v l r, f, n + 1, x, h => by
    simp only [Tr.get] at h
    simp only [Tr.list, List.mem_append]
    right
    split at h
    · rename_i he
      left
      have := Tr.mem_list l (fun m => f (2 * m + 1)) h
      have e : 2 * (n / 2) + 1 = n + 1 := by omega
      simp only [e] at this
      exact this
    · rename_i he
      right
      have := Tr.mem_list r (fun m => f (2 * m + 2)) h
      have e : 2 * (n / 2) + 2 = n + 1 := by
        have h2 : n % 2 ≠ 0 := he
        omega
      simp only [e] at this
      exact this
namespace Tab
theorem T1_ok : mkTI Go.Proofs.Try.prog 1 = some T1 ∧ T1.good = true := ⟨by kernel_rfl, by kernel_rfl⟩
theorem T3_ok : mkTI Go.Proofs.Try.prog 3 = some T3 ∧ T3.good = true := ⟨by kernel_rfl, by kernel_rfl⟩
theorem T7_ok : mkTI Go.Proofs.Try.prog 7 = some T7 ∧ T7.good = true := ⟨by kernel_rfl, by kernel_rfl⟩
theorem T15_ok : mkTI Go.Proofs.Try.prog 15 = some T15 ∧ T15.good = true := ⟨by kernel_rfl, by kernel_rfl⟩
theorem T31_ok : mkTI Go.Proofs.Try.prog 31 = some T31 ∧ T31.good = true := ⟨by kernel_rfl, by kernel_rfl⟩
theorem T63_ok : mkTI Go.Proofs.Try.prog 63 = some T63 ∧ T63.good = true := ⟨by kernel_rfl, by kernel_rfl⟩
theorem T191_ok : mkTI Go.Proofs.Try.prog 191 = some T191 ∧ T191.good = true := ⟨by kernel_rfl, by kernel_rfl⟩
theorem T95_ok : mkTI Go.Proofs.Try.prog 95 = some T95 ∧ T95.good = true := ⟨by kernel_rfl, by kernel_rfl⟩
theorem T159_ok : mkTI Go.Proofs.Try.prog 159 = some T159 ∧ T159.good = true := ⟨by kernel_rfl, by kernel_rfl⟩
theorem T287_ok : mkTI Go.Proofs.Try.prog 287 = some T287 ∧ T287.good = true := ⟨by kernel_rfl, by kernel_rfl⟩
theorem T223_ok : mkTI Go.Proofs.Try.prog 223 = some T223 ∧ T223.good = true := ⟨by kernel_rfl, by kernel_rfl⟩
theorem T47_ok : mkTI Go.Proofs.Try.prog 47 = some T47 ∧ T47.good = true := ⟨by kernel_rfl, by kernel_rfl⟩
theorem T79_ok : mkTI Go.Proofs.Try.prog 79 = some T79 ∧ T79.good = true := ⟨by kernel_rfl, by kernel_rfl⟩
theorem T143_ok : mkTI Go.Proofs.Try.prog 143 = some T143 ∧ T143.good = true := ⟨by kernel_rfl, by kernel_rfl⟩
theorem T271_ok : mkTI Go.Proofs.Try.prog 271 = some T271 ∧ T271.good = true := ⟨by kernel_rfl, by kernel_rfl⟩
theorem T207_ok : mkTI Go.Proofs.Try.prog 207 = some T207 ∧ T207.good = true := ⟨by kernel_rfl, by kernel_rfl⟩
theorem T111_ok : mkTI Go.Proofs.Try.prog 111 = some T111 ∧ T111.good = true := ⟨by kernel_rfl, by kernel_rfl⟩
theorem T175_ok : mkTI Go.Proofs.Try.prog 175 = some T175 ∧ T175.good = true := ⟨by kernel_rfl, by kernel_rfl⟩
theorem T239_ok : mkTI Go.Proofs.Try.prog 239 = some T239 ∧ T239.good = true := ⟨by kernel_rfl, by kernel_rfl⟩
theorem T23_ok : mkTI Go.Proofs.Try.prog 23 = some T23 ∧ T23.good = true := ⟨by kernel_rfl, by kernel_rfl⟩
theorem T39_ok : mkTI Go.Proofs.Try.prog 39 = some T39 ∧ T39.good = true := ⟨by kernel_rfl, by kernel_rfl⟩
theorem T71_ok : mkTI Go.Proofs.Try.prog 71 = some T71 ∧ T71.good = true := ⟨by kernel_rfl, by kernel_rfl⟩
theorem T135_ok : mkTI Go.Proofs.Try.prog 135 = some T135 ∧ T135.good = true := ⟨by kernel_rfl, by kernel_rfl⟩
theorem T263_ok : mkTI Go.Proofs.Try.prog 263 = some T263 ∧ T263.good = true := ⟨by kernel_rfl, by kernel_rfl⟩
theorem T199_ok : mkTI Go.Proofs.Try.prog 199 = some T199 ∧ T199.good = true := ⟨by kernel_rfl, by kernel_rfl⟩
theorem T103_ok : mkTI Go.Proofs.Try.prog 103 = some T103 ∧ T103.good = true := ⟨by kernel_rfl, by kernel_rfl⟩
theorem T167_ok : mkTI Go.Proofs.Try.prog 167 = some T167 ∧ T167.good = true := ⟨by kernel_rfl, by kernel_rfl⟩
theorem T295_ok : mkTI Go.Proofs.Try.prog 295 = some T295 ∧ T295.good = true := ⟨by kernel_rfl, by kernel_rfl⟩
theorem T231_ok : mkTI Go.Proofs.Try.prog 231 = some T231 ∧ T231.good = true := ⟨by kernel_rfl, by kernel_rfl⟩
theorem T55_ok : mkTI Go.Proofs.Try.prog 55 = some T55 ∧ T55.good = true := ⟨by kernel_rfl, by kernel_rfl⟩
theorem T87_ok : mkTI Go.Proofs.Try.prog 87 = some T87 ∧ T87.good = true := ⟨by kernel_rfl, by kernel_rfl⟩
theorem T151_ok : mkTI Go.Proofs.Try.prog 151 = some T151 ∧ T151.good = true := ⟨by kernel_rfl, by kernel_rfl⟩
theorem T279_ok : mkTI Go.Proofs.Try.prog 279 = some T279 ∧ T279.good = true := ⟨by kernel_rfl, by kernel_rfl⟩
theorem T215_ok : mkTI Go.Proofs.Try.prog 215 = some T215 ∧ T215.good = true := ⟨by kernel_rfl, by kernel_rfl⟩
theorem T119_ok : mkTI Go.Proofs.Try.prog 119 = some T119 ∧ T119.good = true := ⟨by kernel_rfl, by kernel_rfl⟩
theorem T183_ok : mkTI Go.Proofs.Try.prog 183 = some T183 ∧ T183.good = true := ⟨by kernel_rfl, by kernel_rfl⟩
theorem T247_ok : mkTI Go.Proofs.Try.prog 247 = some T247 ∧ T247.good = true := ⟨by kernel_rfl, by kernel_rfl⟩
theorem T11_ok : mkTI Go.Proofs.Try.prog 11 = some T11 ∧ T11.good = true := ⟨by kernel_rfl, by kernel_rfl⟩
theorem T19_ok : mkTI Go.Proofs.Try.prog 19 = some T19 ∧ T19.good = true := ⟨by kernel_rfl, by kernel_rfl⟩
theorem T35_ok : mkTI Go.Proofs.Try.prog 35 = some T35 ∧ T35.good = true := ⟨by kernel_rfl, by kernel_rfl⟩
theorem T67_ok : mkTI Go.Proofs.Try.prog 67 = some T67 ∧ T67.good = true := ⟨by kernel_rfl, by kernel_rfl⟩
theorem T131_ok : mkTI Go.Proofs.Try.prog 131 = some T131 ∧ T131.good = true := ⟨by kernel_rfl, by kernel_rfl⟩
theorem T259_ok : mkTI Go.Proofs.Try.prog 259 = some T259 ∧ T259.good = true := ⟨by kernel_rfl, by kernel_rfl⟩
theorem T195_ok : mkTI Go.Proofs.Try.prog 195 = some T195 ∧ T195.good = true := ⟨by kernel_rfl, by kernel_rfl⟩
theorem T99_ok : mkTI Go.Proofs.Try.prog 99 = some T99 ∧ T99.good = true := ⟨by kernel_rfl, by kernel_rfl⟩
theorem T163_ok : mkTI Go.Proofs.Try.prog 163 = some T163 ∧ T163.good = true := ⟨by kernel_rfl, by kernel_rfl⟩
theorem T291_ok : mkTI Go.Proofs.Try.prog 291 = some T291 ∧ T291.good = true := ⟨by kernel_rfl, by kernel_rfl⟩
theorem T227_ok : mkTI Go.Proofs.Try.prog 227 = some T227 ∧ T227.good = true := ⟨by kernel_rfl, by kernel_rfl⟩
theorem T51_ok : mkTI Go.Proofs.Try.prog 51 = some T51 ∧ T51.good = true := ⟨by kernel_rfl, by kernel_rfl⟩
theorem T83_ok : mkTI Go.Proofs.Try.prog 83 = some T83 ∧ T83.good = true := ⟨by kernel_rfl, by kernel_rfl⟩
theorem T147_ok : mkTI Go.Proofs.Try.prog 147 = some T147 ∧ T147.good = true := ⟨by kernel_rfl, by kernel_rfl⟩
theorem T275_ok : mkTI Go.Proofs.Try.prog 275 = some T275 ∧ T275.good = true := ⟨by kernel_rfl, by kernel_rfl⟩
theorem T211_ok : mkTI Go.Proofs.Try.prog 211 = some T211 ∧ T211.good = true := ⟨by kernel_rfl, by kernel_rfl⟩
theorem T115_ok : mkTI Go.Proofs.Try.prog 115 = some T115 ∧ T115.good = true := ⟨by kernel_rfl, by kernel_rfl⟩
theorem T179_ok : mkTI Go.Proofs.Try.prog 179 = some T179 ∧ T179.good = true := ⟨by kernel_rfl, by kernel_rfl⟩
theorem T243_ok : mkTI Go.Proofs.Try.prog 243 = some T243 ∧ T243.good = true := ⟨by kernel_rfl, by kernel_rfl⟩
theorem T27_ok : mkTI Go.Proofs.Try.prog 27 = some T27 ∧ T27.good = true := ⟨by kernel_rfl, by kernel_rfl⟩
theorem T43_ok : mkTI Go.Proofs.Try.prog 43 = some T43 ∧ T43.good = true := ⟨by kernel_rfl, by kernel_rfl⟩
theorem T75_ok : mkTI Go.Proofs.Try.prog 75 = some T75 ∧ T75.good = true := ⟨by kernel_rfl, by kernel_rfl⟩
theorem T139_ok : mkTI Go.Proofs.Try.prog 139 = some T139 ∧ T139.good = true := ⟨by kernel_rfl, by kernel_rfl⟩
theorem T267_ok : mkTI Go.Proofs.Try.prog 267 = some T267 ∧ T267.good = true := ⟨by kernel_rfl, by kernel_rfl⟩
theorem T203_ok : mkTI Go.Proofs.Try.prog 203 = some T203 ∧ T203.good = true := ⟨by kernel_rfl, by kernel_rfl⟩
theorem T107_ok : mkTI Go.Proofs.Try.prog 107 = some T107 ∧ T107.good = true := ⟨by kernel_rfl, by kernel_rfl⟩
theorem T171_ok : mkTI Go.Proofs.Try.prog 171 = some T171 ∧ T171.good = true := ⟨by kernel_rfl, by kernel_rfl⟩
theorem T299_ok : mkTI Go.Proofs.Try.prog 299 = some T299 ∧ T299.good = true := ⟨by kernel_rfl, by kernel_rfl⟩
theorem T235_ok : mkTI Go.Proofs.Try.prog 235 = some T235 ∧ T235.good = true := ⟨by kernel_rfl, by kernel_rfl⟩
theorem T59_ok : mkTI Go.Proofs.Try.prog 59 = some T59 ∧ T59.good = true := ⟨by kernel_rfl, by kernel_rfl⟩
theorem T91_ok : mkTI Go.Proofs.Try.prog 91 = some T91 ∧ T91.good = true := ⟨by kernel_rfl, by kernel_rfl⟩
theorem T155_ok : mkTI Go.Proofs.Try.prog 155 = some T155 ∧ T155.good = true := ⟨by kernel_rfl, by kernel_rfl⟩
theorem T283_ok : mkTI Go.Proofs.Try.prog 283 = some T283 ∧ T283.good = true := ⟨by kernel_rfl, by kernel_rfl⟩
theorem T219_ok : mkTI Go.Proofs.Try.prog 219 = some T219 ∧ T219.good = true := ⟨by kernel_rfl, by kernel_rfl⟩
theorem T123_ok : mkTI Go.Proofs.Try.prog 123 = some T123 ∧ T123.good = true := ⟨by kernel_rfl, by kernel_rfl⟩
theorem T251_ok : mkTI Go.Proofs.Try.prog 251 = some T251 ∧ T251.good = true := ⟨by kernel_rfl, by kernel_rfl⟩
theorem T5_ok : mkTI Go.Proofs.Try.prog 5 = some T5 ∧ T5.good = true := ⟨by kernel_rfl, by kernel_rfl⟩
theorem T9_ok : mkTI Go.Proofs.Try.prog 9 = some T9 ∧ T9.good = true := ⟨by kernel_rfl, by kernel_rfl⟩
theorem T17_ok : mkTI Go.Proofs.Try.prog 17 = some T17 ∧ T17.good = true := ⟨by kernel_rfl, by kernel_rfl⟩
theorem T33_ok : mkTI Go.Proofs.Try.prog 33 = some T33 ∧ T33.good = true := ⟨by kernel_rfl, by kernel_rfl⟩
theorem T65_ok : mkTI Go.Proofs.Try.prog 65 = some T65 ∧ T65.good = true := ⟨by kernel_rfl, by kernel_rfl⟩
theorem T129_ok : mkTI Go.Proofs.Try.prog 129 = some T129 ∧ T129.good = true := ⟨by kernel_rfl, by kernel_rfl⟩
theorem T257_ok : mkTI Go.Proofs.Try.prog 257 = some T257 ∧ T257.good = true := ⟨by kernel_rfl, by kernel_rfl⟩
theorem T193_ok : mkTI Go.Proofs.Try.prog 193 = some T193 ∧ T193.good = true := ⟨by kernel_rfl, by kernel_rfl⟩
theorem T97_ok : mkTI Go.Proofs.Try.prog 97 = some T97 ∧ T97.good = true := ⟨by kernel_rfl, by kernel_rfl⟩
theorem T161_ok : mkTI Go.Proofs.Try.prog 161 = some T161 ∧ T161.good = true := ⟨by kernel_rfl, by kernel_rfl⟩
theorem T289_ok : mkTI Go.Proofs.Try.prog 289 = some T289 ∧ T289.good = true := ⟨by kernel_rfl, by kernel_rfl⟩
theorem T225_ok : mkTI Go.Proofs.Try.prog 225 = some T225 ∧ T225.good = true := ⟨by kernel_rfl, by kernel_rfl⟩
theorem T49_ok : mkTI Go.Proofs.Try.prog 49 = some T49 ∧ T49.good = true := ⟨by kernel_rfl, by kernel_rfl⟩
theorem T81_ok : mkTI Go.Proofs.Try.prog 81 = some T81 ∧ T81.good = true := ⟨by kernel_rfl, by kernel_rfl⟩
theorem T145_ok : mkTI Go.Proofs.Try.prog 145 = some T145 ∧ T145.good = true := ⟨by kernel_rfl, by kernel_rfl⟩
theorem T273_ok : mkTI Go.Proofs.Try.prog 273 = some T273 ∧ T273.good = true := ⟨by kernel_rfl, by kernel_rfl⟩
theorem T209_ok : mkTI Go.Proofs.Try.prog 209 = some T209 ∧ T209.good = true := ⟨by kernel_rfl, by kernel_rfl⟩
theorem T113_ok : mkTI Go.Proofs.Try.prog 113 = some T113 ∧ T113.good = true := ⟨by kernel_rfl, by kernel_rfl⟩
theorem T177_ok : mkTI Go.Proofs.Try.prog 177 = some T177 ∧ T177.good = true := ⟨by kernel_rfl, by kernel_rfl⟩
theorem T241_ok : mkTI Go.Proofs.Try.prog 241 = some T241 ∧ T241.good = true := ⟨by kernel_rfl, by kernel_rfl⟩
theorem T25_ok : mkTI Go.Proofs.Try.prog 25 = some T25 ∧ T25.good = true := ⟨by kernel_rfl, by kernel_rfl⟩
theorem T41_ok : mkTI Go.Proofs.Try.prog 41 = some T41 ∧ T41.good = true := ⟨by kernel_rfl, by kernel_rfl⟩
theorem T73_ok : mkTI Go.Proofs.Try.prog 73 = some T73 ∧ T73.good = true := ⟨by kernel_rfl, by kernel_rfl⟩
theorem T137_ok : mkTI Go.Proofs.Try.prog 137 = some T137 ∧ T137.good = true := ⟨by kernel_rfl, by kernel_rfl⟩
theorem T265_ok : mkTI Go.Proofs.Try.prog 265 = some T265 ∧ T265.good = true := ⟨by kernel_rfl, by kernel_rfl⟩
theorem T201_ok : mkTI Go.Proofs.Try.prog 201 = some T201 ∧ T201.good = true := ⟨by kernel_rfl, by kernel_rfl⟩
theorem T105_ok : mkTI Go.Proofs.Try.prog 105 = some T105 ∧ T105.good = true := ⟨by kernel_rfl, by kernel_rfl⟩
theorem T169_ok : mkTI Go.Proofs.Try.prog 169 = some T169 ∧ T169.good = true := ⟨by kernel_rfl, by kernel_rfl⟩
theorem T297_ok : mkTI Go.Proofs.Try.prog 297 = some T297 ∧ T297.good = true := ⟨by kernel_rfl, by kernel_rfl⟩
theorem T233_ok : mkTI Go.Proofs.Try.prog 233 = some T233 ∧ T233.good = true := ⟨by kernel_rfl, by kernel_rfl⟩
theorem T57_ok : mkTI Go.Proofs.Try.prog 57 = some T57 ∧ T57.good = true := ⟨by kernel_rfl, by kernel_rfl⟩
theorem T89_ok : mkTI Go.Proofs.Try.prog 89 = some T89 ∧ T89.good = true := ⟨by kernel_rfl, by kernel_rfl⟩
theorem T153_ok : mkTI Go.Proofs.Try.prog 153 = some T153 ∧ T153.good = true := ⟨by kernel_rfl, by kernel_rfl⟩
theorem T281_ok : mkTI Go.Proofs.Try.prog 281 = some T281 ∧ T281.good = true := ⟨by kernel_rfl, by kernel_rfl⟩
theorem T217_ok : mkTI Go.Proofs.Try.prog 217 = some T217 ∧ T217.good = true := ⟨by kernel_rfl, by kernel_rfl⟩
theorem T121_ok : mkTI Go.Proofs.Try.prog 121 = some T121 ∧ T121.good = true := ⟨by kernel_rfl, by kernel_rfl⟩
theorem T185_ok : mkTI Go.Proofs.Try.prog 185 = some T185 ∧ T185.good = true := ⟨by kernel_rfl, by kernel_rfl⟩
theorem T249_ok : mkTI Go.Proofs.Try.prog 249 = some T249 ∧ T249.good = true := ⟨by kernel_rfl, by kernel_rfl⟩
theorem T13_ok : mkTI Go.Proofs.Try.prog 13 = some T13 ∧ T13.good = true := ⟨by kernel_rfl, by kernel_rfl⟩
theorem T21_ok : mkTI Go.Proofs.Try.prog 21 = some T21 ∧ T21.good = true := ⟨by kernel_rfl, by kernel_rfl⟩
theorem T37_ok : mkTI Go.Proofs.Try.prog 37 = some T37 ∧ T37.good = true := ⟨by kernel_rfl, by kernel_rfl⟩
theorem T69_ok : mkTI Go.Proofs.Try.prog 69 = some T69 ∧ T69.good = true := ⟨by kernel_rfl, by kernel_rfl⟩
theorem T133_ok : mkTI Go.Proofs.Try.prog 133 = some T133 ∧ T133.good = true := ⟨by kernel_rfl, by kernel_rfl⟩
theorem T261_ok : mkTI Go.Proofs.Try.prog 261 = some T261 ∧ T261.good = true := ⟨by kernel_rfl, by kernel_rfl⟩
theorem T197_ok : mkTI Go.Proofs.Try.prog 197 = some T197 ∧ T197.good = true := ⟨by kernel_rfl, by kernel_rfl⟩
theorem T101_ok : mkTI Go.Proofs.Try.prog 101 = some T101 ∧ T101.good = true := ⟨by kernel_rfl, by kernel_rfl⟩
theorem T165_ok : mkTI Go.Proofs.Try.prog 165 = some T165 ∧ T165.good = true := ⟨by kernel_rfl, by kernel_rfl⟩
theorem T293_ok : mkTI Go.Proofs.Try.prog 293 = some T293 ∧ T293.good = true := ⟨by kernel_rfl, by kernel_rfl⟩
theorem T229_ok : mkTI Go.Proofs.Try.prog 229 = some T229 ∧ T229.good = true := ⟨by kernel_rfl, by kernel_rfl⟩
theorem T53_ok : mkTI Go.Proofs.Try.prog 53 = some T53 ∧ T53.good = true := ⟨by kernel_rfl, by kernel_rfl⟩
theorem T85_ok : mkTI Go.Proofs.Try.prog 85 = some T85 ∧ T85.good = true := ⟨by kernel_rfl, by kernel_rfl⟩
theorem T149_ok : mkTI Go.Proofs.Try.prog 149 = some T149 ∧ T149.good = true := ⟨by kernel_rfl, by kernel_rfl⟩
theorem T277_ok : mkTI Go.Proofs.Try.prog 277 = some T277 ∧ T277.good = true := ⟨by kernel_rfl, by kernel_rfl⟩
theorem T213_ok : mkTI Go.Proofs.Try.prog 213 = some T213 ∧ T213.good = true := ⟨by kernel_rfl, by kernel_rfl⟩
theorem T117_ok : mkTI Go.Proofs.Try.prog 117 = some T117 ∧ T117.good = true := ⟨by kernel_rfl, by kernel_rfl⟩
theorem T181_ok : mkTI Go.Proofs.Try.prog 181 = some T181 ∧ T181.good = true := ⟨by kernel_rfl, by kernel_rfl⟩
theorem T245_ok : mkTI Go.Proofs.Try.prog 245 = some T245 ∧ T245.good = true := ⟨by kernel_rfl, by kernel_rfl⟩
theorem T29_ok : mkTI Go.Proofs.Try.prog 29 = some T29 ∧ T29.good = true := ⟨by kernel_rfl, by kernel_rfl⟩
theorem T45_ok : mkTI Go.Proofs.Try.prog 45 = some T45 ∧ T45.good = true := ⟨by kernel_rfl, by kernel_rfl⟩
theorem T77_ok : mkTI Go.Proofs.Try.prog 77 = some T77 ∧ T77.good = true := ⟨by kernel_rfl, by kernel_rfl⟩
theorem T141_ok : mkTI Go.Proofs.Try.prog 141 = some T141 ∧ T141.good = true := ⟨by kernel_rfl, by kernel_rfl⟩
theorem T269_ok : mkTI Go.Proofs.Try.prog 269 = some T269 ∧ T269.good = true := ⟨by kernel_rfl, by kernel_rfl⟩
theorem T205_ok : mkTI Go.Proofs.Try.prog 205 = some T205 ∧ T205.good = true := ⟨by kernel_rfl, by kernel_rfl⟩
theorem T109_ok : mkTI Go.Proofs.Try.prog 109 = some T109 ∧ T109.good = true := ⟨by kernel_rfl, by kernel_rfl⟩
theorem T173_ok : mkTI Go.Proofs.Try.prog 173 = some T173 ∧ T173.good = true := ⟨by kernel_rfl, by kernel_rfl⟩
theorem T301_ok : mkTI Go.Proofs.Try.prog 301 = some T301 ∧ T301.good = true := ⟨by kernel_rfl, by kernel_rfl⟩
theorem T237_ok : mkTI Go.Proofs.Try.prog 237 = some T237 ∧ T237.good = true := ⟨by kernel_rfl, by kernel_rfl⟩
theorem T61_ok : mkTI Go.Proofs.Try.prog 61 = some T61 ∧ T61.good = true := ⟨by kernel_rfl, by kernel_rfl⟩
theorem T93_ok : mkTI Go.Proofs.Try.prog 93 = some T93 ∧ T93.good = true := ⟨by kernel_rfl, by kernel_rfl⟩
theorem T157_ok : mkTI Go.Proofs.Try.prog 157 = some T157 ∧ T157.good = true := ⟨by kernel_rfl, by kernel_rfl⟩
theorem T285_ok : mkTI Go.Proofs.Try.prog 285 = some T285 ∧ T285.good = true := ⟨by kernel_rfl, by kernel_rfl⟩
theorem T221_ok : mkTI Go.Proofs.Try.prog 221 = some T221 ∧ T221.good = true := ⟨by kernel_rfl, by kernel_rfl⟩
theorem T125_ok : mkTI Go.Proofs.Try.prog 125 = some T125 ∧ T125.good = true := ⟨by kernel_rfl, by kernel_rfl⟩
theorem T189_ok : mkTI Go.Proofs.Try.prog 189 = some T189 ∧ T189.good = true := ⟨by kernel_rfl, by kernel_rfl⟩
theorem T253_ok : mkTI Go.Proofs.Try.prog 253 = some T253 ∧ T253.good = true := ⟨by kernel_rfl, by kernel_rfl⟩
theorem T2_ok : mkTI Go.Proofs.Try.prog 2 = some T2 ∧ T2.good = true := ⟨by kernel_rfl, by kernel_rfl⟩
theorem T4_ok : mkTI Go.Proofs.Try.prog 4 = some T4 ∧ T4.good = true := ⟨by kernel_rfl, by kernel_rfl⟩
theorem T8_ok : mkTI Go.Proofs.Try.prog 8 = some T8 ∧ T8.good = true := ⟨by kernel_rfl, by kernel_rfl⟩
theorem T16_ok : mkTI Go.Proofs.Try.prog 16 = some T16 ∧ T16.good = true := ⟨by kernel_rfl, by kernel_rfl⟩
theorem T32_ok : mkTI Go.Proofs.Try.prog 32 = some T32 ∧ T32.good = true := ⟨by kernel_rfl, by kernel_rfl⟩
theorem T64_ok : mkTI Go.Proofs.Try.prog 64 = some T64 ∧ T64.good = true := ⟨by kernel_rfl, by kernel_rfl⟩
theorem T128_ok : mkTI Go.Proofs.Try.prog 128 = some T128 ∧ T128.good = true := ⟨by kernel_rfl, by kernel_rfl⟩
theorem T256_ok : mkTI Go.Proofs.Try.prog 256 = some T256 ∧ T256.good = true := ⟨by kernel_rfl, by kernel_rfl⟩
theorem T192_ok : mkTI Go.Proofs.Try.prog 192 = some T192 ∧ T192.good = true := ⟨by kernel_rfl, by kernel_rfl⟩
theorem T160_ok : mkTI Go.Proofs.Try.prog 160 = some T160 ∧ T160.good = true := ⟨by kernel_rfl, by kernel_rfl⟩
theorem T288_ok : mkTI Go.Proofs.Try.prog 288 = some T288 ∧ T288.good = true := ⟨by kernel_rfl, by kernel_rfl⟩
theorem T224_ok : mkTI Go.Proofs.Try.prog 224 = some T224 ∧ T224.good = true := ⟨by kernel_rfl, by kernel_rfl⟩
theorem T48_ok : mkTI Go.Proofs.Try.prog 48 = some T48 ∧ T48.good = true := ⟨by kernel_rfl, by kernel_rfl⟩
theorem T80_ok : mkTI Go.Proofs.Try.prog 80 = some T80 ∧ T80.good = true := ⟨by kernel_rfl, by kernel_rfl⟩
theorem T144_ok : mkTI Go.Proofs.Try.prog 144 = some T144 ∧ T144.good = true := ⟨by kernel_rfl, by kernel_rfl⟩
theorem T272_ok : mkTI Go.Proofs.Try.prog 272 = some T272 ∧ T272.good = true := ⟨by kernel_rfl, by kernel_rfl⟩
theorem T208_ok : mkTI Go.Proofs.Try.prog 208 = some T208 ∧ T208.good = true := ⟨by kernel_rfl, by kernel_rfl⟩
theorem T112_ok : mkTI Go.Proofs.Try.prog 112 = some T112 ∧ T112.good = true := ⟨by kernel_rfl, by kernel_rfl⟩
theorem T176_ok : mkTI Go.Proofs.Try.prog 176 = some T176 ∧ T176.good = true := ⟨by kernel_rfl, by kernel_rfl⟩
theorem T240_ok : mkTI Go.Proofs.Try.prog 240 = some T240 ∧ T240.good = true := ⟨by kernel_rfl, by kernel_rfl⟩
theorem T24_ok : mkTI Go.Proofs.Try.prog 24 = some T24 ∧ T24.good = true := ⟨by kernel_rfl, by kernel_rfl⟩
theorem T40_ok : mkTI Go.Proofs.Try.prog 40 = some T40 ∧ T40.good = true := ⟨by kernel_rfl, by kernel_rfl⟩
theorem T72_ok : mkTI Go.Proofs.Try.prog 72 = some T72 ∧ T72.good = true := ⟨by kernel_rfl, by kernel_rfl⟩
theorem T136_ok : mkTI Go.Proofs.Try.prog 136 = some T136 ∧ T136.good = true := ⟨by kernel_rfl, by kernel_rfl⟩
theorem T264_ok : mkTI Go.Proofs.Try.prog 264 = some T264 ∧ T264.good = true := ⟨by kernel_rfl, by kernel_rfl⟩
theorem T200_ok : mkTI Go.Proofs.Try.prog 200 = some T200 ∧ T200.good = true := ⟨by kernel_rfl, by kernel_rfl⟩
theorem T104_ok : mkTI Go.Proofs.Try.prog 104 = some T104 ∧ T104.good = true := ⟨by kernel_rfl, by kernel_rfl⟩
theorem T168_ok : mkTI Go.Proofs.Try.prog 168 = some T168 ∧ T168.good = true := ⟨by kernel_rfl, by kernel_rfl⟩
theorem T296_ok : mkTI Go.Proofs.Try.prog 296 = some T296 ∧ T296.good = true := ⟨by kernel_rfl, by kernel_rfl⟩
theorem T232_ok : mkTI Go.Proofs.Try.prog 232 = some T232 ∧ T232.good = true := ⟨by kernel_rfl, by kernel_rfl⟩
theorem T56_ok : mkTI Go.Proofs.Try.prog 56 = some T56 ∧ T56.good = true := ⟨by kernel_rfl, by kernel_rfl⟩
theorem T88_ok : mkTI Go.Proofs.Try.prog 88 = some T88 ∧ T88.good = true := ⟨by kernel_rfl, by kernel_rfl⟩
theorem T152_ok : mkTI Go.Proofs.Try.prog 152 = some T152 ∧ T152.good = true := ⟨by kernel_rfl, by kernel_rfl⟩
theorem T280_ok : mkTI Go.Proofs.Try.prog 280 = some T280 ∧ T280.good = true := ⟨by kernel_rfl, by kernel_rfl⟩
theorem T216_ok : mkTI Go.Proofs.Try.prog 216 = some T216 ∧ T216.good = true := ⟨by kernel_rfl, by kernel_rfl⟩
theorem T120_ok : mkTI Go.Proofs.Try.prog 120 = some T120 ∧ T120.good = true := ⟨by kernel_rfl, by kernel_rfl⟩
theorem T184_ok : mkTI Go.Proofs.Try.prog 184 = some T184 ∧ T184.good = true := ⟨by kernel_rfl, by kernel_rfl⟩
theorem T248_ok : mkTI Go.Proofs.Try.prog 248 = some T248 ∧ T248.good = true := ⟨by kernel_rfl, by kernel_rfl⟩
theorem T12_ok : mkTI Go.Proofs.Try.prog 12 = some T12 ∧ T12.good = true := ⟨by kernel_rfl, by kernel_rfl⟩
theorem T20_ok : mkTI Go.Proofs.Try.prog 20 = some T20 ∧ T20.good = true := ⟨by kernel_rfl, by kernel_rfl⟩
theorem T36_ok : mkTI Go.Proofs.Try.prog 36 = some T36 ∧ T36.good = true := ⟨by kernel_rfl, by kernel_rfl⟩
theorem T68_ok : mkTI Go.Proofs.Try.prog 68 = some T68 ∧ T68.good = true := ⟨by kernel_rfl, by kernel_rfl⟩
theorem T132_ok : mkTI Go.Proofs.Try.prog 132 = some T132 ∧ T132.good = true := ⟨by kernel_rfl, by kernel_rfl⟩
theorem T260_ok : mkTI Go.Proofs.Try.prog 260 = some T260 ∧ T260.good = true := ⟨by kernel_rfl, by kernel_rfl⟩
theorem T100_ok : mkTI Go.Proofs.Try.prog 100 = some T100 ∧ T100.good = true := ⟨by kernel_rfl, by kernel_rfl⟩
theorem T292_ok : mkTI Go.Proofs.Try.prog 292 = some T292 ∧ T292.good = true := ⟨by kernel_rfl, by kernel_rfl⟩
theorem T228_ok : mkTI Go.Proofs.Try.prog 228 = some T228 ∧ T228.good = true := ⟨by kernel_rfl, by kernel_rfl⟩
theorem T84_ok : mkTI Go.Proofs.Try.prog 84 = some T84 ∧ T84.good = true := ⟨by kernel_rfl, by kernel_rfl⟩
theorem T148_ok : mkTI Go.Proofs.Try.prog 148 = some T148 ∧ T148.good = true := ⟨by kernel_rfl, by kernel_rfl⟩
theorem T276_ok : mkTI Go.Proofs.Try.prog 276 = some T276 ∧ T276.good = true := ⟨by kernel_rfl, by kernel_rfl⟩
theorem T212_ok : mkTI Go.Proofs.Try.prog 212 = some T212 ∧ T212.good = true := ⟨by kernel_rfl, by kernel_rfl⟩
theorem T116_ok : mkTI Go.Proofs.Try.prog 116 = some T116 ∧ T116.good = true := ⟨by kernel_rfl, by kernel_rfl⟩
theorem T180_ok : mkTI Go.Proofs.Try.prog 180 = some T180 ∧ T180.good = true := ⟨by kernel_rfl, by kernel_rfl⟩
theorem T244_ok : mkTI Go.Proofs.Try.prog 244 = some T244 ∧ T244.good = true := ⟨by kernel_rfl, by kernel_rfl⟩
theorem T44_ok : mkTI Go.Proofs.Try.prog 44 = some T44 ∧ T44.good = true := ⟨by kernel_rfl, by kernel_rfl⟩
theorem T76_ok : mkTI Go.Proofs.Try.prog 76 = some T76 ∧ T76.good = true := ⟨by kernel_rfl, by kernel_rfl⟩
theorem T140_ok : mkTI Go.Proofs.Try.prog 140 = some T140 ∧ T140.good = true := ⟨by kernel_rfl, by kernel_rfl⟩
theorem T268_ok : mkTI Go.Proofs.Try.prog 268 = some T268 ∧ T268.good = true := ⟨by kernel_rfl, by kernel_rfl⟩
theorem T204_ok : mkTI Go.Proofs.Try.prog 204 = some T204 ∧ T204.good = true := ⟨by kernel_rfl, by kernel_rfl⟩
theorem T108_ok : mkTI Go.Proofs.Try.prog 108 = some T108 ∧ T108.good = true := ⟨by kernel_rfl, by kernel_rfl⟩
theorem T172_ok : mkTI Go.Proofs.Try.prog 172 = some T172 ∧ T172.good = true := ⟨by kernel_rfl, by kernel_rfl⟩
theorem T300_ok : mkTI Go.Proofs.Try.prog 300 = some T300 ∧ T300.good = true := ⟨by kernel_rfl, by kernel_rfl⟩
theorem T60_ok : mkTI Go.Proofs.Try.prog 60 = some T60 ∧ T60.good = true := ⟨by kernel_rfl, by kernel_rfl⟩
theorem T92_ok : mkTI Go.Proofs.Try.prog 92 = some T92 ∧ T92.good = true := ⟨by kernel_rfl, by kernel_rfl⟩
theorem T156_ok : mkTI Go.Proofs.Try.prog 156 = some T156 ∧ T156.good = true := ⟨by kernel_rfl, by kernel_rfl⟩
theorem T284_ok : mkTI Go.Proofs.Try.prog 284 = some T284 ∧ T284.good = true := ⟨by kernel_rfl, by kernel_rfl⟩
theorem T220_ok : mkTI Go.Proofs.Try.prog 220 = some T220 ∧ T220.good = true := ⟨by kernel_rfl, by kernel_rfl⟩
theorem T124_ok : mkTI Go.Proofs.Try.prog 124 = some T124 ∧ T124.good = true := ⟨by kernel_rfl, by kernel_rfl⟩
theorem T188_ok : mkTI Go.Proofs.Try.prog 188 = some T188 ∧ T188.good = true := ⟨by kernel_rfl, by kernel_rfl⟩
theorem T252_ok : mkTI Go.Proofs.Try.prog 252 = some T252 ∧ T252.good = true := ⟨by kernel_rfl, by kernel_rfl⟩
theorem T6_ok : mkTI Go.Proofs.Try.prog 6 = some T6 ∧ T6.good = true := ⟨by kernel_rfl, by kernel_rfl⟩
theorem T10_ok : mkTI Go.Proofs.Try.prog 10 = some T10 ∧ T10.good = true := ⟨by kernel_rfl, by kernel_rfl⟩
theorem T18_ok : mkTI Go.Proofs.Try.prog 18 = some T18 ∧ T18.good = true := ⟨by kernel_rfl, by kernel_rfl⟩
theorem T34_ok : mkTI Go.Proofs.Try.prog 34 = some T34 ∧ T34.good = true := ⟨by kernel_rfl, by kernel_rfl⟩
theorem T66_ok : mkTI Go.Proofs.Try.prog 66 = some T66 ∧ T66.good = true := ⟨by kernel_rfl, by kernel_rfl⟩
theorem T130_ok : mkTI Go.Proofs.Try.prog 130 = some T130 ∧ T130.good = true := ⟨by kernel_rfl, by kernel_rfl⟩
theorem T258_ok : mkTI Go.Proofs.Try.prog 258 = some T258 ∧ T258.good = true := ⟨by kernel_rfl, by kernel_rfl⟩
theorem T194_ok : mkTI Go.Proofs.Try.prog 194 = some T194 ∧ T194.good = true := ⟨by kernel_rfl, by kernel_rfl⟩
theorem T98_ok : mkTI Go.Proofs.Try.prog 98 = some T98 ∧ T98.good = true := ⟨by kernel_rfl, by kernel_rfl⟩
theorem T162_ok : mkTI Go.Proofs.Try.prog 162 = some T162 ∧ T162.good = true := ⟨by kernel_rfl, by kernel_rfl⟩
theorem T290_ok : mkTI Go.Proofs.Try.prog 290 = some T290 ∧ T290.good = true := ⟨by kernel_rfl, by kernel_rfl⟩
theorem T226_ok : mkTI Go.Proofs.Try.prog 226 = some T226 ∧ T226.good = true := ⟨by kernel_rfl, by kernel_rfl⟩
theorem T50_ok : mkTI Go.Proofs.Try.prog 50 = some T50 ∧ T50.good = true := ⟨by kernel_rfl, by kernel_rfl⟩
theorem T82_ok : mkTI Go.Proofs.Try.prog 82 = some T82 ∧ T82.good = true := ⟨by kernel_rfl, by kernel_rfl⟩
theorem T146_ok : mkTI Go.Proofs.Try.prog 146 = some T146 ∧ T146.good = true := ⟨by kernel_rfl, by kernel_rfl⟩
theorem T274_ok : mkTI Go.Proofs.Try.prog 274 = some T274 ∧ T274.good = true := ⟨by kernel_rfl, by kernel_rfl⟩
theorem T210_ok : mkTI Go.Proofs.Try.prog 210 = some T210 ∧ T210.good = true := ⟨by kernel_rfl, by kernel_rfl⟩
theorem T114_ok : mkTI Go.Proofs.Try.prog 114 = some T114 ∧ T114.good = true := ⟨by kernel_rfl, by kernel_rfl⟩
theorem T178_ok : mkTI Go.Proofs.Try.prog 178 = some T178 ∧ T178.good = true := ⟨by kernel_rfl, by kernel_rfl⟩
theorem T242_ok : mkTI Go.Proofs.Try.prog 242 = some T242 ∧ T242.good = true := ⟨by kernel_rfl, by kernel_rfl⟩
theorem T26_ok : mkTI Go.Proofs.Try.prog 26 = some T26 ∧ T26.good = true := ⟨by kernel_rfl, by kernel_rfl⟩
theorem T42_ok : mkTI Go.Proofs.Try.prog 42 = some T42 ∧ T42.good = true := ⟨by kernel_rfl, by kernel_rfl⟩
theorem T74_ok : mkTI Go.Proofs.Try.prog 74 = some T74 ∧ T74.good = true := ⟨by kernel_rfl, by kernel_rfl⟩
theorem T138_ok : mkTI Go.Proofs.Try.prog 138 = some T138 ∧ T138.good = true := ⟨by kernel_rfl, by kernel_rfl⟩
theorem T266_ok : mkTI Go.Proofs.Try.prog 266 = some T266 ∧ T266.good = true := ⟨by kernel_rfl, by kernel_rfl⟩
theorem T202_ok : mkTI Go.Proofs.Try.prog 202 = some T202 ∧ T202.good = true := ⟨by kernel_rfl, by kernel_rfl⟩
theorem T106_ok : mkTI Go.Proofs.Try.prog 106 = some T106 ∧ T106.good = true := ⟨by kernel_rfl, by kernel_rfl⟩
theorem T298_ok : mkTI Go.Proofs.Try.prog 298 = some T298 ∧ T298.good = true := ⟨by kernel_rfl, by kernel_rfl⟩
theorem T234_ok : mkTI Go.Proofs.Try.prog 234 = some T234 ∧ T234.good = true := ⟨by kernel_rfl, by kernel_rfl⟩
theorem T58_ok : mkTI Go.Proofs.Try.prog 58 = some T58 ∧ T58.good = true := ⟨by kernel_rfl, by kernel_rfl⟩
theorem T90_ok : mkTI Go.Proofs.Try.prog 90 = some T90 ∧ T90.good = true := ⟨by kernel_rfl, by kernel_rfl⟩
theorem T154_ok : mkTI Go.Proofs.Try.prog 154 = some T154 ∧ T154.good = true := ⟨by kernel_rfl, by kernel_rfl⟩
theorem T282_ok : mkTI Go.Proofs.Try.prog 282 = some T282 ∧ T282.good = true := ⟨by kernel_rfl, by kernel_rfl⟩
theorem T218_ok : mkTI Go.Proofs.Try.prog 218 = some T218 ∧ T218.good = true := ⟨by kernel_rfl, by kernel_rfl⟩
theorem T122_ok : mkTI Go.Proofs.Try.prog 122 = some T122 ∧ T122.good = true := ⟨by kernel_rfl, by kernel_rfl⟩
theorem T186_ok : mkTI Go.Proofs.Try.prog 186 = some T186 ∧ T186.good = true := ⟨by kernel_rfl, by kernel_rfl⟩
theorem T250_ok : mkTI Go.Proofs.Try.prog 250 = some T250 ∧ T250.good = true := ⟨by kernel_rfl, by kernel_rfl⟩
theorem T14_ok : mkTI Go.Proofs.Try.prog 14 = some T14 ∧ T14.good = true := ⟨by kernel_rfl, by kernel_rfl⟩
theorem T22_ok : mkTI Go.Proofs.Try.prog 22 = some T22 ∧ T22.good = true := ⟨by kernel_rfl, by kernel_rfl⟩
theorem T38_ok : mkTI Go.Proofs.Try.prog 38 = some T38 ∧ T38.good = true := ⟨by kernel_rfl, by kernel_rfl⟩
theorem T70_ok : mkTI Go.Proofs.Try.prog 70 = some T70 ∧ T70.good = true := ⟨by kernel_rfl, by kernel_rfl⟩
theorem T134_ok : mkTI Go.Proofs.Try.prog 134 = some T134 ∧ T134.good = true := ⟨by kernel_rfl, by kernel_rfl⟩
theorem T262_ok : mkTI Go.Proofs.Try.prog 262 = some T262 ∧ T262.good = true := ⟨by kernel_rfl, by kernel_rfl⟩
theorem T198_ok : mkTI Go.Proofs.Try.prog 198 = some T198 ∧ T198.good = true := ⟨by kernel_rfl, by kernel_rfl⟩
theorem T166_ok : mkTI Go.Proofs.Try.prog 166 = some T166 ∧ T166.good = true := ⟨by kernel_rfl, by kernel_rfl⟩
theorem T294_ok : mkTI Go.Proofs.Try.prog 294 = some T294 ∧ T294.good = true := ⟨by kernel_rfl, by kernel_rfl⟩
theorem T230_ok : mkTI Go.Proofs.Try.prog 230 = some T230 ∧ T230.good = true := ⟨by kernel_rfl, by kernel_rfl⟩
theorem T54_ok : mkTI Go.Proofs.Try.prog 54 = some T54 ∧ T54.good = true := ⟨by kernel_rfl, by kernel_rfl⟩
theorem T150_ok : mkTI Go.Proofs.Try.prog 150 = some T150 ∧ T150.good = true := ⟨by kernel_rfl, by kernel_rfl⟩
theorem T278_ok : mkTI Go.Proofs.Try.prog 278 = some T278 ∧ T278.good = true := ⟨by kernel_rfl, by kernel_rfl⟩
theorem T214_ok : mkTI Go.Proofs.Try.prog 214 = some T214 ∧ T214.good = true := ⟨by kernel_rfl, by kernel_rfl⟩
theorem T118_ok : mkTI Go.Proofs.Try.prog 118 = some T118 ∧ T118.good = true := ⟨by kernel_rfl, by kernel_rfl⟩
theorem T182_ok : mkTI Go.Proofs.Try.prog 182 = some T182 ∧ T182.good = true := ⟨by kernel_rfl, by kernel_rfl⟩
theorem T246_ok : mkTI Go.Proofs.Try.prog 246 = some T246 ∧ T246.good = true := ⟨by kernel_rfl, by kernel_rfl⟩
theorem T30_ok : mkTI Go.Proofs.Try.prog 30 = some T30 ∧ T30.good = true := ⟨by kernel_rfl, by kernel_rfl⟩
theorem T46_ok : mkTI Go.Proofs.Try.prog 46 = some T46 ∧ T46.good = true := ⟨by kernel_rfl, by kernel_rfl⟩
theorem T78_ok : mkTI Go.Proofs.Try.prog 78 = some T78 ∧ T78.good = true := ⟨by kernel_rfl, by kernel_rfl⟩
theorem T142_ok : mkTI Go.Proofs.Try.prog 142 = some T142 ∧ T142.good = true := ⟨by kernel_rfl, by kernel_rfl⟩
theorem T270_ok : mkTI Go.Proofs.Try.prog 270 = some T270 ∧ T270.good = true := ⟨by kernel_rfl, by kernel_rfl⟩
theorem T206_ok : mkTI Go.Proofs.Try.prog 206 = some T206 ∧ T206.good = true := ⟨by kernel_rfl, by kernel_rfl⟩
theorem T110_ok : mkTI Go.Proofs.Try.prog 110 = some T110 ∧ T110.good = true := ⟨by kernel_rfl, by kernel_rfl⟩
theorem T302_ok : mkTI Go.Proofs.Try.prog 302 = some T302 ∧ T302.good = true := ⟨by kernel_rfl, by kernel_rfl⟩
theorem T238_ok : mkTI Go.Proofs.Try.prog 238 = some T238 ∧ T238.good = true := ⟨by kernel_rfl, by kernel_rfl⟩
theorem T62_ok : mkTI Go.Proofs.Try.prog 62 = some T62 ∧ T62.good = true := ⟨by kernel_rfl, by kernel_rfl⟩
theorem T94_ok : mkTI Go.Proofs.Try.prog 94 = some T94 ∧ T94.good = true := ⟨by kernel_rfl, by kernel_rfl⟩
theorem T158_ok : mkTI Go.Proofs.Try.prog 158 = some T158 ∧ T158.good = true := ⟨by kernel_rfl, by kernel_rfl⟩
theorem T286_ok : mkTI Go.Proofs.Try.prog 286 = some T286 ∧ T286.good = true := ⟨by kernel_rfl, by kernel_rfl⟩
theorem T222_ok : mkTI Go.Proofs.Try.prog 222 = some T222 ∧ T222.good = true := ⟨by kernel_rfl, by kernel_rfl⟩
theorem T126_ok : mkTI Go.Proofs.Try.prog 126 = some T126 ∧ T126.good = true := ⟨by kernel_rfl, by kernel_rfl⟩
theorem T190_ok : mkTI Go.Proofs.Try.prog 190 = some T190 ∧ T190.good = true := ⟨by kernel_rfl, by kernel_rfl⟩
theorem T254_ok : mkTI Go.Proofs.Try.prog 254 = some T254 ∧ T254.good = true := ⟨by kernel_rfl, by kernel_rfl⟩
noncomputable def tl0 : List (Nat × TI) := [(1, T1), (3, T3), (7, T7), (15, T15), (31, T31), (63, T63), (191, T191), (95, T95), (159, T159), (287, T287), (223, T223), (47, T47), (79, T79), (143, T143), (271, T271), (207, T207), (111, T111), (175, T175), (239, T239), (23, T23), (39, T39), (71, T71), (135, T135), (263, T263)]
theorem tl0_ok : ∀ e ∈ tl0, mkTI Go.Proofs.Try.prog e.1 = some e.2 ∧ e.2.good = true := by
  unfold tl0
  simp only [List.forall_mem_cons, List.not_mem_nil, false_implies, implies_true, and_true]
  exact ⟨T1_ok, T3_ok, T7_ok, T15_ok, T31_ok, T63_ok, T191_ok, T95_ok, T159_ok, T287_ok, T223_ok, T47_ok, T79_ok, T143_ok, T271_ok, T207_ok, T111_ok, T175_ok, T239_ok, T23_ok, T39_ok, T71_ok, T135_ok, T263_ok⟩
noncomputable def tl1 : List (Nat × TI) := [(199, T199), (103, T103), (167, T167), (295, T295), (231, T231), (55, T55), (87, T87), (151, T151), (279, T279), (215, T215), (119, T119), (183, T183), (247, T247), (11, T11), (19, T19), (35, T35), (67, T67), (131, T131), (259, T259), (195, T195), (99, T99), (163, T163), (291, T291), (227, T227)]
theorem tl1_ok : ∀ e ∈ tl1, mkTI Go.Proofs.Try.prog e.1 = some e.2 ∧ e.2.good = true := by
  unfold tl1
  simp only [List.forall_mem_cons, List.not_mem_nil, false_implies, implies_true, and_true]
  exact ⟨T199_ok, T103_ok, T167_ok, T295_ok, T231_ok, T55_ok, T87_ok, T151_ok, T279_ok, T215_ok, T119_ok, T183_ok, T247_ok, T11_ok, T19_ok, T35_ok, T67_ok, T131_ok, T259_ok, T195_ok, T99_ok, T163_ok, T291_ok, T227_ok⟩
noncomputable def tl2 : List (Nat × TI) := [(51, T51), (83, T83), (147, T147), (275, T275), (211, T211), (115, T115), (179, T179), (243, T243), (27, T27), (43, T43), (75, T75), (139, T139), (267, T267), (203, T203), (107, T107), (171, T171), (299, T299), (235, T235), (59, T59), (91, T91), (155, T155), (283, T283), (219, T219), (123, T123)]
theorem tl2_ok : ∀ e ∈ tl2, mkTI Go.Proofs.Try.prog e.1 = some e.2 ∧ e.2.good = true := by
  unfold tl2
  simp only [List.forall_mem_cons, List.not_mem_nil, false_implies, implies_true, and_true]
  exact ⟨T51_ok, T83_ok, T147_ok, T275_ok, T211_ok, T115_ok, T179_ok, T243_ok, T27_ok, T43_ok, T75_ok, T139_ok, T267_ok, T203_ok, T107_ok, T171_ok, T299_ok, T235_ok, T59_ok, T91_ok, T155_ok, T283_ok, T219_ok, T123_ok⟩
noncomputable def tl3 : List (Nat × TI) := [(251, T251), (5, T5), (9, T9), (17, T17), (33, T33), (65, T65), (129, T129), (257, T257), (193, T193), (97, T97), (161, T161), (289, T289), (225, T225), (49, T49), (81, T81), (145, T145), (273, T273), (209, T209), (113, T113), (177, T177), (241, T241), (25, T25), (41, T41), (73, T73)]
theorem tl3_ok : ∀ e ∈ tl3, mkTI Go.Proofs.Try.prog e.1 = some e.2 ∧ e.2.good = true := by
  unfold tl3
  simp only [List.forall_mem_cons, List.not_mem_nil, false_implies, implies_true, and_true]
  exact ⟨T251_ok, T5_ok, T9_ok, T17_ok, T33_ok, T65_ok, T129_ok, T257_ok, T193_ok, T97_ok, T161_ok, T289_ok, T225_ok, T49_ok, T81_ok, T145_ok, T273_ok, T209_ok, T113_ok, T177_ok, T241_ok, T25_ok, T41_ok, T73_ok⟩
noncomputable def tl4 : List (Nat × TI) := [(137, T137), (265, T265), (201, T201), (105, T105), (169, T169), (297, T297), (233, T233), (57, T57), (89, T89), (153, T153), (281, T281), (217, T217), (121, T121), (185, T185), (249, T249), (13, T13), (21, T21), (37, T37), (69, T69), (133, T133), (261, T261), (197, T197), (101, T101), (165, T165)]
theorem tl4_ok : ∀ e ∈ tl4, mkTI Go.Proofs.Try.prog e.1 = some e.2 ∧ e.2.good = true := by
  unfold tl4
  simp only [List.forall_mem_cons, List.not_mem_nil, false_implies, implies_true, and_true]
  exact ⟨T137_ok, T265_ok, T201_ok, T105_ok, T169_ok, T297_ok, T233_ok, T57_ok, T89_ok, T153_ok, T281_ok, T217_ok, T121_ok, T185_ok, T249_ok, T13_ok, T21_ok, T37_ok, T69_ok, T133_ok, T261_ok, T197_ok, T101_ok, T165_ok⟩
noncomputable def tl5 : List (Nat × TI) := [(293, T293), (229, T229), (53, T53), (85, T85), (149, T149), (277, T277), (213, T213), (117, T117), (181, T181), (245, T245), (29, T29), (45, T45), (77, T77), (141, T141), (269, T269), (205, T205), (109, T109), (173, T173), (301, T301), (237, T237), (61, T61), (93, T93), (157, T157), (285, T285)]
theorem tl5_ok : ∀ e ∈ tl5, mkTI Go.Proofs.Try.prog e.1 = some e.2 ∧ e.2.good = true := by
  unfold tl5
  simp only [List.forall_mem_cons, List.not_mem_nil, false_implies, implies_true, and_true]
  exact ⟨T293_ok, T229_ok, T53_ok, T85_ok, T149_ok, T277_ok, T213_ok, T117_ok, T181_ok, T245_ok, T29_ok, T45_ok, T77_ok, T141_ok, T269_ok, T205_ok, T109_ok, T173_ok, T301_ok, T237_ok, T61_ok, T93_ok, T157_ok, T285_ok⟩
noncomputable def tl6 : List (Nat × TI) := [(221, T221), (125, T125), (189, T189), (253, T253), (2, T2), (4, T4), (8, T8), (16, T16), (32, T32), (64, T64), (128, T128), (256, T256), (192, T192), (160, T160), (288, T288), (224, T224), (48, T48), (80, T80), (144, T144), (272, T272), (208, T208), (112, T112), (176, T176), (240, T240)]
theorem tl6_ok : ∀ e ∈ tl6, mkTI Go.Proofs.Try.prog e.1 = some e.2 ∧ e.2.good = true := by
  unfold tl6
  simp only [List.forall_mem_cons, List.not_mem_nil, false_implies, implies_true, and_true]
  exact ⟨T221_ok, T125_ok, T189_ok, T253_ok, T2_ok, T4_ok, T8_ok, T16_ok, T32_ok, T64_ok, T128_ok, T256_ok, T192_ok, T160_ok, T288_ok, T224_ok, T48_ok, T80_ok, T144_ok, T272_ok, T208_ok, T112_ok, T176_ok, T240_ok⟩
noncomputable def tl7 : List (Nat × TI) := [(24, T24), (40, T40), (72, T72), (136, T136), (264, T264), (200, T200), (104, T104), (168, T168), (296, T296), (232, T232), (56, T56), (88, T88), (152, T152), (280, T280), (216, T216), (120, T120), (184, T184), (248, T248), (12, T12), (20, T20), (36, T36), (68, T68), (132, T132), (260, T260)]
theorem tl7_ok : ∀ e ∈ tl7, mkTI Go.Proofs.Try.prog e.1 = some e.2 ∧ e.2.good = true := by
  unfold tl7
  simp only [List.forall_mem_cons, List.not_mem_nil, false_implies, implies_true, and_true]
  exact ⟨T24_ok, T40_ok, T72_ok, T136_ok, T264_ok, T200_ok, T104_ok, T168_ok, T296_ok, T232_ok, T56_ok, T88_ok, T152_ok, T280_ok, T216_ok, T120_ok, T184_ok, T248_ok, T12_ok, T20_ok, T36_ok, T68_ok, T132_ok, T260_ok⟩
noncomputable def tl8 : List (Nat × TI) := [(100, T100), (292, T292), (228, T228), (84, T84), (148, T148), (276, T276), (212, T212), (116, T116), (180, T180), (244, T244), (44, T44), (76, T76), (140, T140), (268, T268), (204, T204), (108, T108), (172, T172), (300, T300), (60, T60), (92, T92), (156, T156), (284, T284), (220, T220), (124, T124)]
theorem tl8_ok : ∀ e ∈ tl8, mkTI Go.Proofs.Try.prog e.1 = some e.2 ∧ e.2.good = true := by
  unfold tl8
  simp only [List.forall_mem_cons, List.not_mem_nil, false_implies, implies_true, and_true]
  exact ⟨T100_ok, T292_ok, T228_ok, T84_ok, T148_ok, T276_ok, T212_ok, T116_ok, T180_ok, T244_ok, T44_ok, T76_ok, T140_ok, T268_ok, T204_ok, T108_ok, T172_ok, T300_ok, T60_ok, T92_ok, T156_ok, T284_ok, T220_ok, T124_ok⟩
noncomputable def tl9 : List (Nat × TI) := [(188, T188), (252, T252), (6, T6), (10, T10), (18, T18), (34, T34), (66, T66), (130, T130), (258, T258), (194, T194), (98, T98), (162, T162), (290, T290), (226, T226), (50, T50), (82, T82), (146, T146), (274, T274), (210, T210), (114, T114), (178, T178), (242, T242), (26, T26), (42, T42)]
theorem tl9_ok : ∀ e ∈ tl9, mkTI Go.Proofs.Try.prog e.1 = some e.2 ∧ e.2.good = true := by
  unfold tl9
  simp only [List.forall_mem_cons, List.not_mem_nil, false_implies, implies_true, and_true]
  exact ⟨T188_ok, T252_ok, T6_ok, T10_ok, T18_ok, T34_ok, T66_ok, T130_ok, T258_ok, T194_ok, T98_ok, T162_ok, T290_ok, T226_ok, T50_ok, T82_ok, T146_ok, T274_ok, T210_ok, T114_ok, T178_ok, T242_ok, T26_ok, T42_ok⟩
noncomputable def tl10 : List (Nat × TI) := [(74, T74), (138, T138), (266, T266), (202, T202), (106, T106), (298, T298), (234, T234), (58, T58), (90, T90), (154, T154), (282, T282), (218, T218), (122, T122), (186, T186), (250, T250), (14, T14), (22, T22), (38, T38), (70, T70), (134, T134), (262, T262), (198, T198), (166, T166), (294, T294)]
theorem tl10_ok : ∀ e ∈ tl10, mkTI Go.Proofs.Try.prog e.1 = some e.2 ∧ e.2.good = true := by
  unfold tl10
  simp only [List.forall_mem_cons, List.not_mem_nil, false_implies, implies_true, and_true]
  exact ⟨T74_ok, T138_ok, T266_ok, T202_ok, T106_ok, T298_ok, T234_ok, T58_ok, T90_ok, T154_ok, T282_ok, T218_ok, T122_ok, T186_ok, T250_ok, T14_ok, T22_ok, T38_ok, T70_ok, T134_ok, T262_ok, T198_ok, T166_ok, T294_ok⟩
noncomputable def tl11 : List (Nat × TI) := [(230, T230), (54, T54), (150, T150), (278, T278), (214, T214), (118, T118), (182, T182), (246, T246), (30, T30), (46, T46), (78, T78), (142, T142), (270, T270), (206, T206), (110, T110), (302, T302), (238, T238), (62, T62), (94, T94), (158, T158), (286, T286), (222, T222), (126, T126), (190, T190)]
theorem tl11_ok : ∀ e ∈ tl11, mkTI Go.Proofs.Try.prog e.1 = some e.2 ∧ e.2.good = true := by
  unfold tl11
  simp only [List.forall_mem_cons, List.not_mem_nil, false_implies, implies_true, and_true]
  exact ⟨T230_ok, T54_ok, T150_ok, T278_ok, T214_ok, T118_ok, T182_ok, T246_ok, T30_ok, T46_ok, T78_ok, T142_ok, T270_ok, T206_ok, T110_ok, T302_ok, T238_ok, T62_ok, T94_ok, T158_ok, T286_ok, T222_ok, T126_ok, T190_ok⟩
noncomputable def tl12 : List (Nat × TI) := [(254, T254)]
theorem tl12_ok : ∀ e ∈ tl12, mkTI Go.Proofs.Try.prog e.1 = some e.2 ∧ e.2.good = true := by
  unfold tl12
  simp only [List.forall_mem_cons, List.not_mem_nil, false_implies, implies_true, and_true]
  exact T254_ok
theorem tl_list : types.list id = tl0 ++ (tl1 ++ (tl2 ++ (tl3 ++ (tl4 ++ (tl5 ++ (tl6 ++ (tl7 ++ (tl8 ++ (tl9 ++ (tl10 ++ (tl11 ++ tl12))))))))))) := by kernel_rfl
theorem tl_ok : ∀ e ∈ tl0 ++ (tl1 ++ (tl2 ++ (tl3 ++ (tl4 ++ (tl5 ++ (tl6 ++ (tl7 ++ (tl8 ++ (tl9 ++ (tl10 ++ (tl11 ++ tl12))))))))))), mkTI Go.Proofs.Try.prog e.1 = some e.2 ∧ e.2.good = true := by
  simp only [List.forall_mem_append]
  exact ⟨tl0_ok, tl1_ok, tl2_ok, tl3_ok, tl4_ok, tl5_ok, tl6_ok, tl7_ok, tl8_ok, tl9_ok, tl10_ok, tl11_ok, tl12_ok⟩
noncomputable def fl0 : List (Nat × Func) := [(0, Go.Proofs.Try.f0), (1, Go.Proofs.Try.f1), (3, Go.Proofs.Try.f3), (7, Go.Proofs.Try.f7), (15, Go.Proofs.Try.f15), (31, Go.Proofs.Try.f31), (63, Go.Proofs.Try.f63), (127, Go.Proofs.Try.f127), (191, Go.Proofs.Try.f191), (95, Go.Proofs.Try.f95), (159, Go.Proofs.Try.f159), (47, Go.Proofs.Try.f47), (79, Go.Proofs.Try.f79), (143, Go.Proofs.Try.f143), (111, Go.Proofs.Try.f111), (175, Go.Proofs.Try.f175), (23, Go.Proofs.Try.f23), (39, Go.Proofs.Try.f39), (71, Go.Proofs.Try.f71), (135, Go.Proofs.Try.f135), (103, Go.Proofs.Try.f103), (167, Go.Proofs.Try.f167), (55, Go.Proofs.Try.f55), (87, Go.Proofs.Try.f87)]
theorem fl0_ok : ∀ e ∈ fl0, Go.Proofs.Try.prog.funcs[e.1]? = some e.2 ∧ (e.2.name == "runtime.NumGoroutine") = false := by
  unfold fl0
  simp only [List.forall_mem_cons, List.not_mem_nil, false_implies, implies_true, and_true]
  exact ⟨⟨Go.Proofs.Try.func0, by kernel_rfl⟩, ⟨Go.Proofs.Try.func1, by kernel_rfl⟩, ⟨Go.Proofs.Try.func3, by kernel_rfl⟩, ⟨Go.Proofs.Try.func7, by kernel_rfl⟩, ⟨Go.Proofs.Try.func15, by kernel_rfl⟩, ⟨Go.Proofs.Try.func31, by kernel_rfl⟩, ⟨Go.Proofs.Try.func63, by kernel_rfl⟩, ⟨Go.Proofs.Try.func127, by kernel_rfl⟩, ⟨Go.Proofs.Try.func191, by kernel_rfl⟩, ⟨Go.Proofs.Try.func95, by kernel_rfl⟩, ⟨Go.Proofs.Try.func159, by kernel_rfl⟩, ⟨Go.Proofs.Try.func47, by kernel_rfl⟩, ⟨Go.Proofs.Try.func79, by kernel_rfl⟩, ⟨Go.Proofs.Try.func143, by kernel_rfl⟩, ⟨Go.Proofs.Try.func111, by kernel_rfl⟩, ⟨Go.Proofs.Try.func175, by kernel_rfl⟩, ⟨Go.Proofs.Try.func23, by kernel_rfl⟩, ⟨Go.Proofs.Try.func39, by kernel_rfl⟩, ⟨Go.Proofs.Try.func71, by kernel_rfl⟩, ⟨Go.Proofs.Try.func135, by kernel_rfl⟩, ⟨Go.Proofs.Try.func103, by kernel_rfl⟩, ⟨Go.Proofs.Try.func167, by kernel_rfl⟩, ⟨Go.Proofs.Try.func55, by kernel_rfl⟩, ⟨Go.Proofs.Try.func87, by kernel_rfl⟩⟩
noncomputable def fl1 : List (Nat × Func) := [(151, Go.Proofs.Try.f151), (119, Go.Proofs.Try.f119), (183, Go.Proofs.Try.f183), (11, Go.Proofs.Try.f11), (19, Go.Proofs.Try.f19), (35, Go.Proofs.Try.f35), (67, Go.Proofs.Try.f67), (131, Go.Proofs.Try.f131), (195, Go.Proofs.Try.f195), (99, Go.Proofs.Try.f99), (163, Go.Proofs.Try.f163), (51, Go.Proofs.Try.f51), (83, Go.Proofs.Try.f83), (147, Go.Proofs.Try.f147), (115, Go.Proofs.Try.f115), (179, Go.Proofs.Try.f179), (27, Go.Proofs.Try.f27), (43, Go.Proofs.Try.f43), (75, Go.Proofs.Try.f75), (139, Go.Proofs.Try.f139), (107, Go.Proofs.Try.f107), (171, Go.Proofs.Try.f171), (59, Go.Proofs.Try.f59), (91, Go.Proofs.Try.f91)]
theorem fl1_ok : ∀ e ∈ fl1, Go.Proofs.Try.prog.funcs[e.1]? = some e.2 ∧ (e.2.name == "runtime.NumGoroutine") = false := by
  unfold fl1
  simp only [List.forall_mem_cons, List.not_mem_nil, false_implies, implies_true, and_true]
  exact ⟨⟨Go.Proofs.Try.func151, by kernel_rfl⟩, ⟨Go.Proofs.Try.func119, by kernel_rfl⟩, ⟨Go.Proofs.Try.func183, by kernel_rfl⟩, ⟨Go.Proofs.Try.func11, by kernel_rfl⟩, ⟨Go.Proofs.Try.func19, by kernel_rfl⟩, ⟨Go.Proofs.Try.func35, by kernel_rfl⟩, ⟨Go.Proofs.Try.func67, by kernel_rfl⟩, ⟨Go.Proofs.Try.func131, by kernel_rfl⟩, ⟨Go.Proofs.Try.func195, by kernel_rfl⟩, ⟨Go.Proofs.Try.func99, by kernel_rfl⟩, ⟨Go.Proofs.Try.func163, by kernel_rfl⟩, ⟨Go.Proofs.Try.func51, by kernel_rfl⟩, ⟨Go.Proofs.Try.func83, by kernel_rfl⟩, ⟨Go.Proofs.Try.func147, by kernel_rfl⟩, ⟨Go.Proofs.Try.func115, by kernel_rfl⟩, ⟨Go.Proofs.Try.func179, by kernel_rfl⟩, ⟨Go.Proofs.Try.func27, by kernel_rfl⟩, ⟨Go.Proofs.Try.func43, by kernel_rfl⟩, ⟨Go.Proofs.Try.func75, by kernel_rfl⟩, ⟨Go.Proofs.Try.func139, by kernel_rfl⟩, ⟨Go.Proofs.Try.func107, by kernel_rfl⟩, ⟨Go.Proofs.Try.func171, by kernel_rfl⟩, ⟨Go.Proofs.Try.func59, by kernel_rfl⟩, ⟨Go.Proofs.Try.func91, by kernel_rfl⟩⟩
noncomputable def fl2 : List (Nat × Func) := [(155, Go.Proofs.Try.f155), (123, Go.Proofs.Try.f123), (187, Go.Proofs.Try.f187), (5, Go.Proofs.Try.f5), (9, Go.Proofs.Try.f9), (17, Go.Proofs.Try.f17), (33, Go.Proofs.Try.f33), (65, Go.Proofs.Try.f65), (129, Go.Proofs.Try.f129), (193, Go.Proofs.Try.f193), (97, Go.Proofs.Try.f97), (161, Go.Proofs.Try.f161), (49, Go.Proofs.Try.f49), (81, Go.Proofs.Try.f81), (145, Go.Proofs.Try.f145), (113, Go.Proofs.Try.f113), (177, Go.Proofs.Try.f177), (25, Go.Proofs.Try.f25), (41, Go.Proofs.Try.f41), (73, Go.Proofs.Try.f73), (137, Go.Proofs.Try.f137), (105, Go.Proofs.Try.f105), (169, Go.Proofs.Try.f169), (57, Go.Proofs.Try.f57)]
theorem fl2_ok : ∀ e ∈ fl2, Go.Proofs.Try.prog.funcs[e.1]? = some e.2 ∧ (e.2.name == "runtime.NumGoroutine") = false := by
  unfold fl2
  simp only [List.forall_mem_cons, List.not_mem_nil, false_implies, implies_true, and_true]
  exact ⟨⟨Go.Proofs.Try.func155, by kernel_rfl⟩, ⟨Go.Proofs.Try.func123, by kernel_rfl⟩, ⟨Go.Proofs.Try.func187, by kernel_rfl⟩, ⟨Go.Proofs.Try.func5, by kernel_rfl⟩, ⟨Go.Proofs.Try.func9, by kernel_rfl⟩, ⟨Go.Proofs.Try.func17, by kernel_rfl⟩, ⟨Go.Proofs.Try.func33, by kernel_rfl⟩, ⟨Go.Proofs.Try.func65, by kernel_rfl⟩, ⟨Go.Proofs.Try.func129, by kernel_rfl⟩, ⟨Go.Proofs.Try.func193, by kernel_rfl⟩, ⟨Go.Proofs.Try.func97, by kernel_rfl⟩, ⟨Go.Proofs.Try.func161, by kernel_rfl⟩, ⟨Go.Proofs.Try.func49, by kernel_rfl⟩, ⟨Go.Proofs.Try.func81, by kernel_rfl⟩, ⟨Go.Proofs.Try.func145, by kernel_rfl⟩, ⟨Go.Proofs.Try.func113, by kernel_rfl⟩, ⟨Go.Proofs.Try.func177, by kernel_rfl⟩, ⟨Go.Proofs.Try.func25, by kernel_rfl⟩, ⟨Go.Proofs.Try.func41, by kernel_rfl⟩, ⟨Go.Proofs.Try.func73, by kernel_rfl⟩, ⟨Go.Proofs.Try.func137, by kernel_rfl⟩, ⟨Go.Proofs.Try.func105, by kernel_rfl⟩, ⟨Go.Proofs.Try.func169, by kernel_rfl⟩, ⟨Go.Proofs.Try.func57, by kernel_rfl⟩⟩
noncomputable def fl3 : List (Nat × Func) := [(89, Go.Proofs.Try.f89), (153, Go.Proofs.Try.f153), (121, Go.Proofs.Try.f121), (185, Go.Proofs.Try.f185), (13, Go.Proofs.Try.f13), (21, Go.Proofs.Try.f21), (37, Go.Proofs.Try.f37), (69, Go.Proofs.Try.f69), (133, Go.Proofs.Try.f133), (101, Go.Proofs.Try.f101), (165, Go.Proofs.Try.f165), (53, Go.Proofs.Try.f53), (85, Go.Proofs.Try.f85), (149, Go.Proofs.Try.f149), (117, Go.Proofs.Try.f117), (181, Go.Proofs.Try.f181), (29, Go.Proofs.Try.f29), (45, Go.Proofs.Try.f45), (77, Go.Proofs.Try.f77), (141, Go.Proofs.Try.f141), (109, Go.Proofs.Try.f109), (173, Go.Proofs.Try.f173), (61, Go.Proofs.Try.f61), (93, Go.Proofs.Try.f93)]
theorem fl3_ok : ∀ e ∈ fl3, Go.Proofs.Try.prog.funcs[e.1]? = some e.2 ∧ (e.2.name == "runtime.NumGoroutine") = false := by
  unfold fl3
  simp only [List.forall_mem_cons, List.not_mem_nil, false_implies, implies_true, and_true]
  exact ⟨⟨Go.Proofs.Try.func89, by kernel_rfl⟩, ⟨Go.Proofs.Try.func153, by kernel_rfl⟩, ⟨Go.Proofs.Try.func121, by kernel_rfl⟩, ⟨Go.Proofs.Try.func185, by kernel_rfl⟩, ⟨Go.Proofs.Try.func13, by kernel_rfl⟩, ⟨Go.Proofs.Try.func21, by kernel_rfl⟩, ⟨Go.Proofs.Try.func37, by kernel_rfl⟩, ⟨Go.Proofs.Try.func69, by kernel_rfl⟩, ⟨Go.Proofs.Try.func133, by kernel_rfl⟩, ⟨Go.Proofs.Try.func101, by kernel_rfl⟩, ⟨Go.Proofs.Try.func165, by kernel_rfl⟩, ⟨Go.Proofs.Try.func53, by kernel_rfl⟩, ⟨Go.Proofs.Try.func85, by kernel_rfl⟩, ⟨Go.Proofs.Try.func149, by kernel_rfl⟩, ⟨Go.Proofs.Try.func117, by kernel_rfl⟩, ⟨Go.Proofs.Try.func181, by kernel_rfl⟩, ⟨Go.Proofs.Try.func29, by kernel_rfl⟩, ⟨Go.Proofs.Try.func45, by kernel_rfl⟩, ⟨Go.Proofs.Try.func77, by kernel_rfl⟩, ⟨Go.Proofs.Try.func141, by kernel_rfl⟩, ⟨Go.Proofs.Try.func109, by kernel_rfl⟩, ⟨Go.Proofs.Try.func173, by kernel_rfl⟩, ⟨Go.Proofs.Try.func61, by kernel_rfl⟩, ⟨Go.Proofs.Try.func93, by kernel_rfl⟩⟩
noncomputable def fl4 : List (Nat × Func) := [(157, Go.Proofs.Try.f157), (125, Go.Proofs.Try.f125), (189, Go.Proofs.Try.f189), (2, Go.Proofs.Try.f2), (4, Go.Proofs.Try.f4), (8, Go.Proofs.Try.f8), (16, Go.Proofs.Try.f16), (32, Go.Proofs.Try.f32), (64, Go.Proofs.Try.f64), (128, Go.Proofs.Try.f128), (192, Go.Proofs.Try.f192), (96, Go.Proofs.Try.f96), (160, Go.Proofs.Try.f160), (48, Go.Proofs.Try.f48), (80, Go.Proofs.Try.f80), (144, Go.Proofs.Try.f144), (112, Go.Proofs.Try.f112), (176, Go.Proofs.Try.f176), (24, Go.Proofs.Try.f24), (40, Go.Proofs.Try.f40), (72, Go.Proofs.Try.f72), (136, Go.Proofs.Try.f136), (104, Go.Proofs.Try.f104), (168, Go.Proofs.Try.f168)]
theorem fl4_ok : ∀ e ∈ fl4, Go.Proofs.Try.prog.funcs[e.1]? = some e.2 ∧ (e.2.name == "runtime.NumGoroutine") = false := by
  unfold fl4
  simp only [List.forall_mem_cons, List.not_mem_nil, false_implies, implies_true, and_true]
  exact ⟨⟨Go.Proofs.Try.func157, by kernel_rfl⟩, ⟨Go.Proofs.Try.func125, by kernel_rfl⟩, ⟨Go.Proofs.Try.func189, by kernel_rfl⟩, ⟨Go.Proofs.Try.func2, by kernel_rfl⟩, ⟨Go.Proofs.Try.func4, by kernel_rfl⟩, ⟨Go.Proofs.Try.func8, by kernel_rfl⟩, ⟨Go.Proofs.Try.func16, by kernel_rfl⟩, ⟨Go.Proofs.Try.func32, by kernel_rfl⟩, ⟨Go.Proofs.Try.func64, by kernel_rfl⟩, ⟨Go.Proofs.Try.func128, by kernel_rfl⟩, ⟨Go.Proofs.Try.func192, by kernel_rfl⟩, ⟨Go.Proofs.Try.func96, by kernel_rfl⟩, ⟨Go.Proofs.Try.func160, by kernel_rfl⟩, ⟨Go.Proofs.Try.func48, by kernel_rfl⟩, ⟨Go.Proofs.Try.func80, by kernel_rfl⟩, ⟨Go.Proofs.Try.func144, by kernel_rfl⟩, ⟨Go.Proofs.Try.func112, by kernel_rfl⟩, ⟨Go.Proofs.Try.func176, by kernel_rfl⟩, ⟨Go.Proofs.Try.func24, by kernel_rfl⟩, ⟨Go.Proofs.Try.func40, by kernel_rfl⟩, ⟨Go.Proofs.Try.func72, by kernel_rfl⟩, ⟨Go.Proofs.Try.func136, by kernel_rfl⟩, ⟨Go.Proofs.Try.func104, by kernel_rfl⟩, ⟨Go.Proofs.Try.func168, by kernel_rfl⟩⟩
noncomputable def fl5 : List (Nat × Func) := [(56, Go.Proofs.Try.f56), (88, Go.Proofs.Try.f88), (152, Go.Proofs.Try.f152), (120, Go.Proofs.Try.f120), (184, Go.Proofs.Try.f184), (12, Go.Proofs.Try.f12), (20, Go.Proofs.Try.f20), (36, Go.Proofs.Try.f36), (68, Go.Proofs.Try.f68), (132, Go.Proofs.Try.f132), (196, Go.Proofs.Try.f196), (100, Go.Proofs.Try.f100), (164, Go.Proofs.Try.f164), (52, Go.Proofs.Try.f52), (84, Go.Proofs.Try.f84), (148, Go.Proofs.Try.f148), (116, Go.Proofs.Try.f116), (180, Go.Proofs.Try.f180), (28, Go.Proofs.Try.f28), (44, Go.Proofs.Try.f44), (76, Go.Proofs.Try.f76), (140, Go.Proofs.Try.f140), (108, Go.Proofs.Try.f108), (172, Go.Proofs.Try.f172)]
theorem fl5_ok : ∀ e ∈ fl5, Go.Proofs.Try.prog.funcs[e.1]? = some e.2 ∧ (e.2.name == "runtime.NumGoroutine") = false := by
  unfold fl5
  simp only [List.forall_mem_cons, List.not_mem_nil, false_implies, implies_true, and_true]
  exact ⟨⟨Go.Proofs.Try.func56, by kernel_rfl⟩, ⟨Go.Proofs.Try.func88, by kernel_rfl⟩, ⟨Go.Proofs.Try.func152, by kernel_rfl⟩, ⟨Go.Proofs.Try.func120, by kernel_rfl⟩, ⟨Go.Proofs.Try.func184, by kernel_rfl⟩, ⟨Go.Proofs.Try.func12, by kernel_rfl⟩, ⟨Go.Proofs.Try.func20, by kernel_rfl⟩, ⟨Go.Proofs.Try.func36, by kernel_rfl⟩, ⟨Go.Proofs.Try.func68, by kernel_rfl⟩, ⟨Go.Proofs.Try.func132, by kernel_rfl⟩, ⟨Go.Proofs.Try.func196, by kernel_rfl⟩, ⟨Go.Proofs.Try.func100, by kernel_rfl⟩, ⟨Go.Proofs.Try.func164, by kernel_rfl⟩, ⟨Go.Proofs.Try.func52, by kernel_rfl⟩, ⟨Go.Proofs.Try.func84, by kernel_rfl⟩, ⟨Go.Proofs.Try.func148, by kernel_rfl⟩, ⟨Go.Proofs.Try.func116, by kernel_rfl⟩, ⟨Go.Proofs.Try.func180, by kernel_rfl⟩, ⟨Go.Proofs.Try.func28, by kernel_rfl⟩, ⟨Go.Proofs.Try.func44, by kernel_rfl⟩, ⟨Go.Proofs.Try.func76, by kernel_rfl⟩, ⟨Go.Proofs.Try.func140, by kernel_rfl⟩, ⟨Go.Proofs.Try.func108, by kernel_rfl⟩, ⟨Go.Proofs.Try.func172, by kernel_rfl⟩⟩
noncomputable def fl6 : List (Nat × Func) := [(60, Go.Proofs.Try.f60), (92, Go.Proofs.Try.f92), (156, Go.Proofs.Try.f156), (124, Go.Proofs.Try.f124), (188, Go.Proofs.Try.f188), (6, Go.Proofs.Try.f6), (10, Go.Proofs.Try.f10), (18, Go.Proofs.Try.f18), (34, Go.Proofs.Try.f34), (66, Go.Proofs.Try.f66), (130, Go.Proofs.Try.f130), (194, Go.Proofs.Try.f194), (98, Go.Proofs.Try.f98), (162, Go.Proofs.Try.f162), (50, Go.Proofs.Try.f50), (82, Go.Proofs.Try.f82), (146, Go.Proofs.Try.f146), (114, Go.Proofs.Try.f114), (178, Go.Proofs.Try.f178), (26, Go.Proofs.Try.f26), (42, Go.Proofs.Try.f42), (74, Go.Proofs.Try.f74), (138, Go.Proofs.Try.f138), (106, Go.Proofs.Try.f106)]
theorem fl6_ok : ∀ e ∈ fl6, Go.Proofs.Try.prog.funcs[e.1]? = some e.2 ∧ (e.2.name == "runtime.NumGoroutine") = false := by
  unfold fl6
  simp only [List.forall_mem_cons, List.not_mem_nil, false_implies, implies_true, and_true]
  exact ⟨⟨Go.Proofs.Try.func60, by kernel_rfl⟩, ⟨Go.Proofs.Try.func92, by kernel_rfl⟩, ⟨Go.Proofs.Try.func156, by kernel_rfl⟩, ⟨Go.Proofs.Try.func124, by kernel_rfl⟩, ⟨Go.Proofs.Try.func188, by kernel_rfl⟩, ⟨Go.Proofs.Try.func6, by kernel_rfl⟩, ⟨Go.Proofs.Try.func10, by kernel_rfl⟩, ⟨Go.Proofs.Try.func18, by kernel_rfl⟩, ⟨Go.Proofs.Try.func34, by kernel_rfl⟩, ⟨Go.Proofs.Try.func66, by kernel_rfl⟩, ⟨Go.Proofs.Try.func130, by kernel_rfl⟩, ⟨Go.Proofs.Try.func194, by kernel_rfl⟩, ⟨Go.Proofs.Try.func98, by kernel_rfl⟩, ⟨Go.Proofs.Try.func162, by kernel_rfl⟩, ⟨Go.Proofs.Try.func50, by kernel_rfl⟩, ⟨Go.Proofs.Try.func82, by kernel_rfl⟩, ⟨Go.Proofs.Try.func146, by kernel_rfl⟩, ⟨Go.Proofs.Try.func114, by kernel_rfl⟩, ⟨Go.Proofs.Try.func178, by kernel_rfl⟩, ⟨Go.Proofs.Try.func26, by kernel_rfl⟩, ⟨Go.Proofs.Try.func42, by kernel_rfl⟩, ⟨Go.Proofs.Try.func74, by kernel_rfl⟩, ⟨Go.Proofs.Try.func138, by kernel_rfl⟩, ⟨Go.Proofs.Try.func106, by kernel_rfl⟩⟩
noncomputable def fl7 : List (Nat × Func) := [(170, Go.Proofs.Try.f170), (58, Go.Proofs.Try.f58), (90, Go.Proofs.Try.f90), (154, Go.Proofs.Try.f154), (122, Go.Proofs.Try.f122), (186, Go.Proofs.Try.f186), (14, Go.Proofs.Try.f14), (22, Go.Proofs.Try.f22), (38, Go.Proofs.Try.f38), (70, Go.Proofs.Try.f70), (134, Go.Proofs.Try.f134), (102, Go.Proofs.Try.f102), (166, Go.Proofs.Try.f166), (54, Go.Proofs.Try.f54), (86, Go.Proofs.Try.f86), (150, Go.Proofs.Try.f150), (118, Go.Proofs.Try.f118), (182, Go.Proofs.Try.f182), (30, Go.Proofs.Try.f30), (46, Go.Proofs.Try.f46), (78, Go.Proofs.Try.f78), (142, Go.Proofs.Try.f142), (110, Go.Proofs.Try.f110), (174, Go.Proofs.Try.f174)]
theorem fl7_ok : ∀ e ∈ fl7, Go.Proofs.Try.prog.funcs[e.1]? = some e.2 ∧ (e.2.name == "runtime.NumGoroutine") = false := by
  unfold fl7
  simp only [List.forall_mem_cons, List.not_mem_nil, false_implies, implies_true, and_true]
  exact ⟨⟨Go.Proofs.Try.func170, by kernel_rfl⟩, ⟨Go.Proofs.Try.func58, by kernel_rfl⟩, ⟨Go.Proofs.Try.func90, by kernel_rfl⟩, ⟨Go.Proofs.Try.func154, by kernel_rfl⟩, ⟨Go.Proofs.Try.func122, by kernel_rfl⟩, ⟨Go.Proofs.Try.func186, by kernel_rfl⟩, ⟨Go.Proofs.Try.func14, by kernel_rfl⟩, ⟨Go.Proofs.Try.func22, by kernel_rfl⟩, ⟨Go.Proofs.Try.func38, by kernel_rfl⟩, ⟨Go.Proofs.Try.func70, by kernel_rfl⟩, ⟨Go.Proofs.Try.func134, by kernel_rfl⟩, ⟨Go.Proofs.Try.func102, by kernel_rfl⟩, ⟨Go.Proofs.Try.func166, by kernel_rfl⟩, ⟨Go.Proofs.Try.func54, by kernel_rfl⟩, ⟨Go.Proofs.Try.func86, by kernel_rfl⟩, ⟨Go.Proofs.Try.func150, by kernel_rfl⟩, ⟨Go.Proofs.Try.func118, by kernel_rfl⟩, ⟨Go.Proofs.Try.func182, by kernel_rfl⟩, ⟨Go.Proofs.Try.func30, by kernel_rfl⟩, ⟨Go.Proofs.Try.func46, by kernel_rfl⟩, ⟨Go.Proofs.Try.func78, by kernel_rfl⟩, ⟨Go.Proofs.Try.func142, by kernel_rfl⟩, ⟨Go.Proofs.Try.func110, by kernel_rfl⟩, ⟨Go.Proofs.Try.func174, by kernel_rfl⟩⟩
noncomputable def fl8 : List (Nat × Func) := [(62, Go.Proofs.Try.f62), (94, Go.Proofs.Try.f94), (158, Go.Proofs.Try.f158), (126, Go.Proofs.Try.f126), (190, Go.Proofs.Try.f190)]
theorem fl8_ok : ∀ e ∈ fl8, Go.Proofs.Try.prog.funcs[e.1]? = some e.2 ∧ (e.2.name == "runtime.NumGoroutine") = false := by
  unfold fl8
  simp only [List.forall_mem_cons, List.not_mem_nil, false_implies, implies_true, and_true]
  exact ⟨⟨Go.Proofs.Try.func62, by kernel_rfl⟩, ⟨Go.Proofs.Try.func94, by kernel_rfl⟩, ⟨Go.Proofs.Try.func158, by kernel_rfl⟩, ⟨Go.Proofs.Try.func126, by kernel_rfl⟩, ⟨Go.Proofs.Try.func190, by kernel_rfl⟩⟩
theorem fl_list : funcs.list id = fl0 ++ (fl1 ++ (fl2 ++ (fl3 ++ (fl4 ++ (fl5 ++ (fl6 ++ (fl7 ++ fl8))))))) := by kernel_rfl
theorem fl_ok : ∀ e ∈ fl0 ++ (fl1 ++ (fl2 ++ (fl3 ++ (fl4 ++ (fl5 ++ (fl6 ++ (fl7 ++ fl8))))))), Go.Proofs.Try.prog.funcs[e.1]? = some e.2 ∧ (e.2.name == "runtime.NumGoroutine") = false := by
  simp only [List.forall_mem_append]
  exact ⟨fl0_ok, fl1_ok, fl2_ok, fl3_ok, fl4_ok, fl5_ok, fl6_ok, fl7_ok, fl8_ok⟩
theorem tOk : TOk Go.Proofs.Try.prog cx.T := fun t ti h => by
  have h := Tr.mem_list types id h
  rw [tl_list] at h
  exact tl_ok (t, ti) h
theorem fOk : FOk Go.Proofs.Try.prog cx := fun f fn h => by
  have h := Tr.mem_list funcs id h
  rw [fl_list] at h
  exact fl_ok (f, fn) h
theorem mixed : Go.Proofs.Try.prog.follows .mixedOrders = true := by kernel_rfl
end Tab
end Go.Abs
