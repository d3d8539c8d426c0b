/- What is remembered of the run, part 0. -/
import Derived.Test.YtoddlefhlicfiaaGreatDoorRXG
import Derived.Test.YtoddlefhlicfiaaGreatDoorRDigitsDev
import Derived.Test.YtoddlefhlicfiaaGreatDoorRInsertDev
import Derived.Test.YtoddlefhlicfiaaGreatDoorRListDev
import Derived.Test.YtoddlefhlicfiaaGreatDoorRTurnDev
import Derived.Test.YtoddlefhlicfiaaGreatDoorRUsedDev
import Derived.KernelRfl
namespace Go.Proofs.YtoddlefhlicfiaaGreatDoorR.Aw
open Go Go.RowKit Go.Proofs Go.Proofs.YtoddlefhlicfiaaGreatDoorR.X Go.Proofs.YtoddlefhlicfiaaGreatDoorR
def fuel : Nat := nat_lit 1000000
noncomputable def c0 : Cx := mkCx Tryz.prog 0 (fun _ => none) (fun _ => none)
noncomputable def intr (f : Nat) : Option (List Value → St → M (Value × St)) := (match Nat.beq f 161 with
  | true => some (turnedA)
  | false => (match Nat.beq f 125 with
  | true => some (listA c0 fuel 160 9)
  | false => (match Nat.beq f 164 with
  | true => some (usedA)
  | false => (match Nat.beq f 101 with
  | true => some (digitsA)
  | false => (match Nat.beq f 209 with
  | true => some (insertA c0 fuel 209 65 42)
  | false => none)))))
noncomputable def cz : Cx := mkCx Tryz.prog 0 intr (fun _ => none)
noncomputable def cx : Cx := mkCx Tryz.prog 5 intr (fun _ => none)
theorem c0_ok : CxOk c0 := mkCx_ok _ _ _ _
theorem cz_ok : CxOk cz := mkCx_ok _ _ _ _
theorem cx_ok : CxOk cx := mkCx_ok _ _ _ _
theorem c0_names : NameOk c0.P := nameOk_ok (P := Tryz.prog) (by kernel_rfl)
theorem cz_names : NameOk cz.P := c0_names
theorem cx_names : NameOk cx.P := c0_names
theorem c0_intr : IntrOk c0 := intr_none _ _
theorem cx_mixed : cx.P.follows .mixedOrders = true := by kernel_rfl
theorem c0_mixed : c0.P.follows .mixedOrders = true := cx_mixed
theorem cz_mixed : cz.P.follows .mixedOrders = true := cx_mixed
theorem cz_intr : IntrOk cz where
  ext f i h := by cases h
  body f i h := by
    have h : intr f = some i := h
    unfold intr at h
    split at h
    · rename_i hb
      rw [Nat.eq_of_beq_eq_true hb]; exact ⟨_, Tryz.func161, rfl⟩
    · split at h
      · rename_i hb
        rw [Nat.eq_of_beq_eq_true hb]; exact ⟨_, Tryz.func125, rfl⟩
      · split at h
        · rename_i hb
          rw [Nat.eq_of_beq_eq_true hb]; exact ⟨_, Tryz.func164, rfl⟩
        · split at h
          · rename_i hb
            rw [Nat.eq_of_beq_eq_true hb]; exact ⟨_, Tryz.func101, rfl⟩
          · split at h
            · rename_i hb
              rw [Nat.eq_of_beq_eq_true hb]; exact ⟨_, Tryz.func209, rfl⟩
            · cases h
  call f i h B args s v s' hi := by
    have h : intr f = some i := h
    unfold intr at h
    split at h
    · rename_i hb
      cases h
      rw [Nat.eq_of_beq_eq_true hb]
      exact turned_call (C := cz) TurnDev.turned_spec hi
    · split at h
      · rename_i hb
        cases h
        rw [Nat.eq_of_beq_eq_true hb]
        exact (list_call (C := c0) c0_ok c0_names c0_intr c0_mixed ListDev.list_spec hi).cx (C := c0) (C' := cz) rfl rfl
      · split at h
        · rename_i hb
          cases h
          rw [Nat.eq_of_beq_eq_true hb]
          exact used_call (C := cz) UsedDev.used_spec hi
        · split at h
          · rename_i hb
            cases h
            rw [Nat.eq_of_beq_eq_true hb]
            exact digits_call (C := cz) DigitsDev.digits_spec hi
          · split at h
            · rename_i hb
              cases h
              rw [Nat.eq_of_beq_eq_true hb]
              exact (insert_call (C := c0) c0_ok c0_names c0_intr c0_mixed InsertDev.insert_spec InsertDev.not_byte hi).cx (C := c0) (C' := cz) rfl rfl
            · cases h
theorem cx_intr : IntrOk cx := IntrOk.moreG (C := cx) (C0 := cz) rfl rfl rfl (fun _ => rfl) cz_intr
noncomputable def tu265 : List (Nat × List X.Told) := []
noncomputable def u265_0 : List X.Told := [T [(tx (nat_lit 32) (nat_lit 21796157974083048550319244236929488537086114760591164995662604048548353814576))] (.bool true)]
noncomputable def u265 : List X.Told := u265_0
noncomputable def tu200 : List (Nat × List X.Told) := []
noncomputable def u200_0 : List X.Told := [T [(tx (nat_lit 32) (nat_lit 21796157974083048550319244236929488537086114760591164995662604048548353814576)), (.int .i64 (.ofNat (nat_lit 32))), (.int .i64 (.ofNat (nat_lit 32))), (.func (.func (nat_lit 202)) ⟨[]⟩ ⟨[]⟩)] (.bool true), T [(tx (nat_lit 4) (nat_lit 1819047278)), (.int .i64 (.ofNat (nat_lit 1))), (.int .i64 (.ofNat (nat_lit 32))), (.func (.func (nat_lit 252)) ⟨[]⟩ ⟨[]⟩)] (.bool true), T [(tx (nat_lit 32) (nat_lit 44500204899184162750300736738829775645960876306643465437890655938437310539062)), (.int .i64 (.ofNat (nat_lit 1))), (.int .i64 (.ofNat (nat_lit 40))), (.func (.func (nat_lit 201)) ⟨[]⟩ ⟨[]⟩)] (.bool true)]
noncomputable def u200 : List X.Told := u200_0
noncomputable def tu285 : List (Nat × List X.Told) := []
noncomputable def u285_0 : List X.Told := [T [(.int .u8 (.ofNat (nat_lit 1))), (.int .u8 (.ofNat (nat_lit 103)))] (.int .u8 (.ofNat (nat_lit 103))), T [(.int .u8 (.ofNat (nat_lit 1))), (.int .u8 (.ofNat (nat_lit 1)))] (.int .u8 (.ofNat (nat_lit 1))), T [(.int .u8 (.ofNat (nat_lit 1))), (.int .u8 (.ofNat (nat_lit 115)))] (.int .u8 (.ofNat (nat_lit 115))), T [(.int .u8 (.ofNat (nat_lit 1))), (.int .u8 (.ofNat (nat_lit 4)))] (.int .u8 (.ofNat (nat_lit 4))), T [(.int .u8 (.ofNat (nat_lit 1))), (.int .u8 (.ofNat (nat_lit 5)))] (.int .u8 (.ofNat (nat_lit 5))), T [(.int .u8 (.ofNat (nat_lit 1))), (.int .u8 (.ofNat (nat_lit 108)))] (.int .u8 (.ofNat (nat_lit 108))), T [(.int .u8 (.ofNat (nat_lit 1))), (.int .u8 (.ofNat (nat_lit 111)))] (.int .u8 (.ofNat (nat_lit 111)))]
noncomputable def u285 : List X.Told := u285_0
noncomputable def tu216 : List (Nat × List X.Told) := [((nat_lit 265), u265)]
noncomputable def u216_0 : List X.Told := [T [(tx (nat_lit 5) (nat_lit 495656594530)), (tx (nat_lit 32) (nat_lit 21796157974083048550319244236929488537086114760591164995662604048548353814576))] (.tuple ⟨[(tx (nat_lit 40) (nat_lit 402068147938053662568474674102503927454626733620075815519443126178300183676355670986402451042163)), (.int .i64 (.ofNat (nat_lit 0)))]⟩)]
noncomputable def u216 : List X.Told := u216_0
noncomputable def tu296 : List (Nat × List X.Told) := [((nat_lit 285), u285)]
noncomputable def u296_0 : List X.Told := [T [(.int .u8 (.ofNat (nat_lit 1))), (.int .u64 (.ofNat (nat_lit 254)))] (.int .u8 (.ofNat (nat_lit 1)))]
noncomputable def u296 : List X.Told := u296_0
noncomputable def tu152 : List (Nat × List X.Told) := []
noncomputable def u152_0 : List X.Told := [T [(tx (nat_lit 5) (nat_lit 495656594530))] (.tuple ⟨[(.int .u64 (.ofNat (nat_lit 5254446363263301806))), (.int .i64 (.ofNat (nat_lit 0)))]⟩)]
noncomputable def u152 : List X.Told := u152_0
noncomputable def tu24 : List (Nat × List X.Told) := []
noncomputable def u24_0 : List X.Told := [T [(tx (nat_lit 4) (nat_lit 1936158572))] (.bool true)]
noncomputable def u24 : List X.Told := u24_0
noncomputable def tu198 : List (Nat × List X.Told) := [((nat_lit 200), u200)]
noncomputable def u198_0 : List X.Told := [T [(tx (nat_lit 4) (nat_lit 1819047278))] (.bool true)]
noncomputable def u198 : List X.Told := u198_0
noncomputable def tu115 : List (Nat × List X.Told) := []
noncomputable def u115_0 : List X.Told := [T [(tx (nat_lit 44) (nat_lit 1726869546157230314624618085874512520129178344785529316696537479067800753760740655350734587920331997998452))] (.bool true), T [(tx (nat_lit 11) (nat_lit 139514928401866947231247732))] (.bool true), T [(tx (nat_lit 40) (nat_lit 402068147938053662568474674102503927454626733620075815519443126178300183676355670986402451042163))] (.bool true), T [(tx (nat_lit 5) (nat_lit 495656594530))] (.bool true), T [(tx (nat_lit 6) (nat_lit 127961796865894))] (.bool true), T [(tx (nat_lit 10) (nat_lit 549591732676410823699828))] (.bool true), T [(tx (nat_lit 8) (nat_lit 8390047098307898740))] (.bool true), T [(tx (nat_lit 4) (nat_lit 1953460066))] (.bool true), T [(tx (nat_lit 7) (nat_lit 32483350579130218))] (.bool true)]
noncomputable def u115 : List X.Told := u115_0
noncomputable def tu102 : List (Nat × List X.Told) := [((nat_lit 152), u152)]
noncomputable def u102_0 : List X.Told := [T [(tx (nat_lit 5) (nat_lit 495656594530)), (.int .i64 (.ofNat (nat_lit 1)))] (.tuple ⟨[(.int .i64 (.ofNat (nat_lit 0))), (.int .i64 (.ofNat (nat_lit 0)))]⟩)]
noncomputable def u102 : List X.Told := u102_0
noncomputable def tu14 : List (Nat × List X.Told) := [((nat_lit 24), u24)]
noncomputable def u14_0 : List X.Told := [T [(.agg ⟨[(tx (nat_lit 4) (nat_lit 1936158572)), (.int .i64 (.ofNat (nat_lit 5))), (.int .i64 (.ofNat (nat_lit 0))), (.slice none (nat_lit 0) (nat_lit 0))]⟩)] (.int .i64 (.ofNat (nat_lit 0)))]
noncomputable def u14 : List X.Told := u14_0
noncomputable def tu143 : List (Nat × List X.Told) := [((nat_lit 198), u198), ((nat_lit 200), u200)]
noncomputable def u143_0 : List X.Told := [T [(.agg ⟨[(tx (nat_lit 4) (nat_lit 1819047278)), (.int .i64 (.ofNat (nat_lit 5))), (.bool false), (.int .i64 (.ofNat (nat_lit 8))), (tx (nat_lit 32) (nat_lit 44500204899184162750300736738829775645960876306643465437890655938437310539062)), (.int .i64 (.ofNat (nat_lit 1))), (.int .i64 (.ofNat (nat_lit 1))), (tx (nat_lit 32) (nat_lit 21796157974083048550319244236929488537086114760591164995662604048548353814576)), (.int .u8 (.ofNat (nat_lit 110))), (.int .u8 (.ofNat (nat_lit 48))), (.int .u8 (.ofNat (nat_lit 97))), (.int .u8 (.ofNat (nat_lit 188))), (.int .u8 (.ofNat (nat_lit 84))), (.int .u8 (.ofNat (nat_lit 115))), (.int .u8 (.ofNat (nat_lit 135))), (.int .u8 (.ofNat (nat_lit 217))), (.int .u8 (.ofNat (nat_lit 214))), (.int .u8 (.ofNat (nat_lit 76))), (.int .u8 (.ofNat (nat_lit 181))), (.int .u8 (.ofNat (nat_lit 190))), (.int .u8 (.ofNat (nat_lit 67))), (.int .u8 (.ofNat (nat_lit 224))), (.int .u8 (.ofNat (nat_lit 25))), (.int .u8 (.ofNat (nat_lit 187))), (.int .u8 (.ofNat (nat_lit 158))), (.int .u8 (.ofNat (nat_lit 248))), (.int .u8 (.ofNat (nat_lit 228))), (.int .u8 (.ofNat (nat_lit 188))), (.int .u8 (.ofNat (nat_lit 109))), (.int .u8 (.ofNat (nat_lit 29))), (.int .u8 (.ofNat (nat_lit 166))), (.int .u8 (.ofNat (nat_lit 141))), (.int .u8 (.ofNat (nat_lit 188))), (.int .u8 (.ofNat (nat_lit 128))), (.int .u8 (.ofNat (nat_lit 253))), (.int .u8 (.ofNat (nat_lit 131))), (.int .u8 (.ofNat (nat_lit 33))), (.int .u8 (.ofNat (nat_lit 5))), (.int .u8 (.ofNat (nat_lit 55))), (.int .u8 (.ofNat (nat_lit 162))), (.slice none (nat_lit 0) (nat_lit 0)), (.string ⟨⟨[]⟩⟩)]⟩)] (.int .i64 (.ofNat (nat_lit 0)))]
noncomputable def u143 : List X.Told := u143_0
noncomputable def tu84 : List (Nat × List X.Told) := [((nat_lit 115), u115)]
noncomputable def u84_0 : List X.Told := [T [(tx (nat_lit 5) (nat_lit 495656594530))] (.bool true)]
noncomputable def u84 : List X.Told := u84_0
noncomputable def tu284 : List (Nat × List X.Told) := [((nat_lit 296), u296)]
noncomputable def u284_0 : List X.Told := [T [(.int .u8 (.ofNat (nat_lit 1)))] (.tuple ⟨[(.int .u8 (.ofNat (nat_lit 1))), (.int .i64 (.ofNat (nat_lit 0)))]⟩)]
noncomputable def u284 : List X.Told := u284_0
noncomputable def tu154 : List (Nat × List X.Told) := [((nat_lit 216), u216)]
noncomputable def u154_0 : List X.Told := [T [(tx (nat_lit 5) (nat_lit 495656594530)), (.agg ⟨[(tx (nat_lit 4) (nat_lit 1819047278)), (.int .i64 (.ofNat (nat_lit 5))), (.bool false), (.int .i64 (.ofNat (nat_lit 8))), (tx (nat_lit 32) (nat_lit 44500204899184162750300736738829775645960876306643465437890655938437310539062)), (.int .i64 (.ofNat (nat_lit 1))), (.int .i64 (.ofNat (nat_lit 1))), (tx (nat_lit 32) (nat_lit 21796157974083048550319244236929488537086114760591164995662604048548353814576)), (.int .u8 (.ofNat (nat_lit 110))), (.int .u8 (.ofNat (nat_lit 48))), (.int .u8 (.ofNat (nat_lit 97))), (.int .u8 (.ofNat (nat_lit 188))), (.int .u8 (.ofNat (nat_lit 84))), (.int .u8 (.ofNat (nat_lit 115))), (.int .u8 (.ofNat (nat_lit 135))), (.int .u8 (.ofNat (nat_lit 217))), (.int .u8 (.ofNat (nat_lit 214))), (.int .u8 (.ofNat (nat_lit 76))), (.int .u8 (.ofNat (nat_lit 181))), (.int .u8 (.ofNat (nat_lit 190))), (.int .u8 (.ofNat (nat_lit 67))), (.int .u8 (.ofNat (nat_lit 224))), (.int .u8 (.ofNat (nat_lit 25))), (.int .u8 (.ofNat (nat_lit 187))), (.int .u8 (.ofNat (nat_lit 158))), (.int .u8 (.ofNat (nat_lit 248))), (.int .u8 (.ofNat (nat_lit 228))), (.int .u8 (.ofNat (nat_lit 188))), (.int .u8 (.ofNat (nat_lit 109))), (.int .u8 (.ofNat (nat_lit 29))), (.int .u8 (.ofNat (nat_lit 166))), (.int .u8 (.ofNat (nat_lit 141))), (.int .u8 (.ofNat (nat_lit 188))), (.int .u8 (.ofNat (nat_lit 128))), (.int .u8 (.ofNat (nat_lit 253))), (.int .u8 (.ofNat (nat_lit 131))), (.int .u8 (.ofNat (nat_lit 33))), (.int .u8 (.ofNat (nat_lit 5))), (.int .u8 (.ofNat (nat_lit 55))), (.int .u8 (.ofNat (nat_lit 162))), (.slice none (nat_lit 0) (nat_lit 0)), (.string ⟨⟨[]⟩⟩)]⟩)] (tx (nat_lit 40) (nat_lit 402068147938053662568474674102503927454626733620075815519443126178300183676355670986402451042163))]
noncomputable def u154 : List X.Told := u154_0
noncomputable def xb112 : List X.Tab := []
noncomputable def d0 : AO := .cells (u8s (nat_lit 64) (nat_lit 3351951982485649274893506249551461531869841455148098344430890360930441007518386744200468574541725856922507964546621512713438470702989003669855840288861188)) (nat_lit 5) true true
noncomputable def d1 : AO := .cells (u8s (nat_lit 64) (nat_lit 7961499719142397554472704815837491483428659260458163025481498103650202526596837560411097257007832161246021058708687678627805694635395460761809328781930544)) (nat_lit 5) true true
noncomputable def x112_0 : List X.Kin := [KinT [(.agg ⟨u32s (nat_lit 8) (nat_lit 41557658498906279274860226408925318911382702236748615442085426012007055353447)⟩), (.slice (some ⟨(nat_lit 0), (nat_lit 0), none⟩) (nat_lit 64) (nat_lit 1180591620717411303425)), (.agg ⟨u32s (nat_lit 64) (nat_lit 25051139735836467913601071899189108501681633092613316132753366958947502841281110980347811086624969305314199562795868290539880502533646505489797110349007385020507326982043050618112420254613810441709594605123090411975756494285771699200369901479195251226368983824020564277645963860728452821576845901498668417244438721537663670541944820957180957595559282976806173113161068298822071065329290006052849814285001949914564097058408480133985233335799884203712730341384999677089997083749077591931498939520449886954646413138343858395935213418018409268340744776361518554939863400075967197509182087778881547827184266701615699472280)⟩)] d0 (.agg ⟨u32s (nat_lit 8) (nat_lit 14935542221983890657203636160552011467643785270798732988633316717881862414780)⟩), KinT [(.agg ⟨u32s (nat_lit 8) (nat_lit 90940567560513451282029382637217658370519278209424201325019629175423388329930)⟩), (.slice (some ⟨(nat_lit 0), (nat_lit 0), none⟩) (nat_lit 64) (nat_lit 1180591620717411303425)), (.agg ⟨u32s (nat_lit 64) (nat_lit 25051139735836467913601071899189108501681633092613316132753366958947502841281110980347811086624969305314199562795868290539880502533646505489797110349007385020507326982043050618112420254613810441709594605123090411975756494285771699200369901479195251226368983824020564277645963860728452821576845901498668417244438721537663670541944820957180957595559282976806173113161068298822071065329290006052849814285001949914564097058408480133985233335799884203712730341384999677089997083749077591931498939520449886954646413138343858395935213418018409268340744776361518554939863400075967197509182087778881547827184266701615699472280)⟩)] d1 (.agg ⟨u32s (nat_lit 8) (nat_lit 114954117403117543254535107180264237614995497290381505774392927216360880680913)⟩)]
noncomputable def d2 : AO := .cells (u8s (nat_lit 147) (nat_lit 552131028272990760108296603166024464823870397138895114246927116994267653955993201874803507953402859530120658138775282208059884514898289656085946052362719850678423674879657021648479037085953403294666803002955443549746908634991539714266941506757050388826692197029402996529193545870213477471139739406755962764766213249006910217577735920489612918607112653395)) (nat_lit 5) true true
noncomputable def x112_1 : List X.Kin := [KinT [(.agg ⟨u32s (nat_lit 8) (nat_lit 41557658498906279274860226408925318911382702236748615442085426012007055353447)⟩), (.slice (some ⟨(nat_lit 0), (nat_lit 0), none⟩) (nat_lit 115) (nat_lit 1180591620717411303425)), (.agg ⟨u32s (nat_lit 64) (nat_lit 25051139735836467913601071899189108501681633092613316132753366958947502841281110980347811086624969305314199562795868290539880502533646505489797110349007385020507326982043050618112420254613810441709594605123090411975756494285771699200369901479195251226368983824020564277645963860728452821576845901498668417244438721537663670541944820957180957595559282976806173113161068298822071065329290006052849814285001949914564097058408480133985233335799884203712730341384999677089997083749077591931498939520449886954646413138343858395935213418018409268340744776361518554939863400075967197509182087778881547827184266701615699472280)⟩)] d2 (.agg ⟨u32s (nat_lit 8) (nat_lit 90940567560513451282029382637217658370519278209424201325019629175423388329930)⟩)]
noncomputable def x112 : List X.Kin := x112_0 ++ (x112_1)
noncomputable def xb72 : List X.Tab := [.kin (nat_lit 112) x112]
noncomputable def d3 : AO := .cells (u8s (nat_lit 8) (nat_lit 5993214733316)) (nat_lit 5) true true
noncomputable def d4 : AO := .cells (u8s (nat_lit 40) (nat_lit 693966855218597827884516082714505798823355640168665333200031755796844813085219236108906606)) (nat_lit 5) true true
noncomputable def d5 : AO := .cells (u8s (nat_lit 8) (nat_lit 5993214733316)) (nat_lit 5) false true
noncomputable def x72_0 : List X.Kin := [KinT [(.slice (some ⟨(nat_lit 0), (nat_lit 0), none⟩) (nat_lit 115) (nat_lit 1180591620717411303425))] d2 (.agg ⟨u8s (nat_lit 32) (nat_lit 62293989186179257980655485892629903228927473854428334386758774515335470979558)⟩), KinT [(.slice (some ⟨(nat_lit 0), (nat_lit 0), none⟩) (nat_lit 8) (nat_lit 1180591620717411303425))] d3 (.agg ⟨u8s (nat_lit 32) (nat_lit 73371893471362135266865215446186962230910761982151755566059396515266765598830)⟩), KinT [(.slice (some ⟨(nat_lit 0), (nat_lit 32), none⟩) (nat_lit 8) (nat_lit 1180591620717411303425))] d4 (.agg ⟨u8s (nat_lit 32) (nat_lit 73371893471362135266865215446186962230910761982151755566059396515266765598830)⟩), KinT [(.slice (some ⟨(nat_lit 0), (nat_lit 0), none⟩) (nat_lit 8) (nat_lit 8))] d5 (.agg ⟨u8s (nat_lit 32) (nat_lit 73371893471362135266865215446186962230910761982151755566059396515266765598830)⟩)]
noncomputable def x72 : List X.Kin := x72_0
noncomputable def xb178 : List X.Tab := [.kin (nat_lit 72) x72]
noncomputable def x178_0 : List X.Kin := [KinT [(.slice (some ⟨(nat_lit 0), (nat_lit 0), none⟩) (nat_lit 147) (nat_lit 1180591620717411303425))] d2 .nilIface]
noncomputable def x178 : List X.Kin := x178_0
noncomputable def xb238 : List X.Tab := [.told (nat_lit 143) u143]
noncomputable def d6 : AO := .cells [(tx (nat_lit 4) (nat_lit 1819047278)), (.int .i64 (.ofNat (nat_lit 5))), (.bool false), (.int .i64 (.ofNat (nat_lit 8))), (tx (nat_lit 32) (nat_lit 44500204899184162750300736738829775645960876306643465437890655938437310539062)), (.int .i64 (.ofNat (nat_lit 1))), (.int .i64 (.ofNat (nat_lit 1))), (tx (nat_lit 32) (nat_lit 21796157974083048550319244236929488537086114760591164995662604048548353814576)), (.int .u8 (.ofNat (nat_lit 110))), (.int .u8 (.ofNat (nat_lit 48))), (.int .u8 (.ofNat (nat_lit 97))), (.int .u8 (.ofNat (nat_lit 188))), (.int .u8 (.ofNat (nat_lit 84))), (.int .u8 (.ofNat (nat_lit 115))), (.int .u8 (.ofNat (nat_lit 135))), (.int .u8 (.ofNat (nat_lit 217))), (.int .u8 (.ofNat (nat_lit 214))), (.int .u8 (.ofNat (nat_lit 76))), (.int .u8 (.ofNat (nat_lit 181))), (.int .u8 (.ofNat (nat_lit 190))), (.int .u8 (.ofNat (nat_lit 67))), (.int .u8 (.ofNat (nat_lit 224))), (.int .u8 (.ofNat (nat_lit 25))), (.int .u8 (.ofNat (nat_lit 187))), (.int .u8 (.ofNat (nat_lit 158))), (.int .u8 (.ofNat (nat_lit 248))), (.int .u8 (.ofNat (nat_lit 228))), (.int .u8 (.ofNat (nat_lit 188))), (.int .u8 (.ofNat (nat_lit 109))), (.int .u8 (.ofNat (nat_lit 29))), (.int .u8 (.ofNat (nat_lit 166))), (.int .u8 (.ofNat (nat_lit 141))), (.int .u8 (.ofNat (nat_lit 188))), (.int .u8 (.ofNat (nat_lit 128))), (.int .u8 (.ofNat (nat_lit 253))), (.int .u8 (.ofNat (nat_lit 131))), (.int .u8 (.ofNat (nat_lit 33))), (.int .u8 (.ofNat (nat_lit 5))), (.int .u8 (.ofNat (nat_lit 55))), (.int .u8 (.ofNat (nat_lit 162))), (.slice none (nat_lit 0) (nat_lit 0)), (.string ⟨⟨[]⟩⟩)] (nat_lit 65) true true
noncomputable def x238_0 : List X.Kin := [KinT [(.slice (some ⟨(nat_lit 0), (nat_lit 0), none⟩) (nat_lit 1) (nat_lit 1180591620717411303466))] d6 (.bool true)]
noncomputable def x238 : List X.Kin := x238_0
noncomputable def xb299 : List X.Tab := [.kin (nat_lit 72) x72]
noncomputable def x299_0 : List X.Kin := [KinT [(.slice (some ⟨(nat_lit 0), (nat_lit 0), none⟩) (nat_lit 40) (nat_lit 1180591620717411303425)), (.int .i64 (.ofNat (nat_lit 0))), (.int .i64 (.ofNat (nat_lit 8))), (.int .i64 (.ofNat (nat_lit 8)))] d4 (.bool true)]
noncomputable def x299 : List X.Kin := x299_0
noncomputable def d7 : AO := .cells (u8s (nat_lit 40) (nat_lit 2015852660438014974740742713239864428212719616638591664825298023732326270906641256414773465138771)) (nat_lit 5) true true
noncomputable def e2 : Entry := ⟨[(.agg ⟨[(.int .i64 (.ofNat (nat_lit 1))), (.int .i64 (.ofNat (nat_lit 1))), (.int .i64 (.ofNat (nat_lit 1))), (.int .i64 (.ofNat (nat_lit 0))), (.int .i64 (.ofNat (nat_lit 0)))]⟩)], [], (nat_lit 67), (.tuple ⟨[(.slice (some ⟨(nat_lit 205), (nat_lit 0), none⟩) (nat_lit 40) (nat_lit 1180591620717411303425)), (.int .i64 (.ofNat (nat_lit 0)))]⟩), [((nat_lit 205), d7)], (nat_lit 206)⟩
noncomputable def t2 : List (Nat × List Entry) := []
noncomputable def v2 : List X.Tab := []
noncomputable def d8 : AO := .cells (u8s (nat_lit 40) (nat_lit 1404118619691439550996730455572938055733758225737319878115970907164549961023402617370106364249683)) (nat_lit 5) true true
noncomputable def e8 : Entry := ⟨[(.agg ⟨[(.int .i64 (.ofNat (nat_lit 1))), (.int .i64 (.ofNat (nat_lit 1))), (.int .i64 (.ofNat (nat_lit 1))), (.int .i64 (.ofNat (nat_lit 0))), (.int .i64 (.ofNat (nat_lit 1)))]⟩)], [], (nat_lit 254), (.tuple ⟨[(.slice (some ⟨(nat_lit 392), (nat_lit 0), none⟩) (nat_lit 40) (nat_lit 1180591620717411303425)), (.int .i64 (.ofNat (nat_lit 0)))]⟩), [((nat_lit 392), d8)], (nat_lit 393)⟩
noncomputable def t8 : List (Nat × List Entry) := []
noncomputable def v8 : List X.Tab := []
noncomputable def d9 : AO := .map [⟨(tx (nat_lit 6) (nat_lit 127961796865894)), (.agg ⟨[(.slice (some ⟨(nat_lit 228), (nat_lit 0), none⟩) (nat_lit 40) (nat_lit 1180591620717411303425)), (.bool true)]⟩), (nat_lit 1)⟩, ⟨(tx (nat_lit 4) (nat_lit 1953460066)), (.agg ⟨[(.slice (some ⟨(nat_lit 669), (nat_lit 0), none⟩) (nat_lit 37) (nat_lit 1180591620717411303425)), (.bool true)]⟩), (nat_lit 3)⟩] (nat_lit 4)
noncomputable def d10 : AO := .cells [(.int .i64 (.ofNat (nat_lit 1048576))), (.map (some (nat_lit 5))), (.bool false), (.bool false), (.bool false), (.pointer none), (.int .i64 (.ofNat (nat_lit 6)))] (nat_lit 85) false true
noncomputable def d11 : AO := .map [⟨(tx (nat_lit 6) (nat_lit 127961796865894)), (.agg ⟨[(.slice (some ⟨(nat_lit 415), (nat_lit 0), none⟩) (nat_lit 40) (nat_lit 1180591620717411303425)), (.bool true)]⟩), (nat_lit 1)⟩, ⟨(tx (nat_lit 4) (nat_lit 1953460066)), (.agg ⟨[(.slice (some ⟨(nat_lit 681), (nat_lit 0), none⟩) (nat_lit 37) (nat_lit 1180591620717411303425)), (.bool true)]⟩), (nat_lit 3)⟩] (nat_lit 4)
noncomputable def d12 : AO := .cells [(.int .i64 (.ofNat (nat_lit 1048576))), (.map (some (nat_lit 9))), (.bool false), (.bool false), (.bool false), (.pointer none), (.int .i64 (.ofNat (nat_lit 6)))] (nat_lit 85) false true
noncomputable def d13 : AO := .cells [(.pointer (some ⟨(nat_lit 6), (nat_lit 0), none⟩)), (.pointer (some ⟨(nat_lit 10), (nat_lit 0), none⟩))] (nat_lit 51) true true
noncomputable def d14 : AO := .cells [(.slice (some ⟨(nat_lit 717), (nat_lit 0), none⟩) (nat_lit 1) (nat_lit 1180591620717411303425))] (nat_lit 110) false true
noncomputable def d15 : AO := .cells [(.slice (some ⟨(nat_lit 454), (nat_lit 0), none⟩) (nat_lit 2) (nat_lit 1180591620717411303425)), (.int .i64 (.ofNat (nat_lit 1)))] (nat_lit 183) false true
noncomputable def d16 : AO := .cells (u8s (nat_lit 37) (nat_lit 7736988423922592430970917915627137151489019240978521519661843252039709459808224176851539)) (nat_lit 5) true true
noncomputable def d17 : AO := .cells [(.pointer (some ⟨(nat_lit 455), (nat_lit 0), none⟩))] (nat_lit 114) true true
noncomputable def e32 : Entry := ⟨[(.int .i64 (.ofNat (nat_lit 1))), (.int .i64 (.ofNat (nat_lit 1))), (.int .i64 (.ofNat (nat_lit 1)))], [], (nat_lit 5), (.tuple ⟨[(.slice (some ⟨(nat_lit 12), (nat_lit 0), none⟩) (nat_lit 2) (nat_lit 1180591620717411303425)), (.pointer (some ⟨(nat_lit 441), (nat_lit 0), none⟩))]⟩), [((nat_lit 5), d9), ((nat_lit 6), d10), ((nat_lit 9), d11), ((nat_lit 10), d12), ((nat_lit 12), d13), ((nat_lit 228), d7), ((nat_lit 415), d8), ((nat_lit 441), d14), ((nat_lit 454), d13), ((nat_lit 455), d15), ((nat_lit 669), d16), ((nat_lit 681), d16), ((nat_lit 717), d17)], (nat_lit 718)⟩
noncomputable def t32 : List (Nat × List Entry) := [((nat_lit 38), [e2, e8])]
noncomputable def v32 : List X.Tab := [.told (nat_lit 115) u115]
noncomputable def d18 : AO := .cells (u8s (nat_lit 64) (nat_lit 315684040783403026461198565492879320519372303033823910828724750665742568755751545437592878574175936176031276695822391845783248645128493468529036736594176)) (nat_lit 430) false false
noncomputable def d19 : AO := .map [⟨(tx (nat_lit 6) (nat_lit 127961796865894)), (.agg ⟨[(.slice (some ⟨(nat_lit 228), (nat_lit 0), none⟩) (nat_lit 40) (nat_lit 1180591620717411303425)), (.bool true)]⟩), (nat_lit 1)⟩, ⟨(tx (nat_lit 4) (nat_lit 1953460066)), (.agg ⟨[(.slice (some ⟨(nat_lit 669), (nat_lit 0), none⟩) (nat_lit 37) (nat_lit 1180591620717411303425)), (.bool true)]⟩), (nat_lit 3)⟩, ⟨(tx (nat_lit 40) (nat_lit 402068147938053662568474674102503927454626733620075815519443126178300183676355670986402451042163)), (.agg ⟨[(.slice (some ⟨(nat_lit 1032), (nat_lit 0), none⟩) (nat_lit 40) (nat_lit 1180591620717411303425)), (.bool true)]⟩), (nat_lit 6)⟩, ⟨(tx (nat_lit 7) (nat_lit 32483350579130218)), (.agg ⟨[(.slice (some ⟨(nat_lit 1044), (nat_lit 0), none⟩) (nat_lit 147) (nat_lit 1180591620717411303425)), (.bool true)]⟩), (nat_lit 7)⟩] (nat_lit 8)
noncomputable def d20 : AO := .cells [(.int .i64 (.ofNat (nat_lit 1048576))), (.map (some (nat_lit 5))), (.bool false), (.bool false), (.bool false), (.pointer none), (.int .i64 (.ofNat (nat_lit 12)))] (nat_lit 85) false true
noncomputable def d21 : AO := .map [⟨(tx (nat_lit 6) (nat_lit 127961796865894)), (.agg ⟨[(.slice (some ⟨(nat_lit 415), (nat_lit 0), none⟩) (nat_lit 40) (nat_lit 1180591620717411303425)), (.bool true)]⟩), (nat_lit 1)⟩, ⟨(tx (nat_lit 4) (nat_lit 1953460066)), (.agg ⟨[(.slice (some ⟨(nat_lit 681), (nat_lit 0), none⟩) (nat_lit 37) (nat_lit 1180591620717411303425)), (.bool true)]⟩), (nat_lit 3)⟩, ⟨(tx (nat_lit 40) (nat_lit 402068147938053662568474674102503927454626733620075815519443126178300183676355670986402451042163)), (.agg ⟨[(.slice (some ⟨(nat_lit 1056), (nat_lit 0), none⟩) (nat_lit 40) (nat_lit 1180591620717411303425)), (.bool true)]⟩), (nat_lit 6)⟩, ⟨(tx (nat_lit 7) (nat_lit 32483350579130218)), (.agg ⟨[(.slice (some ⟨(nat_lit 1068), (nat_lit 0), none⟩) (nat_lit 147) (nat_lit 1180591620717411303425)), (.bool true)]⟩), (nat_lit 7)⟩] (nat_lit 8)
noncomputable def d22 : AO := .cells [(.int .i64 (.ofNat (nat_lit 1048576))), (.map (some (nat_lit 9))), (.bool false), (.bool false), (.bool false), (.pointer none), (.int .i64 (.ofNat (nat_lit 12)))] (nat_lit 85) false true
noncomputable def e70 : Entry := ⟨[(.pointer (some ⟨(nat_lit 441), (nat_lit 0), none⟩)), (tx (nat_lit 4) (nat_lit 1936158572)), (.int .i64 (.ofNat (nat_lit 5)))], [((nat_lit 4), d18), ((nat_lit 5), d9), ((nat_lit 6), d10), ((nat_lit 9), d11), ((nat_lit 10), d12), ((nat_lit 441), d14), ((nat_lit 454), d13), ((nat_lit 455), d15), ((nat_lit 717), d17)], (nat_lit 718), (.int .i64 (.ofNat (nat_lit 0))), [((nat_lit 5), d19), ((nat_lit 6), d20), ((nat_lit 9), d21), ((nat_lit 10), d22), ((nat_lit 1032), d4), ((nat_lit 1044), d2), ((nat_lit 1056), d4), ((nat_lit 1068), d2)], (nat_lit 1123)⟩
noncomputable def t70 : List (Nat × List Entry) := []
noncomputable def v70 : List X.Tab := [.told (nat_lit 154) u154, .told (nat_lit 284) u284, .told (nat_lit 84) u84, .told (nat_lit 14) u14, .told (nat_lit 102) u102, .kin (nat_lit 238) x238, .told (nat_lit 115) u115, .told (nat_lit 24) u24, .told (nat_lit 143) u143, .told (nat_lit 285) u285, .kin (nat_lit 72) x72, .kin (nat_lit 112) x112]
noncomputable def e106 : Entry := ⟨[(.pointer (some ⟨(nat_lit 441), (nat_lit 0), none⟩)), (tx (nat_lit 4) (nat_lit 1936158572)), (.int .i64 (.ofNat (nat_lit 6)))], [((nat_lit 5), d19), ((nat_lit 6), d20), ((nat_lit 9), d21), ((nat_lit 10), d22), ((nat_lit 441), d14), ((nat_lit 454), d13), ((nat_lit 455), d15), ((nat_lit 717), d17), ((nat_lit 1032), d4), ((nat_lit 1044), d2), ((nat_lit 1056), d4), ((nat_lit 1068), d2)], (nat_lit 1123), (.int .i64 (.ofNat (nat_lit 7))), [], (nat_lit 1421)⟩
noncomputable def t106 : List (Nat × List Entry) := []
noncomputable def v106 : List X.Tab := [.told (nat_lit 154) u154, .told (nat_lit 284) u284, .told (nat_lit 84) u84, .told (nat_lit 14) u14, .told (nat_lit 102) u102, .kin (nat_lit 299) x299, .kin (nat_lit 238) x238, .kin (nat_lit 178) x178, .told (nat_lit 115) u115, .told (nat_lit 24) u24, .told (nat_lit 143) u143, .told (nat_lit 285) u285, .kin (nat_lit 72) x72]
noncomputable def e142 : Entry := ⟨[], [((nat_lit 4), d18)], (nat_lit 5), (.bool true), [], (nat_lit 1719)⟩
noncomputable def t142 : List (Nat × List Entry) := [((nat_lit 11), [e32]), ((nat_lit 12), [e70, e106])]
noncomputable def v142 : List X.Tab := [.told (nat_lit 154) u154, .told (nat_lit 284) u284, .told (nat_lit 84) u84, .told (nat_lit 14) u14, .told (nat_lit 102) u102, .kin (nat_lit 299) x299, .kin (nat_lit 238) x238, .kin (nat_lit 178) x178, .told (nat_lit 115) u115, .told (nat_lit 24) u24, .told (nat_lit 143) u143, .told (nat_lit 285) u285, .kin (nat_lit 72) x72]
end Go.Proofs.YtoddlefhlicfiaaGreatDoorR.Aw
