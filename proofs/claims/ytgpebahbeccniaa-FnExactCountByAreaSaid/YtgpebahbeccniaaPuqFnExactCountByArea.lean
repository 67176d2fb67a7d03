/- The program's CountByArea returns what the reference's returns, for all arguments (no condition). -/
import Derived.Test.YtgpebahbeccniaaQFnExactCountByAreax3
import Derived.Test.YtgpebahbeccniaaZpl
namespace Go.Proofs.Ytgpebahbeccniaa.PuqFnExactCountByArea
open Go.RowKit Go.Proofs.Ytgpebahbeccniaa.QFnExactCountByArea Go.Proofs.YtgpebahbeccniaaW.PrintWords Go.Proofs.YtgpebahbeccniaaW.PrintLast Go.Proofs.YtgpebahbeccniaaPl
set_option linter.unusedVariables false

theorem up {α : Type} (F : Nat → Option α) (hm : ∀ k, LeO (F k) (F (k + 1))) {k0 : Nat} {r : α} (h : F k0 = some r) : ∀ d, F (k0 + d) = some r
  | 0 => h
  | d + 1 => hm _ _ (up F hm h d)
theorem up' {α : Type} (F : Nat → Option α) (hm : ∀ k, LeO (F k) (F (k + 1))) {k0 : Nat} {r : α} (h : F k0 = some r) (k : Nat) (hk : k0 ≤ k) : F k = some r := by
  obtain ⟨d, rfl⟩ : ∃ d, k = k0 + d := ⟨k - k0, by omega⟩
  exact up F hm h d

theorem eqI_self (l : List Int) (hl : l.length ≤ 1048577) (k : Nat) (hk : l.length < k) : laws_eqIntS.f k l l = some true := by
  unfold laws_eqIntS.f
  rw [if_pos rfl]
  exact (loop_range (fun k (_ : Unit) i => laws_eqIntS.l0 k l l i) l.length (fun _ _ => ()) (fun _ => true) (fun _ _ => True)
    (fun k i _ hi _ => by
      refine ⟨?_, trivial⟩
      have e3 : wrap64 ((i : Int) + 1) = ((i + 1 : Nat) : Int) := by rw [w64 (by omega) (by omega)]; omega
      simp only [laws_eqIntS.l0, e3, if_true]
      repeat rw [if_pos (by omega)])
    (fun k _ _ => by simp only [laws_eqIntS.l0]; rw [if_neg (by omega)]) k () trivial hk).1


/-- What the marks are. -/
def Marked (a : Int) (n : Nat) (xs : List Int) : Prop := xs.length = n ∧ ∀ j : Nat, j < n → rd xs (j : Int) = a + j

theorem markI (l : List Int) (a : Int) (hl : l.length ≤ 1048577) (ha : 0 ≤ a) (ha' : a ≤ 1000000000000) (k : Nat) (hk : l.length < k) : ∃ xs, laws_markIntS.f k l a = some (a + l.length, xs) ∧ Marked a l.length xs := by
  unfold laws_markIntS.f
  have := loop_range (fun k (st : List Int × Int) i => laws_markIntS.l0 k st.1 st.2 i) l.length (fun st i => (st.1.set i st.2, st.2 + 1)) (fun st => (st.2, st.1)) (fun i st => st.1.length = l.length ∧ st.2 = a + i ∧ ∀ j : Nat, j < i → rd st.1 (j : Int) = a + j)
    (fun k i st hi hI => by
      obtain ⟨xs, x⟩ := st
      obtain ⟨h1, h2, h3⟩ := hI
      simp only at h1 h2 h3
      refine ⟨?_, ?_, ?_, ?_⟩
      · have e3 : wrap64 ((i : Int) + 1) = ((i + 1 : Nat) : Int) := by rw [w64 (by omega) (by omega)]; omega
        have e4 : wrap64 (x + 1) = x + 1 := w64 (by omega) (by omega)
        simp only [laws_markIntS.l0, e3, e4, Int.toNat_natCast]
        repeat rw [if_pos (by omega)]
      · simpa using h1
      · simp only; omega
      · intro j hj
        simp only
        by_cases e : j = i
        · subst e
          rw [rd_nat _ _ (by rw [List.length_set]; omega), List.getElem_set_self]; omega
        · rw [rd_nat _ _ (by rw [List.length_set]; omega), List.getElem_set_ne (by omega), ← rd_nat _ _ (by omega)]
          exact h3 j (by omega))
    (fun k st hI => by simp only [laws_markIntS.l0]; rw [if_neg (by omega)]) k (l, a) ⟨rfl, by simp, fun j hj => by omega⟩ hk
  obtain ⟨h1, h2⟩ := this
  refine ⟨_, ?_, h2.1, h2.2.2⟩
  rw [show laws_markIntS.l0 k l a 0 = _ from h1, h2.2.1]

theorem heldI (xs : List Int) (a : Int) (n : Nat) (hm : Marked a n xs) (hn : n ≤ 1048577) (ha : 0 ≤ a) (ha' : a ≤ 1000000000000) (k : Nat) (hk : n < k) : laws_heldIntS.f k xs a = some (a + n) := by
  unfold laws_heldIntS.f
  obtain ⟨h1, h2⟩ := hm
  have := loop_range (fun k (st : Int) i => laws_heldIntS.l0 k xs st i) n (fun st _ => st + 1) id (fun i st => st = a + i)
    (fun k i st hi hI => by
      subst hI
      refine ⟨?_, by omega⟩
      have e3 : wrap64 ((i : Int) + 1) = ((i + 1 : Nat) : Int) := by rw [w64 (by omega) (by omega)]; omega
      have e4 : wrap64 (a + i + 1) = a + i + 1 := w64 (by omega) (by omega)
      simp only [laws_heldIntS.l0, e3, e4, h2 i hi, if_true]
      repeat rw [if_pos (by omega)])
    (fun k st hI => by simp only [laws_heldIntS.l0]; rw [if_neg (by omega)]; rfl) k a (by simp) hk
  rw [this.1]
  exact congrArg some this.2

theorem tail1 (k : Nat) (hk : 1050000 < k) (x5 : List Int) (n : Nat) (hm : Marked 1 n x5) (hn : n ≤ 1048577) : laws_FnExactCountByArea.j1 (k + 1) x5 (1 + (n : Int)) false = some true := by
  simp only [laws_FnExactCountByArea.j1]
  rw [if_neg (by decide), heldI x5 1 n hm hn (by omega) (by omega) k (by omega)]
  simp only [Option.bind_some]
  rw [if_neg (by omega)]
  first | rfl | simp

theorem tail0 (k : Nat) (hk : 1050000 < k) (x0 : Int) (L : List Int) (b : Bool) (hL : L.length ≤ 1048577) (hi : ∀ k, 1050000 < k → impl_CountByArea.f k x0 = some (L, b)) : laws_FnExactCountByArea.j0 (k + 2) x0 L b L false = some true := by
  simp only [laws_FnExactCountByArea.j0]
  rw [if_neg (by decide)]
  obtain ⟨xs, h1, h2⟩ := markI L 1 hL (by omega) (by omega) (k + 1) (by omega)
  rw [h1]
  simp only [Option.bind_some]
  rw [heldI xs 1 L.length h2 hL (by omega) (by omega) (k + 1) (by omega)]
  simp only [Option.bind_some]
  rw [if_neg (by omega)]
  simp only [if_true]
  rw [hi (k + 1) (by omega)]
  simp only [Option.bind_some]
  rw [eqI_self L hL (k + 1) (by omega)]
  simp only [Option.bind_some, if_true]
  rw [show (b != b) = false by cases b <;> rfl]
  exact tail1 k hk xs L.length h2 hL

/-! ### Rows, their sums and their weighted sums -/
/-- The place values. -/
def pw : Nat → Int
  | 0 => 1
  | p + 1 => 4294967296 * pw p
theorem pw_add (a : Nat) : ∀ b : Nat, pw (a + b) = pw a * pw b
  | 0 => by simp [pw]
  | b + 1 => by
    show 4294967296 * pw (a + b) = pw a * (4294967296 * pw b)
    rw [pw_add a b, Int.mul_left_comm]
/-- A row read as one number. -/
def ev : List Int → Int
  | [] => 0
  | x :: xs => x + 4294967296 * ev xs
def sm : List Int → Int
  | [] => 0
  | x :: xs => x + sm xs
theorem sm_append (xs ys : List Int) : sm (xs ++ ys) = sm xs + sm ys := by
  induction xs with
  | nil => simp [sm]
  | cons x xs ih => simp only [List.cons_append, sm, ih]; omega
theorem ev_append (xs ys : List Int) : ev (xs ++ ys) = ev xs + pw xs.length * ev ys := by
  induction xs with
  | nil => simp [ev, pw]
  | cons x xs ih =>
    simp only [List.cons_append, ev, ih, List.length_cons, pw, Int.mul_add]
    rw [Int.mul_assoc]; omega
theorem sm_set (v : Int) : ∀ (xs : List Int) (p : Nat), p < xs.length → sm (xs.set p (xs.getD p 0 + v)) = sm xs + v
  | [], p, h => absurd h (Nat.not_lt_zero _)
  | x :: xs, 0, _ => by simp only [List.set_cons_zero, sm, List.getD_cons_zero]; omega
  | x :: xs, p + 1, h => by
    have ih := sm_set v xs p (by simpa using h)
    simp only [List.set_cons_succ, sm, List.getD_cons_succ, ih]; omega
theorem ev_set (v : Int) : ∀ (xs : List Int) (p : Nat), p < xs.length → ev (xs.set p (xs.getD p 0 + v)) = ev xs + pw p * v
  | [], p, h => absurd h (Nat.not_lt_zero _)
  | x :: xs, 0, _ => by simp only [List.set_cons_zero, ev, List.getD_cons_zero, pw]; omega
  | x :: xs, p + 1, h => by
    have ih := ev_set v xs p (by simpa using h)
    simp only [List.set_cons_succ, ev, List.getD_cons_succ, ih, pw, Int.mul_add]
    rw [Int.mul_assoc]; omega
theorem sm_nonneg (xs : List Int) (h : ∀ x ∈ xs, 0 ≤ x) : 0 ≤ sm xs := by
  induction xs with
  | nil => simp [sm]
  | cons x xs ih =>
    have h1 := h x (List.mem_cons_self ..)
    have h2 := ih (fun y hy => h y (List.mem_cons_of_mem _ hy))
    simp only [sm]; omega
theorem le_sm (xs : List Int) (h : ∀ x ∈ xs, 0 ≤ x) : ∀ p : Nat, p < xs.length → 0 ≤ xs.getD p 0 ∧ xs.getD p 0 ≤ sm xs := by
  induction xs with
  | nil => intro p hp; exact absurd hp (Nat.not_lt_zero _)
  | cons x xs ih =>
    have h1 := h x (List.mem_cons_self ..)
    have h2 : ∀ y ∈ xs, 0 ≤ y := fun y hy => h y (List.mem_cons_of_mem _ hy)
    have h3 := sm_nonneg xs h2
    intro p hp
    cases p with
    | zero => simp only [List.getD_cons_zero, sm]; omega
    | succ p =>
      have h4 := ih h2 p (by simpa using hp)
      simp only [List.getD_cons_succ, sm]; omega
def ps (xs : List Int) (b : Nat) : Int := sm (xs.take b)
def pd (xs : List Int) (b : Nat) : Int := ev (xs.take b)
theorem getD_el (xs : List Int) (b : Nat) (h : b < xs.length) : xs.getD b 0 = xs[b] := by
  rw [List.getD_eq_getElem?_getD, List.getElem?_eq_getElem h]; rfl
theorem take_snoc (xs : List Int) (b : Nat) (h : b < xs.length) : xs.take (b + 1) = xs.take b ++ [xs.getD b 0] := by
  rw [List.take_add_one, List.getElem?_eq_getElem h, getD_el xs b h]; rfl
theorem ps_succ (xs : List Int) (b : Nat) (h : b < xs.length) : ps xs (b + 1) = ps xs b + xs.getD b 0 := by
  unfold ps; rw [take_snoc xs b h, sm_append]; simp [sm]
theorem pd_succ (xs : List Int) (b : Nat) (h : b < xs.length) : pd xs (b + 1) = pd xs b + pw b * xs.getD b 0 := by
  unfold pd; rw [take_snoc xs b h, ev_append, List.length_take, Nat.min_eq_left (by omega)]; simp [ev]
theorem ps_full (xs : List Int) : ps xs xs.length = sm xs := by unfold ps; rw [List.take_length]
theorem pd_full (xs : List Int) : pd xs xs.length = ev xs := by unfold pd; rw [List.take_length]
theorem ps_bound (xs : List Int) (h : ∀ x ∈ xs, 0 ≤ x) (b : Nat) : 0 ≤ ps xs b ∧ ps xs b ≤ sm xs := by
  have e : sm xs = ps xs b + sm (xs.drop b) := by unfold ps; rw [← sm_append, List.take_append_drop]
  have h1 : 0 ≤ sm (xs.drop b) := sm_nonneg _ fun x hx => h x (List.mem_of_mem_drop hx)
  have h2 : 0 ≤ ps xs b := sm_nonneg _ fun x hx => h x (List.mem_of_mem_take hx)
  omega
/-- A row of L numbers, none below 0, with its sum and its weighted sum. -/
def RowL (L : Nat) (s d : Int) (xs : List Int) : Prop := xs.length = L ∧ (∀ x ∈ xs, 0 ≤ x) ∧ sm xs = s ∧ ev xs = d
theorem RowL_upd {L : Nat} {s d : Int} {xs : List Int} (h : RowL L s d xs) (p : Nat) (hp : p < L) (v : Int) (hv : 0 ≤ v) : RowL L (s + v) (d + pw p * v) (xs.set p (xs.getD p 0 + v)) := by
  obtain ⟨h1, h2, h3, h4⟩ := h
  refine ⟨by rw [List.length_set]; exact h1, fun x hx => ?_, by rw [sm_set v xs p (by omega), h3], by rw [ev_set v xs p (by omega), h4]⟩
  rcases List.mem_or_eq_of_mem_set hx with hx | hx
  · exact h2 x hx
  · have := (le_sm xs h2 p (by omega)).1; omega
theorem rd_gd (xs : List Int) (i : Nat) : rd xs (i : Int) = xs.getD i 0 := by unfold rd; rw [Int.toNat_natCast]
theorem mulb {u v : Int} (h1 : 0 ≤ u) (h2 : u ≤ 10000000) (h3 : 0 ≤ v) (h4 : v ≤ 10000000) : 0 ≤ u * v ∧ u * v ≤ 100000000000000 := by
  refine ⟨Int.mul_nonneg h1 h3, ?_⟩
  have := Int.mul_le_mul h2 h4 h3 (by omega : (0 : Int) ≤ 10000000)
  omega

/-! ### The numbers -/
def SL : List Int := [1, 1, 2, 5, 14, 42, 132, 429, 1430, 4862, 16796, 58786, 208012, 742900, 2674440, 9694845]
def DL : List Int := [1, 4294967296, 340282366920938463481821351505477763072, 497323236409786642182342194813971479898046169159029153950587719143646899870542394818560, 13407807929942597100300863722501453018107493640873186870508168845717132048212729095909665084546295595652016534518936820065445061735154644004614956136792064, 6668014432879854274441325577435909636793435320603359266404000743649152880405710832654997515180148065049418009750677500066297804889072465173821858691178602767155419319491540540410941898046682853514590856438366564202767222623505557023340101632, 61172327492847069475348552237392703980582636131056003390470430700847407207218727187316047827351458569933985715390499680691206930661609269674834715318152648211877462412786950579625220722989376014305448307503234916024702765386200733920897658919426042967445574256644774880147982347691147938264646068941703159184470882002226694097127374097040940204032, 10352213046768224943063018492525070184995578069968571106417813157978151035370224476828335814019443440247985075807552629515386703552561238794611836561585071583235784676366353609461730386210403091244938872765872029277199379896792613270343052654225007125093111130112925802635692770911297361900581346739082577350440064416081488485905807317667848819218745234713059906313679200544835546687135503073282365171064694093477020325838081977800389003574876555722211020152517614668611584, 32317006071311007302466785098207083497854554605428749912647034454058803826626200919826335794915927030602912254004851937513634371586463983458816032946153948715969820416275347693424465769609268814475594365693415731146276068989611142820225375960218241109080049783009539140728394860776300848487578639787213894802536795253333416796562420004168241136684868289468602142738925332487183864698466647101277317894345097953942359761053343010121320364095883713358650743151167322272528947106042821244886543342133506354944330395042143201759662072226305643591730657934318469459489786625250939409019004295969869120009417977117645209600, 1861010232480733685994302729504669046362034755981429854051632151457217284974311906568735037781862476188736333174456561923695850583068639182879890413359798998371729326011199976184289811183355733341062773753902978240693445292520558349401620428671226800856174651594639336402548406609360047524697691925244034845174300646043471336837159501619148670566459606516587488300157259115834124280035862158833657704038986266985334436530673056957434239903313854416096685009856847758466274341815207623073395903528841611256504712376499689451156242697731384265407169029831020341580766391866517612889162291858269625897181046215493567252368307259169177926304715438967665460797769878727263084624729496469518278124798626735182537406270108541468892536165547921039204198836671651564070370138379923994181632, 1976906478982563993761394754803641594987660026665832577024649552178952981497839258070156354620753535331721500813865185079862006744244890265775993159736260273213379832677036069920326950159246744635821041164516653761085927420374014370987110513791819481688719825092955331843348360621764006825483950499029691005571810653367691133167340094708979928035916578060822063923773062879648963759414420853114586136057672338926164652389038511029877803402969794408791174427917773258405218277036725930216210425175965397438079416199008514076022213868366479429777817333095480241341819261228967419871982159993223569102385460480644774144375534789349040501179364249360732311484411701334488721203888640853455606490416586744132991315438066186506943599413580606646395187077207645571469533012831877034080064362089479688094922084068275981229182482287922466009851980452109438354531518241788011150439139029039550324801694788635938616767750200125270580452823033582080490103903127590120242282496, 38738536626472212210228135613804925830711880259688840807188570353413251306354637281551354837052797601081555686253312261795631778968807778680066712399810525299200921384247807869123717658639351187218034657036923109138424682441803695171079969626365369378766959618739541726316354058192174646571035004834971329251570300054607784139022966200653270289633496880518900849670768446692365340228654863396349105834074672713356139803275320914975414254116582086776533983708204053930230394501094739969890096777514459866510058811676344348756874155909875517040872788311313053221975127300135421437516576034393888818922297830714459176995768570555766160823241241399472909439755855100114759220191557616532280300176404171076476028342780274632224002377564846924565987856971430914196045836274252387566799514827027773384359761612160502594571883610637994030476157554347727447908964701083250731821496347535115675398526779109572166724968755547351868368958597450989042198918832386243638337308807936781005598215847949630189806326060685271444274186224235320213786936125584622768272424315444105209023179906734641511770015347154236697373598419814356983587943282914165317093241976007991575034730643456, 14002965526155144835314407734920066007488448419698420023889052887104693052857680457723754902614262022378108974240189383583238555961679360059769459878712351975026488046763526684282867952490470014247555976821290736624512097829637989952147262195373364097486475975823599893122069935779377682315144243077604557073958766565128422694767978348816065723117782518571589590819454868651678731880826149752991839742084982491218064046364327786297270415200272649262309511789187144428485291456426690950169790071195492706390924509346084641771537339536533777325604879825422724950001899616879939227433955174264552377742241149185119667958721822606572129003276711306489086438415252283590922402203133455277223771115968934985337756931287619611441024801995036476814007975007823822182953313448218657085052477056210365397545957313605411250521413064629955071059655099346122186214932944175631754392352911689610567646938592156435866400508369267291231671433190117227025451533532562172804371751254765482162136545841106791886159327867654617308969620177241300418066185049130912891070516220521612400893562392472838413405157548110573481142932883534768298688521129761544176884472279365319947034704055324211342456926272163093438478108683589867266751151477148425706640568081416880160751928990670002785053166047935775169214250834505242523912645566369090564701246299360221110416782366235672113746278900125625598167223098809516032, 93371976231521548300907158877091366485371435372459212414941471020572634334225830804238268530206551970342211835258134515761762805586117736108239100344422456366477940452228060598404260754909404999442342993286822735275118361067362303916979162927425740048340225246436305345972816087158665038379765924846466241950378553372181462025143995857505194024281864635730246766219377765585813879488269091416580703650728517319883163885604057166413103812817242899048473985530048184080020982766172816258315361464725119528589067276276875267426715545902816593226323004569507795181704323808564516464832899496731359394635303107574615624833545020426478525072711555242742904612638271596465847818731739183645126847926805731274120342694684110953651287781461861847942181692598767209322659229473966451120063732633464934075771228791055071679674121557329785439647990362253287418545163928870595837845491855477430738895002952087564198192235797395445587663623370333103053993502176908153754048451295939945513973243005101583511449572568276830699133306004313131880007965416657281040880919880756407093957677546823665479688261102641178541418870029220910075978619507695841274054291454052468283616594058511733222337095729697162739807035342103355907717035849937722695718028611704772875679486605645593965870987508396222969103255294042535984654862978687220627902960353044201583199609182437344466044053494261594792890570875395297126924721140681541758662143817807678345666619297015069224161262399590930649276688299194419748825769861260892980727576853688008936027401327643902881265830459030446440304768199801838140449980542139855103866526401291926442731649967244923140833280, 11485047732582817770046130800783477014191425412767106169904040476388380438903125193581988412817708127792826621258273239538055316193149098406367395013336078857732941873225502156897280201213715973320005937370419287494009159466278148985252726984100111694259658285643887941728381817851050200248954820544126352983813508069159438133434139336214121851914375621688843139523735122139399187196536599768047570761458150769049050979120813246347808700441211591401342535151118217256737817589146050146386662832577034041001302454897223893653640490799112061471675610789674717853484387093810729639440849497717296497188570985899539189696673762776096352475213957432551876927352538093198889190102826729217637518104369935576831860568286501253911898100687720726540533807647555756340946790178976678868247652405728801881231071769741062007551894255117788840750817779231808846451146727124340890550679631075143305676154801719681917807846583066006411084389254585203686492250345131023735068790748512905569450427982949470822352777186231287998740209686070749909012823852055380416869010447450510228255335197265908139148785111475017161231100293679134888320539573639398002181062629740862538791946059208509500240892397272710704535616043577220176764500953452624834918113477313631733225256486831326492295695347177536966990648082137997724335424808887391446558830330201375578673703423113236829388140952952985100373593993734331162643701093069790395918922999201211721159226220316801351689548884914253159355159276631199045949836870593289190525665298491649401354145849968530523393959197985365956088224003007689010607891136185786429963357373439847181359902370916966113873799552795279657500802066429566486011091945343909957813922012769895321587897813611673414811877579181815485775289582193515041386058795381616115459755669969024520607659199842102482926272990554528090895698727958925928170114688472178295652601356930983500800762797096960, 26059662129249685388789084119172907794300958584465061387902200368723325763786434014878440222577286585864285851968667393373171769226704406990676737361381446989977476745066377616633786174629566170288898320175972470840032848993819948282947705448103078806717749214977049175236492485081829539252402831255953878078559832056649105946503046812573764354873403036050041862513199490146259198436761630042683808042621571160142894755942315386273671191449688021562287710744954809643837112817155855985980475663777339645705671140207078324912049418717657604283619203716594868831172596388707308201060909517466718160421155803189826966614284128322873370899656356612673448851568910949820845088240274171354590558210070053941627491515339417395994774911298863902230373719128877614729629466740299770756053087766161475997783243869549547318090570477962508576445679690873443931092074054721776626428322744860674334395931342112657059720306496647090080516557699748650784849393951357571611501034218297723415346278673214080858149769553196393426137460826900388240308071056453753179945143549949517049894245778801095783055370283335784173705887774983210620669643916805167976948647010072180687979836674063814382243315328517810164726212428455034791194387161408737297729368116076079511002974612488839872895480267048620365421840084503027703120127006851777985754816990762848041923337557963363721165787524623946399123279233589446835624451611763415272841528693851209400812984897778772216732632336525352318520050526363085930476188051593582723713398130137855524851864586275816947076646232994613838818020852845875406899863493710442599357966781959314010947762596782009584984911108741126608863257543570381248708234383103542900008476554657691020777395228482148941250669011675700041940036270248059714447409827517911284995442019189812904563263082565831597861036183009187748378819012487817824377335261858368109892118019510842269152837655069526282472437153841475679107613795736526197191132816699894999010025516616521601168577881973806789002470039846810057404051070007873228974294437564886246465228440356968825967265678069694206929368009779754562258206936679069745208261387498723329033387941346940399783187339760648585216000]
def S (n : Nat) : Int := SL.getD n 0
def DD (n : Nat) : Int := DL.getD n 0
def pS (k : Nat) : Nat → Int
  | 0 => 0
  | g + 1 => pS k g + S g * S (k - 1 - g)
def pD (k : Nat) : Nat → Int
  | 0 => 0
  | g + 1 => pD k g + pw (2 * g + 1) * (DD g * DD (k - 1 - g))
theorem S_b : ∀ g : Nat, g < 16 → 0 ≤ S g ∧ S g ≤ 10000000 := by decide
theorem pS_b : ∀ k : Nat, k < 16 → ∀ g : Nat, g < 17 → 0 ≤ pS k g ∧ pS k g ≤ 100000000000000 := by decide +kernel
theorem tab_S : ∀ k : Nat, k < 16 → 0 < k → pS k k = S k ∧ pD k k = DD k := by decide +kernel
theorem fits : ∀ k : Nat, k < 16 → ∀ g : Nat, g < k → g * g + 1 + ((k - 1 - g) * (k - 1 - g) + 1) + (2 * (g + 1) - 1) ≤ k * k + 1 + 1 := by decide +kernel
theorem sq_b : ∀ k : Nat, k < 16 → k * k ≤ 225 := by decide
def Good (n : Nat) (out : List (List Int)) : Prop := out.length = n ∧ ∀ i : Nat, i < n → RowL (i * i + 1) (S i) (DD i) (out.getD i [])

/-! ### The loops -/
theorem a_idx (a f b : Nat) (ha : a ≤ 300) (hf : f ≤ 16) (hf1 : 1 ≤ f) (hb : b ≤ 300) : wrap64 (wrap64 (wrap64 ((a : Int) + wrap64 (2 * (f : Int))) - 1) + (b : Int)) = ((a + 2 * f - 1 + b : Nat) : Int) := by
  rw [w64 (x := 2 * (f : Int)) (by omega) (by omega), w64 (x := (a : Int) + 2 * (f : Int)) (by omega) (by omega), w64 (x := (a : Int) + 2 * (f : Int) - 1) (by omega) (by omega), w64 (by omega) (by omega)]; omega
theorem a_suc (a : Nat) (h : a ≤ 1000) : wrap64 ((a : Int) + 1) = ((a + 1 : Nat) : Int) := by rw [w64 (by omega) (by omega)]; omega
theorem a_lt {a b : Nat} (h : a < b) : (a : Int) < (b : Int) := by omega
theorem a_nlt {a b : Nat} (h : ¬ a < b) : ¬ (a : Int) < (b : Int) := by omega
theorem l3_ok (n : Int) (rows : List (List Int)) (k f a : Nat) (x s0 d0 : Int) (A C : List Int) (G : List (List Int) → Prop) (B : Nat)
    (ha : a ≤ 300) (hf : f ≤ 16) (hf1 : 1 ≤ f) (hx : 0 ≤ x) (hx2 : x ≤ 10000000) (hC : ∀ y ∈ C, 0 ≤ y) (hC2 : sm C ≤ 10000000) (hCl : C.length ≤ 300) (hfit : a + 2 * f - 1 + C.length ≤ k * k + 1) (hs0 : 0 ≤ s0) (hs2 : s0 ≤ 1000000000000000)
    (H : ∀ row', RowL (k * k + 1) (s0 + x * sm C) (d0 + x * (pw (a + 2 * f - 1) * ev C)) row' → ∀ q, B < q → ∃ out, spec_reAreas.l2 q n rows (k : Int) row' (f : Int) A (A.length : Int) ((a + 1 : Nat) : Int) = some out ∧ G out) (e : Nat) :
    ∀ (b q : Nat) (row : List Int), b + e = C.length → B + e + 1 < q → RowL (k * k + 1) (s0 + x * ps C b) (d0 + x * (pw (a + 2 * f - 1) * pd C b)) row →
      ∃ out, spec_reAreas.l3 q n rows (k : Int) row (f : Int) (a : Int) x A (A.length : Int) (a : Int) C (C.length : Int) (b : Int) = some out ∧ G out := by
  induction e with
  | zero =>
    intro b q row h1 h2 h3
    obtain ⟨q, rfl⟩ : ∃ m, q = m + 1 := ⟨q - 1, by omega⟩
    obtain rfl : b = C.length := by omega
    rw [ps_full, pd_full] at h3
    simp only [spec_reAreas.l3]
    rw [if_neg (a_nlt (Nat.lt_irrefl _)), a_suc a (by omega)]
    exact H row h3 q (by omega)
  | succ e ih =>
    intro b q row h1 h2 h3
    obtain ⟨q, rfl⟩ : ∃ m, q = m + 1 := ⟨q - 1, by omega⟩
    have hb : b < C.length := by omega
    have hp : a + 2 * f - 1 + b < k * k + 1 := by omega
    have hy := le_sm C hC b hb
    have hpb := ps_bound C hC b
    have hpb1 := ps_bound C hC (b + 1)
    have m1 := mulb hx hx2 hy.1 (by omega)
    have m2 := mulb hx hx2 hpb.1 (by omega)
    have hr := le_sm row h3.2.1 (a + 2 * f - 1 + b) (by rw [h3.1]; exact hp)
    rw [h3.2.2.1] at hr
    have hu := RowL_upd h3 (a + 2 * f - 1 + b) hp (x * C.getD b 0) m1.1
    have e1 : s0 + x * ps C b + x * C.getD b 0 = s0 + x * ps C (b + 1) := by rw [ps_succ C b hb, Int.mul_add]; omega
    have e2 : d0 + x * (pw (a + 2 * f - 1) * pd C b) + pw (a + 2 * f - 1 + b) * (x * C.getD b 0) = d0 + x * (pw (a + 2 * f - 1) * pd C (b + 1)) := by
      rw [pd_succ C b hb, pw_add]
      generalize pw (a + 2 * f - 1) = z
      generalize C.getD b 0 = y
      generalize pw b = u
      generalize pd C b = v
      rw [Int.mul_add, Int.mul_add, show z * u * (x * y) = x * (z * (u * y)) by ac_rfl]
      omega
    rw [e1, e2] at hu
    have f1 := ih (b + 1) q _ (by omega) (by omega) hu
    have w1 : wrap64 (x * C.getD b 0) = x * C.getD b 0 := w64 (by omega) (by omega)
    have w2 : wrap64 (row.getD (a + 2 * f - 1 + b) 0 + x * C.getD b 0) = row.getD (a + 2 * f - 1 + b) 0 + x * C.getD b 0 := w64 (by omega) (by omega)
    simp only [spec_reAreas.l3, a_idx a f b ha hf hf1 (by omega), rd_gd, Int.toNat_natCast, w1, w2, a_suc b (by omega)]
    rw [if_pos (a_lt hb), if_pos (Int.natCast_nonneg b), if_pos (a_lt hb), if_pos (Int.natCast_nonneg _), if_pos (a_lt (by rw [h3.1]; exact hp))]
    exact f1
theorem rdL1g (xs : List (List Int)) (i : Nat) : rd_L1 xs (i : Int) = xs.getD i [] := by unfold rd_L1; rw [Int.toNat_natCast]
theorem a_kf (k f : Nat) (hk : k ≤ 16) (hf : f ≤ k) : wrap64 ((k : Int) - (f : Int)) = ((k - f : Nat) : Int) := by rw [w64 (by omega) (by omega)]; omega
theorem l2_ok (n : Int) (rows : List (List Int)) (k f : Nat) (s0 d0 : Int) (A C : List Int) (G : List (List Int) → Prop) (B : Nat)
    (hk : k ≤ 16) (hf : f ≤ k) (hf1 : 1 ≤ f) (hA : ∀ y ∈ A, 0 ≤ y) (hA2 : sm A ≤ 10000000) (hAl : A.length ≤ 300) (hC : ∀ y ∈ C, 0 ≤ y) (hC2 : sm C ≤ 10000000) (hCl : C.length ≤ 300)
    (hfit : A.length + C.length + (2 * f - 1) ≤ k * k + 2) (hs0 : 0 ≤ s0) (hs2 : s0 ≤ 100000000000000) (hr : rows.getD (k - f) [] = C) (hrl : k - f < rows.length)
    (H : ∀ row', RowL (k * k + 1) (s0 + sm A * sm C) (d0 + pw (2 * f - 1) * (ev A * ev C)) row' → ∀ q, B < q → ∃ out, spec_reAreas.l1 q n rows (k : Int) row' ((f + 1 : Nat) : Int) = some out ∧ G out) (e : Nat) :
    ∀ (a q : Nat) (row : List Int), a + e = A.length → B + e * 310 + 1 < q → RowL (k * k + 1) (s0 + ps A a * sm C) (d0 + pw (2 * f - 1) * (pd A a * ev C)) row →
      ∃ out, spec_reAreas.l2 q n rows (k : Int) row (f : Int) A (A.length : Int) (a : Int) = some out ∧ G out := by
  induction e with
  | zero =>
    intro a q row h1 h2 h3
    obtain ⟨q, rfl⟩ : ∃ m, q = m + 1 := ⟨q - 1, by omega⟩
    obtain rfl : a = A.length := by omega
    rw [ps_full, pd_full] at h3
    simp only [spec_reAreas.l2]
    rw [if_neg (a_nlt (Nat.lt_irrefl _)), a_suc f (by omega)]
    exact H row h3 q (by omega)
  | succ e ih =>
    intro a q row h1 h2 h3
    obtain ⟨q, rfl⟩ : ∃ m, q = m + 1 := ⟨q - 1, by omega⟩
    have ha : a < A.length := by omega
    have hx := le_sm A hA a ha
    have hpa := ps_bound A hA a
    have hC0 := sm_nonneg C hC
    have m2 := mulb hpa.1 (by omega) hC0 hC2
    have H' : ∀ row', RowL (k * k + 1) (s0 + ps A a * sm C + A.getD a 0 * sm C) (d0 + pw (2 * f - 1) * (pd A a * ev C) + A.getD a 0 * (pw (a + 2 * f - 1) * ev C)) row' → ∀ q, B + e * 310 + 1 < q → ∃ out, spec_reAreas.l2 q n rows (k : Int) row' (f : Int) A (A.length : Int) ((a + 1 : Nat) : Int) = some out ∧ G out := by
      intro row' hrow' q' hq'
      refine ih (a + 1) q' row' (by omega) hq' ?_
      have e1 : s0 + ps A a * sm C + A.getD a 0 * sm C = s0 + ps A (a + 1) * sm C := by rw [ps_succ A a ha, Int.add_mul]; omega
      have e2 : d0 + pw (2 * f - 1) * (pd A a * ev C) + A.getD a 0 * (pw (a + 2 * f - 1) * ev C) = d0 + pw (2 * f - 1) * (pd A (a + 1) * ev C) := by
        rw [pd_succ A a ha, show a + 2 * f - 1 = a + (2 * f - 1) by omega, pw_add]
        generalize pw (2 * f - 1) = z
        generalize A.getD a 0 = x
        generalize pw a = u
        generalize pd A a = v
        generalize ev C = c
        rw [Int.add_mul, Int.mul_add, show x * (u * z * c) = z * (u * x * c) by ac_rfl]
        omega
      rw [e1, e2] at hrow'
      exact hrow'
    have f1 := l3_ok n rows k f a (A.getD a 0) (s0 + ps A a * sm C) (d0 + pw (2 * f - 1) * (pd A a * ev C)) A C G (B + e * 310 + 1) (by omega) (by omega) hf1 hx.1 (by omega) hC hC2 hCl (by omega) (by omega) (by omega) H' C.length 0 q row (by omega) (by omega) (by
        rw [show ps C 0 = 0 from rfl, show pd C 0 = 0 from rfl, Int.mul_zero, Int.mul_zero, Int.mul_zero, Int.add_zero, Int.add_zero]; exact h3)
    simp only [spec_reAreas.l2, a_kf k f hk hf, rd_gd, rdL1g, hr]
    rw [if_pos (a_lt ha), if_pos (Int.natCast_nonneg a), if_pos (a_lt ha), if_pos (Int.natCast_nonneg _), if_pos (a_lt hrl)]
    exact f1
theorem a_pred (g : Nat) (h : g ≤ 100) : wrap64 (((g + 1 : Nat) : Int) - 1) = (g : Int) := by rw [w64 (by omega) (by omega)]; omega
theorem a_le {a b : Nat} (h : a ≤ b) : (a : Int) ≤ (b : Int) := by omega
theorem a_nle {a b : Nat} (h : ¬ a ≤ b) : ¬ (a : Int) ≤ (b : Int) := by omega
theorem l1_ok (n : Int) (rows : List (List Int)) (k : Nat) (hk1 : 1 ≤ k) (hk : k < 16) (hrows : Good k rows) (G : List (List Int) → Prop) (B : Nat)
    (H : ∀ row, RowL (k * k + 1) (S k) (DD k) row → ∀ q, B < q → ∃ out, spec_reAreas.l0 q n (rows ++ [row]) ((k + 1 : Nat) : Int) = some out ∧ G out) (e : Nat) :
    ∀ (g q : Nat) (row : List Int), g + e = k → B + e * 100000 + 1 < q → RowL (k * k + 1) (pS k g) (pD k g) row → ∃ out, spec_reAreas.l1 q n rows (k : Int) row ((g + 1 : Nat) : Int) = some out ∧ G out := by
  induction e with
  | zero =>
    intro g q row h1 h2 h3
    obtain ⟨q, rfl⟩ : ∃ m, q = m + 1 := ⟨q - 1, by omega⟩
    obtain rfl : g = k := by omega
    have ht := tab_S g hk (by omega)
    rw [ht.1, ht.2] at h3
    have hl : rows.length < 5864062014805 := by rw [hrows.1]; omega
    simp only [spec_reAreas.l1]
    rw [if_neg (a_nle (by omega)), if_pos hl, a_suc g (by omega)]
    exact H row h3 q (by omega)
  | succ e ih =>
    intro g q row h1 h2 h3
    obtain ⟨q, rfl⟩ : ∃ m, q = m + 1 := ⟨q - 1, by omega⟩
    have hg : g < k := by omega
    obtain ⟨a1, a2, a3, a4⟩ := hrows.2 g hg
    obtain ⟨c1, c2, c3, c4⟩ := hrows.2 (k - (g + 1)) (by omega)
    have sb1 := S_b g (by omega)
    have sb2 := S_b (k - (g + 1)) (by omega)
    have pb := pS_b k hk g (by omega)
    have sq1 := sq_b g (by omega)
    have sq2 := sq_b (k - (g + 1)) (by omega)
    have ft := fits k hk g hg
    rw [show k - 1 - g = k - (g + 1) by omega] at ft
    have H' : ∀ row', RowL (k * k + 1) (pS k g + sm (rows.getD g []) * sm (rows.getD (k - (g + 1)) [])) (pD k g + pw (2 * (g + 1) - 1) * (ev (rows.getD g []) * ev (rows.getD (k - (g + 1)) []))) row' →
        ∀ q, B + e * 100000 + 1 < q → ∃ out, spec_reAreas.l1 q n rows (k : Int) row' ((g + 1 + 1 : Nat) : Int) = some out ∧ G out := by
      intro row' hrow' q' hq'
      refine ih (g + 1) q' row' (by omega) hq' ?_
      rw [a3, a4, c3, c4, show 2 * (g + 1) - 1 = 2 * g + 1 by omega] at hrow'
      simp only [pS, pD]
      rw [show k - 1 - g = k - (g + 1) by omega]
      exact hrow'
    have f1 := l2_ok n rows k (g + 1) (pS k g) (pD k g) (rows.getD g []) (rows.getD (k - (g + 1)) []) G (B + e * 100000 + 1) (by omega) (by omega) (by omega) a2 (by rw [a3]; exact sb1.2) (by rw [a1]; omega) c2 (by rw [c3]; exact sb2.2) (by rw [c1]; omega) (by rw [a1, c1]; omega) pb.1 pb.2 rfl (by rw [hrows.1]; omega) H' (rows.getD g []).length 0 q row (by omega) (by rw [a1]; omega) (by
        rw [show ps (rows.getD g []) 0 = 0 from rfl, show pd (rows.getD g []) 0 = 0 from rfl, Int.zero_mul, Int.zero_mul, Int.mul_zero, Int.add_zero, Int.add_zero]; exact h3)
    simp only [spec_reAreas.l1, a_pred g (by omega), rdL1g]
    rw [if_pos (a_le (by omega)), if_pos (Int.natCast_nonneg g), if_pos (a_lt (by rw [hrows.1]; exact hg))]
    exact f1
theorem a_sq (k : Nat) (h : k * k ≤ 225) : wrap64 (wrap64 ((k : Int) * (k : Int)) + 1) = ((k * k + 1 : Nat) : Int) := by
  have e : (k : Int) * (k : Int) = ((k * k : Nat) : Int) := by rw [Int.natCast_mul]
  rw [e, w64 (x := ((k * k : Nat) : Int)) (by omega) (by omega), w64 (by omega) (by omega)]; omega
theorem Row0 (L : Nat) : RowL L 0 0 (List.replicate L 0) := by
  refine ⟨by simp, fun x hx => by rw [List.eq_of_mem_replicate hx]; exact Int.le_refl _, ?_, ?_⟩
  · induction L with
    | zero => rfl
    | succ L ih => rw [List.replicate_succ]; simp only [sm, ih]; rfl
  · induction L with
    | zero => rfl
    | succ L ih => rw [List.replicate_succ]; simp only [ev, ih]; rfl
theorem Good_snoc {k : Nat} {rows : List (List Int)} (h : Good k rows) {row : List Int} (hr : RowL (k * k + 1) (S k) (DD k) row) : Good (k + 1) (rows ++ [row]) := by
  refine ⟨by rw [List.length_append, h.1]; rfl, fun i hi => ?_⟩
  by_cases c : i < k
  · rw [List.getD_eq_getElem?_getD, List.getElem?_append_left (by rw [h.1]; exact c), ← List.getD_eq_getElem?_getD]
    exact h.2 i c
  · obtain rfl : i = k := by omega
    rw [List.getD_eq_getElem?_getD, List.getElem?_append_right (by rw [h.1]; exact Nat.le_refl _), h.1, Nat.sub_self]
    exact hr
theorem l0_ok (n : Nat) (hn : n ≤ 15) (e : Nat) : ∀ (k q : Nat) (rows : List (List Int)), k + e = n + 1 → 1 ≤ k → e * 2000000 + 2 < q → Good k rows → ∃ out, spec_reAreas.l0 q (n : Int) rows (k : Int) = some out ∧ Good (n + 1) out := by
  induction e with
  | zero =>
    intro k q rows h1 h2 h3 h4
    obtain ⟨q, rfl⟩ : ∃ m, q = m + 1 := ⟨q - 1, by omega⟩
    obtain rfl : k = n + 1 := by omega
    simp only [spec_reAreas.l0]
    rw [if_neg (a_nle (by omega))]
    exact ⟨rows, rfl, h4⟩
  | succ e ih =>
    intro k q rows h1 h2 h3 h4
    obtain ⟨q, rfl⟩ : ∃ m, q = m + 1 := ⟨q - 1, by omega⟩
    have hsq := sq_b k (by omega)
    have hc : (((k * k + 1 : Nat) : Int) : Int).toNat ≤ 35184372088832 := by rw [Int.toNat_natCast]; omega
    have f1 := l1_ok (n : Int) rows k h2 (by omega) h4 (Good (n + 1)) (e * 2000000 + 2) (fun row hrow q' hq' => ih (k + 1) q' (rows ++ [row]) (by omega) (by omega) hq' (Good_snoc h4 hrow)) k 0 q (List.replicate (k * k + 1) 0) (by omega) (by omega) (Row0 _)
    simp only [spec_reAreas.l0, a_sq k hsq]
    rw [if_pos (a_le (by omega)), if_pos (Int.natCast_nonneg _), if_pos hc, Int.toNat_natCast]
    exact f1
/-! ### Functions of a place read as one number -/
def pf : (Nat → Int) → Nat → Int
  | _, 0 => 0
  | f, m + 1 => f 0 + 4294967296 * pf (fun a => f (a + 1)) m
theorem pf_zero : ∀ (m : Nat) (f : Nat → Int), (∀ a, f a = 0) → pf f m = 0
  | 0, _, _ => rfl
  | m + 1, f, h => by
    show f 0 + 4294967296 * pf (fun a => f (a + 1)) m = 0
    rw [h 0, pf_zero m _ (fun a => h (a + 1))]; rfl
theorem pf_ev : ∀ (m : Nat) (xs : List Int), xs.length ≤ m → pf (fun a => xs.getD a 0) m = ev xs
  | m, [], _ => pf_zero m _ (fun a => by simp)
  | 0, x :: xs, h => by simp at h
  | m + 1, x :: xs, h => by
    show (x :: xs).getD 0 0 + 4294967296 * pf (fun a => (x :: xs).getD (a + 1) 0) m = x + 4294967296 * ev xs
    have := pf_ev m xs (by simpa using h)
    simp only [List.getD_cons_succ, List.getD_cons_zero]
    rw [this]
theorem pf_inj : ∀ (m : Nat) (f g : Nat → Int), (∀ a, a < m → (0 ≤ f a ∧ f a < 4294967296) ∧ 0 ≤ g a ∧ g a < 4294967296) → pf f m = pf g m → ∀ a, a < m → f a = g a
  | 0, _, _, _, _, a, ha => absurd ha (Nat.not_lt_zero _)
  | m + 1, f, g, h, e, a, ha => by
    have e' : f 0 + 4294967296 * pf (fun a => f (a + 1)) m = g 0 + 4294967296 * pf (fun a => g (a + 1)) m := e
    have h0 := h 0 (by omega)
    have e0 : f 0 = g 0 := by omega
    have e1 : pf (fun a => f (a + 1)) m = pf (fun a => g (a + 1)) m := by omega
    cases a with
    | zero => exact e0
    | succ a => exact pf_inj m _ _ (fun a ha => h (a + 1) (by omega)) e1 a (by omega)
theorem pf_add : ∀ (m : Nat) (f g : Nat → Int), pf (fun a => f a + g a) m = pf f m + pf g m
  | 0, _, _ => rfl
  | m + 1, f, g => by
    show f 0 + g 0 + 4294967296 * pf (fun a => f (a + 1) + g (a + 1)) m = f 0 + 4294967296 * pf (fun a => f (a + 1)) m + (g 0 + 4294967296 * pf (fun a => g (a + 1)) m)
    rw [pf_add m (fun a => f (a + 1)) (fun a => g (a + 1))]; omega
theorem pf_ext (d : Nat) : ∀ (m : Nat) (f : Nat → Int), (∀ a, m ≤ a → f a = 0) → pf f (m + d) = pf f m
  | 0, f, h => by rw [Nat.zero_add]; exact pf_zero d f (fun a => h a (Nat.zero_le _))
  | m + 1, f, h => by
    rw [show m + 1 + d = m + d + 1 by omega]
    show f 0 + 4294967296 * pf (fun a => f (a + 1)) (m + d) = f 0 + 4294967296 * pf (fun a => f (a + 1)) m
    rw [pf_ext d m (fun a => f (a + 1)) (fun a ha => h (a + 1) (by omega))]
theorem pf_shift (g : Int → Int) (hg : ∀ a, a < 0 → g a = 0) (m : Nat) : ∀ h : Nat, pf (fun a : Nat => g ((a : Int) - (h : Int))) (m + h) = pw h * pf (fun a : Nat => g (a : Int)) m
  | 0 => by
    have e : (fun a : Nat => g ((a : Int) - ((0 : Nat) : Int))) = fun a : Nat => g (a : Int) := by funext a; rw [show (a : Int) - ((0 : Nat) : Int) = (a : Int) by omega]
    rw [e, Nat.add_zero]; simp [pw]
  | h + 1 => by
    have ih := pf_shift g hg m h
    have e : (fun a : Nat => g (((a + 1 : Nat) : Int) - ((h + 1 : Nat) : Int))) = fun a : Nat => g ((a : Int) - (h : Int)) := by funext a; congr 1; omega
    show g (((0 : Nat) : Int) - ((h + 1 : Nat) : Int)) + 4294967296 * pf (fun a : Nat => g (((a + 1 : Nat) : Int) - ((h + 1 : Nat) : Int))) (m + h) = 4294967296 * pw h * pf (fun a : Nat => g (a : Int)) m
    rw [e, ih, hg _ (by omega), Int.mul_assoc]; omega

/-! ### What the program's map tells -/
def p2 : Nat → Int
  | 0 => 1
  | i + 1 => 2 * p2 i
theorem p2_b : ∀ i : Nat, i < 32 → 0 ≤ p2 i ∧ p2 i ≤ 2147483648 := by decide
theorem at_b (n : Int) : ∀ (i : Nat), i ≤ 31 → ∀ h a : Int, 0 ≤ impl_CountByArea.at n i h a ∧ impl_CountByArea.at n i h a ≤ p2 i
  | 0, _, h, a => by
    show 0 ≤ (if h = 0 ∧ a = 0 then (1 : Int) else 0) ∧ (if h = 0 ∧ a = 0 then (1 : Int) else 0) ≤ 1
    split <;> omega
  | i + 1, hi, h, a => by
    have h1 := at_b n i (by omega) (h - 1) (a - h)
    have h2 := at_b n i (by omega) (h + 1) (a - h)
    have hb := p2_b i (by omega)
    show 0 ≤ (if 0 ≤ h ∧ h ≤ 2 * n - i - 1 then wrap64 (impl_CountByArea.at n i (h - 1) (a - h) + impl_CountByArea.at n i (h + 1) (a - h)) else 0) ∧ (if 0 ≤ h ∧ h ≤ 2 * n - i - 1 then wrap64 (impl_CountByArea.at n i (h - 1) (a - h) + impl_CountByArea.at n i (h + 1) (a - h)) else 0) ≤ 2 * p2 i
    rw [w64 (by omega) (by omega)]
    split <;> omega
theorem at_rec (n : Int) (i : Nat) (hi : i ≤ 30) (h a : Int) (hl : 0 ≤ h ∧ h ≤ 2 * n - i - 1) : impl_CountByArea.at n (i + 1) h a = impl_CountByArea.at n i (h - 1) (a - h) + impl_CountByArea.at n i (h + 1) (a - h) := by
  have h1 := at_b n i (by omega) (h - 1) (a - h)
  have h2 := at_b n i (by omega) (h + 1) (a - h)
  have hb := p2_b i (by omega)
  show (if 0 ≤ h ∧ h ≤ 2 * n - i - 1 then wrap64 (impl_CountByArea.at n i (h - 1) (a - h) + impl_CountByArea.at n i (h + 1) (a - h)) else 0) = _
  rw [if_pos hl, w64 (by omega) (by omega)]
theorem at_z (n : Int) (hn : n ≤ 15) (i : Nat) (h a : Int) (hb : h < 0 ∨ 30 < h ∨ a < 0 ∨ 30 * (i : Int) < a) : impl_CountByArea.at n i h a = 0 :=
  impl_CountByArea.at_out n hn i h a (by unfold impl_CountByArea.bd; omega)
def F (n : Int) (i : Nat) (h : Int) : Int := pf (fun a : Nat => impl_CountByArea.at n i h (a : Int)) 931
theorem F_out (n : Int) (hn : n ≤ 15) (i : Nat) (h : Int) (hb : h < 0 ∨ 30 < h) : F n i h = 0 :=
  pf_zero _ _ (fun a => at_z n hn i h a (by omega))
theorem F_lim (n : Int) (i : Nat) (h : Int) (hb : ¬ (0 ≤ h ∧ h ≤ 2 * n - i - 1)) : F n (i + 1) h = 0 := by
  refine pf_zero _ _ (fun a => ?_)
  show (if 0 ≤ h ∧ h ≤ 2 * n - i - 1 then _ else 0) = 0
  rw [if_neg hb]
theorem F_rec (n : Int) (hn : n ≤ 15) (i : Nat) (hi : i < 30) (h : Nat) (hl : (h : Int) ≤ 2 * n - i - 1) : F n (i + 1) h = pw h * (F n i ((h : Int) - 1) + F n i ((h : Int) + 1)) := by
  have e : (fun a : Nat => impl_CountByArea.at n (i + 1) (h : Int) (a : Int)) = fun a : Nat => (fun x : Int => impl_CountByArea.at n i ((h : Int) - 1) x + impl_CountByArea.at n i ((h : Int) + 1) x) ((a : Int) - (h : Int)) := by
    funext a
    exact at_rec n i (by omega) h a ⟨Int.natCast_nonneg _, hl⟩
  have hh : h ≤ 30 := by omega
  have z : ∀ a : Int, a < 0 ∨ 30 * (i : Int) < a → impl_CountByArea.at n i ((h : Int) - 1) a + impl_CountByArea.at n i ((h : Int) + 1) a = 0 := fun a ha => by
    rw [at_z n hn i _ a (by omega), at_z n hn i _ a (by omega)]; rfl
  have s := pf_shift (fun x : Int => impl_CountByArea.at n i ((h : Int) - 1) x + impl_CountByArea.at n i ((h : Int) + 1) x) (fun a ha => z a (.inl ha)) (931 - h) h
  have q := pf_ext h (931 - h) (fun a : Nat => impl_CountByArea.at n i ((h : Int) - 1) (a : Int) + impl_CountByArea.at n i ((h : Int) + 1) (a : Int)) (fun a ha => z a (.inr (by omega)))
  have e9 : (931 - h) + h = 931 := by omega
  rw [e9] at s q
  unfold F
  rw [e, s, ← q, pf_add]
def pre (r : List Int) : Nat → Int
  | 0 => 0
  | j + 1 => r.getD j 0
/-- One step of all heights at once. -/
def stp (lim : Int) (r : List Int) : List Int := (List.range 31).map fun (h : Nat) => if (h : Int) ≤ lim then pw h * (pre r h + r.getD (h + 1) 0) else 0
def rr (n : Int) : Nat → List Int
  | 0 => 1 :: List.replicate 30 0
  | i + 1 => stp (2 * n - i - 1) (rr n i)
theorem stp_get (lim : Int) (r : List Int) (h : Nat) (hh : h < 31) : (stp lim r).getD h 0 = if (h : Int) ≤ lim then pw h * (pre r h + r.getD (h + 1) 0) else 0 := by
  unfold stp
  rw [List.getD_eq_getElem?_getD, List.getElem?_map, List.getElem?_range hh]
  rfl
theorem stp_len (lim : Int) (r : List Int) : (stp lim r).length = 31 := by simp [stp]
theorem rr_len (n : Int) : ∀ i : Nat, (rr n i).length = 31
  | 0 => rfl
  | i + 1 => stp_len _ _
theorem rr_out (n : Int) (i h : Nat) (hh : 31 ≤ h) : (rr n i).getD h 0 = 0 := by
  rw [List.getD_eq_getElem?_getD, List.getElem?_eq_none (by rw [rr_len]; exact hh)]; rfl
theorem F_zero (n : Int) : F n 0 0 = 1 := by
  show (if (0 : Int) = 0 ∧ ((0 : Nat) : Int) = 0 then (1 : Int) else 0) + 4294967296 * pf (fun a : Nat => impl_CountByArea.at n 0 0 ((a + 1 : Nat) : Int)) 930 = 1
  rw [if_pos ⟨rfl, rfl⟩, pf_zero 930 _ (fun a => by
    show (if (0 : Int) = 0 ∧ ((a + 1 : Nat) : Int) = 0 then (1 : Int) else 0) = 0
    rw [if_neg (by omega)])]
  rfl
theorem rr_ok (n : Int) (hn : n ≤ 15) : ∀ i : Nat, i ≤ 30 → ∀ h : Nat, (rr n i).getD h 0 = F n i (h : Int)
  | 0, _, h => by
    cases h with
    | zero => exact (F_zero n).symm
    | succ h =>
      have e : F n 0 ((h + 1 : Nat) : Int) = 0 := pf_zero _ _ (fun a => by
        show (if ((h + 1 : Nat) : Int) = 0 ∧ (a : Int) = 0 then (1 : Int) else 0) = 0
        rw [if_neg (by omega)])
      rw [e]
      show (List.replicate 30 (0 : Int)).getD h 0 = 0
      rw [List.getD_eq_getElem?_getD, List.getElem?_replicate]
      split <;> rfl
  | i + 1, hi, h => by
    have ih := rr_ok n hn i (by omega)
    by_cases hh : h < 31
    · show (stp (2 * n - i - 1) (rr n i)).getD h 0 = _
      rw [stp_get _ _ _ hh]
      by_cases c : (h : Int) ≤ 2 * n - i - 1
      · rw [if_pos c, F_rec n hn i (by omega) h c, ih (h + 1), show (((h + 1 : Nat) : Int)) = (h : Int) + 1 by omega]
        cases h with
        | zero =>
          rw [show ((0 : Nat) : Int) - 1 = -1 by omega, F_out n hn i (-1) (by omega)]
          rfl
        | succ h =>
          show pw (h + 1) * ((rr n i).getD h 0 + _) = _
          rw [ih h, show ((h + 1 : Nat) : Int) - 1 = (h : Int) by omega]
      · rw [if_neg c, F_lim n i h (fun q => c q.2)]
    · rw [rr_out n (i + 1) h (by omega), F_out n hn (i + 1) h (by omega)]
theorem chk_rr : ∀ n : Nat, n < 16 → (rr (n : Int) (2 * n)).getD 0 0 = DD n := by decide +kernel
theorem at_row (n : Nat) (hn : n ≤ 15) (R : List Int) (hR : RowL (n * n + 1) (S n) (DD n) R) (a : Nat) (ha : a < 931) : impl_CountByArea.at (n : Int) (2 * n) 0 (a : Int) = R.getD a 0 := by
  obtain ⟨r1, r2, r3, r4⟩ := hR
  have hsq := sq_b n (by omega)
  have hS := S_b n (by omega)
  refine pf_inj 931 (fun a : Nat => impl_CountByArea.at (n : Int) (2 * n) 0 (a : Int)) (fun a => R.getD a 0) (fun a _ => ⟨?_, ?_⟩) ?_ a ha
  · have q1 := at_b (n : Int) (2 * n) (by omega) 0 a
    have q2 := p2_b (2 * n) (by omega)
    show 0 ≤ impl_CountByArea.at (n : Int) (2 * n) 0 (a : Int) ∧ impl_CountByArea.at (n : Int) (2 * n) 0 (a : Int) < 4294967296
    omega
  · show 0 ≤ R.getD a 0 ∧ R.getD a 0 < 4294967296
    by_cases c : a < R.length
    · have := le_sm R r2 a c
      omega
    · rw [List.getD_eq_getElem?_getD, List.getElem?_eq_none (by omega)]
      exact ⟨by decide, by decide⟩
  · rw [pf_ev 931 R (by omega), r4, ← chk_rr n (by omega), rr_ok (n : Int) (by omega) (2 * n) (by omega) 0]
    rfl
theorem num_ok (of : Int → Option Int) (R : List Int) (hl : R.length ≤ 1000) (h : ∀ i : Nat, i < R.length → of (i : Int) = some (R.getD i 0)) (e : Nat) : ∀ (i q : Nat), i + e = R.length → e < q → impl_numbers.l0 q of (R.take i) (R.length : Int) (i : Int) = some R := by
  induction e with
  | zero =>
    intro i q h1 h2
    obtain ⟨q, rfl⟩ : ∃ m, q = m + 1 := ⟨q - 1, by omega⟩
    obtain rfl : i = R.length := by omega
    simp only [impl_numbers.l0]
    rw [if_neg (a_nlt (Nat.lt_irrefl _)), List.take_length]
  | succ e ih =>
    intro i q h1 h2
    obtain ⟨q, rfl⟩ : ∃ m, q = m + 1 := ⟨q - 1, by omega⟩
    have hi : i < R.length := by omega
    have hlt : (R.take i).length < 17592186044416 := by rw [List.length_take]; omega
    simp only [impl_numbers.l0, h i hi, Option.bind_some, a_suc i (by omega)]
    rw [if_pos (a_lt hi), if_pos hlt, ← take_snoc R i hi]
    exact ih (i + 1) q (by omega) (by omega)
theorem spec_eq (n : Nat) (hn : n ≤ 15) (K : Nat) (hK : 40000000 ≤ K) : ∃ R, spec_CountByArea.f K (n : Int) = some (R, true) ∧ RowL (n * n + 1) (S n) (DD n) R := by
  have hg : spec_reGood.f (n : Int) = some true := by
    unfold spec_reGood.f spec_l1In.f
    rw [if_pos (by omega), decide_eq_true (by omega)]; rfl
  unfold spec_CountByArea.f
  rw [hg]
  simp only [Option.bind_some, if_true]
  have g1 : Good 1 [[1]] := by
    refine ⟨rfl, fun i hi => ?_⟩
    obtain rfl : i = 0 := by omega
    exact ⟨rfl, fun x hx => by rw [List.mem_singleton.mp hx]; decide, rfl, rfl⟩
  obtain ⟨out, o1, o2⟩ := l0_ok n hn n 1 K [[1]] (by omega) (by omega) (by omega) g1
  unfold spec_reAreas.f
  rw [show spec_reAreas.l0 K (n : Int) [([1] : List Int)] 1 = some out from o1]
  simp only [Option.bind_some]
  rw [if_pos (Int.natCast_nonneg n), if_pos (a_lt (by rw [o2.1]; omega)), rdL1g]
  exact ⟨_, rfl, o2.2 n (by omega)⟩
theorem impl_eq (n : Nat) (hn : n ≤ 15) (R : List Int) (hR : RowL (n * n + 1) (S n) (DD n) R) (K : Nat) (hK : 1050000 < K) : impl_CountByArea.f K (n : Int) = some (R, true) := by
  have hsq := sq_b n (by omega)
  have hp : impl_isPairs.f (n : Int) = some true := by
    unfold impl_isPairs.f impl_in.f
    rw [if_pos (by omega), decide_eq_true (by omega)]; rfl
  have e1 : wrap64 ((n : Int) * (n : Int)) = ((n * n : Nat) : Int) := by
    have e : (n : Int) * (n : Int) = ((n * n : Nat) : Int) := by rw [Int.natCast_mul]
    rw [e, w64 (by omega) (by omega)]
  have e2 : wrap64 (((n * n : Nat) : Int) + 1) = (R.length : Int) := by rw [w64 (by omega) (by omega), hR.1]; omega
  have hof : ∀ i : Nat, i < R.length → impl_CountByArea.of (n : Int) (i : Int) = some (R.getD i 0) := fun i hi => by
    have hl := hR.1
    unfold impl_CountByArea.of
    rw [if_pos (WalkArith.wf_i64 (by omega)), show (2 * (n : Int)).toNat = 2 * n by omega, at_row n hn R hR i (by omega)]
  unfold impl_CountByArea.f impl_numbers.f
  rw [hp]
  simp only [Option.bind_some, if_true]
  rw [e1, e2, show impl_numbers.l0 K (fun x => impl_CountByArea.of (n : Int) x) [] (R.length : Int) 0 = some R from num_ok _ R (by rw [hR.1]; omega) hof R.length 0 K (by omega) (by rw [hR.1]; omega)]
  rfl
theorem both (a : Int) : ∃ (L : List Int) (b : Bool), L.length ≤ 300 ∧ (∃ k0, ∀ k, k0 ≤ k → spec_CountByArea.f k a = some (L, b)) ∧ ∀ k, 1050000 < k → impl_CountByArea.f k a = some (L, b) := by
  by_cases h : 0 ≤ a ∧ a ≤ 15
  · obtain ⟨n, rfl⟩ := Int.eq_ofNat_of_zero_le h.1
    obtain ⟨K, hK⟩ : ∃ K : Nat, 40000000 ≤ K := ⟨_, Nat.le_refl _⟩
    obtain ⟨R, h1, h2⟩ := spec_eq n (by omega) K hK
    have hsq := sq_b n (by omega)
    exact ⟨R, true, by rw [h2.1]; omega, ⟨K, fun k hk => up' (fun k => spec_CountByArea.f k (n : Int)) (fun k => spec_CountByArea.mono _ k) h1 k hk⟩, fun k hk => impl_eq n (by omega) R h2 k hk⟩
  · have e1 : spec_l1In.f a 0 15 = some false := by
      unfold spec_l1In.f
      by_cases h0 : a ≥ 0
      · rw [if_pos h0, decide_eq_false (fun h1 => h ⟨h0, h1⟩)]
      · rw [if_neg h0]
    have e2 : impl_in.f a 0 15 = some false := by
      unfold impl_in.f
      by_cases h0 : 0 ≤ a
      · rw [if_pos h0, decide_eq_false (fun h1 => h ⟨h0, h1⟩)]
      · rw [if_neg h0]
    exact ⟨[], false, by simp, ⟨0, fun k _ => by simp [spec_CountByArea.f, spec_reGood.f, e1]⟩, fun k _ => by simp [impl_CountByArea.f, impl_isPairs.f, e2]⟩
theorem FnExactCountByArea : laws_FnExactCountByArea.Pure := by
  intro a _
  obtain ⟨L, b, hL, ⟨k0, hs⟩, hi⟩ := both a
  obtain ⟨k, hk, hk0⟩ : ∃ k : Nat, 1050000 < k ∧ k0 ≤ k := ⟨1050001 + k0, by omega, by omega⟩
  refine ⟨k + 2, ?_⟩
  unfold laws_FnExactCountByArea.f
  rw [hs (k + 2) (by omega), hi (k + 2) (by omega)]
  simp only [Option.bind_some]
  rw [eqI_self L (by omega) (k + 2) (by omega)]
  simp only [Option.bind_some, if_true]
  rw [show (b != b) = false by cases b <;> rfl]
  exact tail0 k hk a L b (by omega) (fun k hk => hi k (by omega))

end Go.Proofs.Ytgpebahbeccniaa.PuqFnExactCountByArea
namespace Go.Proofs.Ytgpebahbeccniaa.Pure
open Go.Proofs.Ytgpebahbeccniaa.QFnExactCountByArea
theorem FnExactCountByArea : laws_FnExactCountByArea.Pure := Go.Proofs.Ytgpebahbeccniaa.PuqFnExactCountByArea.FnExactCountByArea
end Go.Proofs.Ytgpebahbeccniaa.Pure
