/- Plain parts of the law FnGoodPathsSorted: values told by the kernel. -/
import Derived.Test.YtjjkglfpcdedlabDoorQFnGoodPathsSortedx11
import Derived.Test.YtjjkglfpcdedlabDoorZpl
namespace Go.Proofs.YtjjkglfpcdedlabDoor.QFnGoodPathsSorted
open Go.RowKit Go.Proofs.YtjjkglfpcdedlabDoorW.PrintWords Go.Proofs.YtjjkglfpcdedlabDoorW.PrintLast Go.Proofs.YtjjkglfpcdedlabDoorPl
set_option linter.unusedVariables false

theorem up {α : Type} (F : Nat → Option α) (hm : ∀ k, LeO (F k) (F (k + 1))) {k0 : Nat} {r : α} (h : F k0 = some r) : ∀ d, F (k0 + d) = some r
  | 0 => h
  | d + 1 => hm _ _ (up F hm h d)
theorem up' {α : Type} (F : Nat → Option α) (hm : ∀ k, LeO (F k) (F (k + 1))) {k0 : Nat} {r : α} (h : F k0 = some r) (k : Nat) (hk : k0 ≤ k) : F k = some r := by
  obtain ⟨d, rfl⟩ : ∃ d, k = k0 + d := ⟨k - k0, by omega⟩
  exact up F hm h d

/-! ### From some number of rounds on -/
def Ev {α : Type} (F : Nat → Option α) (r : α) : Prop := ∃ k0, ∀ k, k0 ≤ k → F k = some r
theorem find_loop {ρ : Type} (l : Nat → Int → Option ρ) (n : Nat) (p : Nat → Bool) (hit : Nat → ρ) (fin : ρ) (hs : ∀ i : Nat, i < n → ∃ k0, ∀ k, k0 ≤ k → l (k + 1) (i : Int) = if p i = true then some (hit i) else l k ((i + 1 : Nat) : Int)) (he : ∃ k0, ∀ k, k0 ≤ k → l (k + 1) (n : Int) = some fin) :
    ∀ d i : Nat, i + d = n → ∃ r, Ev (fun k => l k (i : Int)) r ∧ ((∃ j : Nat, i ≤ j ∧ j < n ∧ p j = true ∧ r = hit j) ∨ ((∀ j : Nat, i ≤ j → j < n → p j = false) ∧ r = fin)) := by
  intro d
  induction d with
  | zero =>
    intro i hi
    obtain rfl : i = n := by omega
    obtain ⟨k0, hk⟩ := he
    exact ⟨fin, ⟨k0 + 1, fun k h => by obtain ⟨k, rfl⟩ : ∃ m, k = m + 1 := ⟨k - 1, by omega⟩; exact hk k (by omega)⟩, .inr ⟨fun j h1 h2 => by omega, rfl⟩⟩
  | succ d ih =>
    intro i hi
    obtain ⟨k0, hk⟩ := hs i (by omega)
    obtain ⟨r, ⟨k1, h1⟩, h2⟩ := ih (i + 1) (by omega)
    by_cases hp : p i = true
    · exact ⟨hit i, ⟨k0 + 1, fun k h => by obtain ⟨k, rfl⟩ : ∃ m, k = m + 1 := ⟨k - 1, by omega⟩; show l (k + 1) (i : Int) = _; rw [hk k (by omega), if_pos hp]⟩, .inl ⟨i, Nat.le_refl _, by omega, hp, rfl⟩⟩
    · refine ⟨r, ⟨k0 + k1 + 1, fun k h => by obtain ⟨k, rfl⟩ : ∃ m, k = m + 1 := ⟨k - 1, by omega⟩; show l (k + 1) (i : Int) = _; rw [hk k (by omega), if_neg hp]; exact h1 k (by omega)⟩, ?_⟩
      rcases h2 with ⟨j, q1, q2, q3, q4⟩ | ⟨q1, q2⟩
      · exact .inl ⟨j, by omega, q2, q3, q4⟩
      · refine .inr ⟨fun j g1 g2 => ?_, q2⟩
        by_cases e : j = i
        · subst e; exact Bool.eq_false_iff.mpr hp
        · exact q1 j (by omega) g2

namespace AreaRow
/-! ### Rows, their sums and their weighted sums -/
/-- The place values. -/
def pw : Nat → Int
  | 0 => 1
  | p + 1 => 4294967296 * pw p
theorem pw_add (a : Nat) : ∀ b : Nat, pw (a + b) = pw a * pw b
  | 0 => by simp [pw]
  | b + 1 => by
    show 4294967296 * pw (a + b) = pw a * (4294967296 * pw b)
    rw [pw_add a b, Int.mul_left_comm]
/-- A row read as one number. -/
def ev : List Int → Int
  | [] => 0
  | x :: xs => x + 4294967296 * ev xs
def sm : List Int → Int
  | [] => 0
  | x :: xs => x + sm xs
theorem sm_append (xs ys : List Int) : sm (xs ++ ys) = sm xs + sm ys := by
  induction xs with
  | nil => simp [sm]
  | cons x xs ih => simp only [List.cons_append, sm, ih]; omega
theorem ev_append (xs ys : List Int) : ev (xs ++ ys) = ev xs + pw xs.length * ev ys := by
  induction xs with
  | nil => simp [ev, pw]
  | cons x xs ih =>
    simp only [List.cons_append, ev, ih, List.length_cons, pw, Int.mul_add]
    rw [Int.mul_assoc]; omega
theorem sm_set (v : Int) : ∀ (xs : List Int) (p : Nat), p < xs.length → sm (xs.set p (xs.getD p 0 + v)) = sm xs + v
  | [], p, h => absurd h (Nat.not_lt_zero _)
  | x :: xs, 0, _ => by simp only [List.set_cons_zero, sm, List.getD_cons_zero]; omega
  | x :: xs, p + 1, h => by
    have ih := sm_set v xs p (by simpa using h)
    simp only [List.set_cons_succ, sm, List.getD_cons_succ, ih]; omega
theorem ev_set (v : Int) : ∀ (xs : List Int) (p : Nat), p < xs.length → ev (xs.set p (xs.getD p 0 + v)) = ev xs + pw p * v
  | [], p, h => absurd h (Nat.not_lt_zero _)
  | x :: xs, 0, _ => by simp only [List.set_cons_zero, ev, List.getD_cons_zero, pw]; omega
  | x :: xs, p + 1, h => by
    have ih := ev_set v xs p (by simpa using h)
    simp only [List.set_cons_succ, ev, List.getD_cons_succ, ih, pw, Int.mul_add]
    rw [Int.mul_assoc]; omega
theorem sm_nonneg (xs : List Int) (h : ∀ x ∈ xs, 0 ≤ x) : 0 ≤ sm xs := by
  induction xs with
  | nil => simp [sm]
  | cons x xs ih =>
    have h1 := h x (List.mem_cons_self ..)
    have h2 := ih (fun y hy => h y (List.mem_cons_of_mem _ hy))
    simp only [sm]; omega
theorem le_sm (xs : List Int) (h : ∀ x ∈ xs, 0 ≤ x) : ∀ p : Nat, p < xs.length → 0 ≤ xs.getD p 0 ∧ xs.getD p 0 ≤ sm xs := by
  induction xs with
  | nil => intro p hp; exact absurd hp (Nat.not_lt_zero _)
  | cons x xs ih =>
    have h1 := h x (List.mem_cons_self ..)
    have h2 : ∀ y ∈ xs, 0 ≤ y := fun y hy => h y (List.mem_cons_of_mem _ hy)
    have h3 := sm_nonneg xs h2
    intro p hp
    cases p with
    | zero => simp only [List.getD_cons_zero, sm]; omega
    | succ p =>
      have h4 := ih h2 p (by simpa using hp)
      simp only [List.getD_cons_succ, sm]; omega
def ps (xs : List Int) (b : Nat) : Int := sm (xs.take b)
def pd (xs : List Int) (b : Nat) : Int := ev (xs.take b)
theorem getD_el (xs : List Int) (b : Nat) (h : b < xs.length) : xs.getD b 0 = xs[b] := by
  rw [List.getD_eq_getElem?_getD, List.getElem?_eq_getElem h]; rfl
theorem take_snoc (xs : List Int) (b : Nat) (h : b < xs.length) : xs.take (b + 1) = xs.take b ++ [xs.getD b 0] := by
  rw [List.take_add_one, List.getElem?_eq_getElem h, getD_el xs b h]; rfl
theorem ps_succ (xs : List Int) (b : Nat) (h : b < xs.length) : ps xs (b + 1) = ps xs b + xs.getD b 0 := by
  unfold ps; rw [take_snoc xs b h, sm_append]; simp [sm]
theorem pd_succ (xs : List Int) (b : Nat) (h : b < xs.length) : pd xs (b + 1) = pd xs b + pw b * xs.getD b 0 := by
  unfold pd; rw [take_snoc xs b h, ev_append, List.length_take, Nat.min_eq_left (by omega)]; simp [ev]
theorem ps_full (xs : List Int) : ps xs xs.length = sm xs := by unfold ps; rw [List.take_length]
theorem pd_full (xs : List Int) : pd xs xs.length = ev xs := by unfold pd; rw [List.take_length]
theorem ps_bound (xs : List Int) (h : ∀ x ∈ xs, 0 ≤ x) (b : Nat) : 0 ≤ ps xs b ∧ ps xs b ≤ sm xs := by
  have e : sm xs = ps xs b + sm (xs.drop b) := by unfold ps; rw [← sm_append, List.take_append_drop]
  have h1 : 0 ≤ sm (xs.drop b) := sm_nonneg _ fun x hx => h x (List.mem_of_mem_drop hx)
  have h2 : 0 ≤ ps xs b := sm_nonneg _ fun x hx => h x (List.mem_of_mem_take hx)
  omega
/-- A row of L numbers, none below 0, with its sum and its weighted sum. -/
def RowL (L : Nat) (s d : Int) (xs : List Int) : Prop := xs.length = L ∧ (∀ x ∈ xs, 0 ≤ x) ∧ sm xs = s ∧ ev xs = d
theorem RowL_upd {L : Nat} {s d : Int} {xs : List Int} (h : RowL L s d xs) (p : Nat) (hp : p < L) (v : Int) (hv : 0 ≤ v) : RowL L (s + v) (d + pw p * v) (xs.set p (xs.getD p 0 + v)) := by
  obtain ⟨h1, h2, h3, h4⟩ := h
  refine ⟨by rw [List.length_set]; exact h1, fun x hx => ?_, by rw [sm_set v xs p (by omega), h3], by rw [ev_set v xs p (by omega), h4]⟩
  rcases List.mem_or_eq_of_mem_set hx with hx | hx
  · exact h2 x hx
  · have := (le_sm xs h2 p (by omega)).1; omega
theorem rd_gd (xs : List Int) (i : Nat) : rd xs (i : Int) = xs.getD i 0 := by unfold rd; rw [Int.toNat_natCast]
theorem mulb {u v : Int} (h1 : 0 ≤ u) (h2 : u ≤ 10000000) (h3 : 0 ≤ v) (h4 : v ≤ 10000000) : 0 ≤ u * v ∧ u * v ≤ 100000000000000 := by
  refine ⟨Int.mul_nonneg h1 h3, ?_⟩
  have := Int.mul_le_mul h2 h4 h3 (by omega : (0 : Int) ≤ 10000000)
  omega

/-! ### The numbers -/
def SL : List Int := [1, 1, 2, 5, 14, 42, 132, 429, 1430, 4862, 16796, 58786, 208012, 742900, 2674440, 9694845]
def DL : List Int := [1, 4294967296, 340282366920938463481821351505477763072, 497323236409786642182342194813971479898046169159029153950587719143646899870542394818560, 13407807929942597100300863722501453018107493640873186870508168845717132048212729095909665084546295595652016534518936820065445061735154644004614956136792064, 6668014432879854274441325577435909636793435320603359266404000743649152880405710832654997515180148065049418009750677500066297804889072465173821858691178602767155419319491540540410941898046682853514590856438366564202767222623505557023340101632, 61172327492847069475348552237392703980582636131056003390470430700847407207218727187316047827351458569933985715390499680691206930661609269674834715318152648211877462412786950579625220722989376014305448307503234916024702765386200733920897658919426042967445574256644774880147982347691147938264646068941703159184470882002226694097127374097040940204032, 10352213046768224943063018492525070184995578069968571106417813157978151035370224476828335814019443440247985075807552629515386703552561238794611836561585071583235784676366353609461730386210403091244938872765872029277199379896792613270343052654225007125093111130112925802635692770911297361900581346739082577350440064416081488485905807317667848819218745234713059906313679200544835546687135503073282365171064694093477020325838081977800389003574876555722211020152517614668611584, 32317006071311007302466785098207083497854554605428749912647034454058803826626200919826335794915927030602912254004851937513634371586463983458816032946153948715969820416275347693424465769609268814475594365693415731146276068989611142820225375960218241109080049783009539140728394860776300848487578639787213894802536795253333416796562420004168241136684868289468602142738925332487183864698466647101277317894345097953942359761053343010121320364095883713358650743151167322272528947106042821244886543342133506354944330395042143201759662072226305643591730657934318469459489786625250939409019004295969869120009417977117645209600, 1861010232480733685994302729504669046362034755981429854051632151457217284974311906568735037781862476188736333174456561923695850583068639182879890413359798998371729326011199976184289811183355733341062773753902978240693445292520558349401620428671226800856174651594639336402548406609360047524697691925244034845174300646043471336837159501619148670566459606516587488300157259115834124280035862158833657704038986266985334436530673056957434239903313854416096685009856847758466274341815207623073395903528841611256504712376499689451156242697731384265407169029831020341580766391866517612889162291858269625897181046215493567252368307259169177926304715438967665460797769878727263084624729496469518278124798626735182537406270108541468892536165547921039204198836671651564070370138379923994181632, 1976906478982563993761394754803641594987660026665832577024649552178952981497839258070156354620753535331721500813865185079862006744244890265775993159736260273213379832677036069920326950159246744635821041164516653761085927420374014370987110513791819481688719825092955331843348360621764006825483950499029691005571810653367691133167340094708979928035916578060822063923773062879648963759414420853114586136057672338926164652389038511029877803402969794408791174427917773258405218277036725930216210425175965397438079416199008514076022213868366479429777817333095480241341819261228967419871982159993223569102385460480644774144375534789349040501179364249360732311484411701334488721203888640853455606490416586744132991315438066186506943599413580606646395187077207645571469533012831877034080064362089479688094922084068275981229182482287922466009851980452109438354531518241788011150439139029039550324801694788635938616767750200125270580452823033582080490103903127590120242282496, 38738536626472212210228135613804925830711880259688840807188570353413251306354637281551354837052797601081555686253312261795631778968807778680066712399810525299200921384247807869123717658639351187218034657036923109138424682441803695171079969626365369378766959618739541726316354058192174646571035004834971329251570300054607784139022966200653270289633496880518900849670768446692365340228654863396349105834074672713356139803275320914975414254116582086776533983708204053930230394501094739969890096777514459866510058811676344348756874155909875517040872788311313053221975127300135421437516576034393888818922297830714459176995768570555766160823241241399472909439755855100114759220191557616532280300176404171076476028342780274632224002377564846924565987856971430914196045836274252387566799514827027773384359761612160502594571883610637994030476157554347727447908964701083250731821496347535115675398526779109572166724968755547351868368958597450989042198918832386243638337308807936781005598215847949630189806326060685271444274186224235320213786936125584622768272424315444105209023179906734641511770015347154236697373598419814356983587943282914165317093241976007991575034730643456, 14002965526155144835314407734920066007488448419698420023889052887104693052857680457723754902614262022378108974240189383583238555961679360059769459878712351975026488046763526684282867952490470014247555976821290736624512097829637989952147262195373364097486475975823599893122069935779377682315144243077604557073958766565128422694767978348816065723117782518571589590819454868651678731880826149752991839742084982491218064046364327786297270415200272649262309511789187144428485291456426690950169790071195492706390924509346084641771537339536533777325604879825422724950001899616879939227433955174264552377742241149185119667958721822606572129003276711306489086438415252283590922402203133455277223771115968934985337756931287619611441024801995036476814007975007823822182953313448218657085052477056210365397545957313605411250521413064629955071059655099346122186214932944175631754392352911689610567646938592156435866400508369267291231671433190117227025451533532562172804371751254765482162136545841106791886159327867654617308969620177241300418066185049130912891070516220521612400893562392472838413405157548110573481142932883534768298688521129761544176884472279365319947034704055324211342456926272163093438478108683589867266751151477148425706640568081416880160751928990670002785053166047935775169214250834505242523912645566369090564701246299360221110416782366235672113746278900125625598167223098809516032, 93371976231521548300907158877091366485371435372459212414941471020572634334225830804238268530206551970342211835258134515761762805586117736108239100344422456366477940452228060598404260754909404999442342993286822735275118361067362303916979162927425740048340225246436305345972816087158665038379765924846466241950378553372181462025143995857505194024281864635730246766219377765585813879488269091416580703650728517319883163885604057166413103812817242899048473985530048184080020982766172816258315361464725119528589067276276875267426715545902816593226323004569507795181704323808564516464832899496731359394635303107574615624833545020426478525072711555242742904612638271596465847818731739183645126847926805731274120342694684110953651287781461861847942181692598767209322659229473966451120063732633464934075771228791055071679674121557329785439647990362253287418545163928870595837845491855477430738895002952087564198192235797395445587663623370333103053993502176908153754048451295939945513973243005101583511449572568276830699133306004313131880007965416657281040880919880756407093957677546823665479688261102641178541418870029220910075978619507695841274054291454052468283616594058511733222337095729697162739807035342103355907717035849937722695718028611704772875679486605645593965870987508396222969103255294042535984654862978687220627902960353044201583199609182437344466044053494261594792890570875395297126924721140681541758662143817807678345666619297015069224161262399590930649276688299194419748825769861260892980727576853688008936027401327643902881265830459030446440304768199801838140449980542139855103866526401291926442731649967244923140833280, 11485047732582817770046130800783477014191425412767106169904040476388380438903125193581988412817708127792826621258273239538055316193149098406367395013336078857732941873225502156897280201213715973320005937370419287494009159466278148985252726984100111694259658285643887941728381817851050200248954820544126352983813508069159438133434139336214121851914375621688843139523735122139399187196536599768047570761458150769049050979120813246347808700441211591401342535151118217256737817589146050146386662832577034041001302454897223893653640490799112061471675610789674717853484387093810729639440849497717296497188570985899539189696673762776096352475213957432551876927352538093198889190102826729217637518104369935576831860568286501253911898100687720726540533807647555756340946790178976678868247652405728801881231071769741062007551894255117788840750817779231808846451146727124340890550679631075143305676154801719681917807846583066006411084389254585203686492250345131023735068790748512905569450427982949470822352777186231287998740209686070749909012823852055380416869010447450510228255335197265908139148785111475017161231100293679134888320539573639398002181062629740862538791946059208509500240892397272710704535616043577220176764500953452624834918113477313631733225256486831326492295695347177536966990648082137997724335424808887391446558830330201375578673703423113236829388140952952985100373593993734331162643701093069790395918922999201211721159226220316801351689548884914253159355159276631199045949836870593289190525665298491649401354145849968530523393959197985365956088224003007689010607891136185786429963357373439847181359902370916966113873799552795279657500802066429566486011091945343909957813922012769895321587897813611673414811877579181815485775289582193515041386058795381616115459755669969024520607659199842102482926272990554528090895698727958925928170114688472178295652601356930983500800762797096960, 26059662129249685388789084119172907794300958584465061387902200368723325763786434014878440222577286585864285851968667393373171769226704406990676737361381446989977476745066377616633786174629566170288898320175972470840032848993819948282947705448103078806717749214977049175236492485081829539252402831255953878078559832056649105946503046812573764354873403036050041862513199490146259198436761630042683808042621571160142894755942315386273671191449688021562287710744954809643837112817155855985980475663777339645705671140207078324912049418717657604283619203716594868831172596388707308201060909517466718160421155803189826966614284128322873370899656356612673448851568910949820845088240274171354590558210070053941627491515339417395994774911298863902230373719128877614729629466740299770756053087766161475997783243869549547318090570477962508576445679690873443931092074054721776626428322744860674334395931342112657059720306496647090080516557699748650784849393951357571611501034218297723415346278673214080858149769553196393426137460826900388240308071056453753179945143549949517049894245778801095783055370283335784173705887774983210620669643916805167976948647010072180687979836674063814382243315328517810164726212428455034791194387161408737297729368116076079511002974612488839872895480267048620365421840084503027703120127006851777985754816990762848041923337557963363721165787524623946399123279233589446835624451611763415272841528693851209400812984897778772216732632336525352318520050526363085930476188051593582723713398130137855524851864586275816947076646232994613838818020852845875406899863493710442599357966781959314010947762596782009584984911108741126608863257543570381248708234383103542900008476554657691020777395228482148941250669011675700041940036270248059714447409827517911284995442019189812904563263082565831597861036183009187748378819012487817824377335261858368109892118019510842269152837655069526282472437153841475679107613795736526197191132816699894999010025516616521601168577881973806789002470039846810057404051070007873228974294437564886246465228440356968825967265678069694206929368009779754562258206936679069745208261387498723329033387941346940399783187339760648585216000]
def S (n : Nat) : Int := SL.getD n 0
def DD (n : Nat) : Int := DL.getD n 0
def pS (k : Nat) : Nat → Int
  | 0 => 0
  | g + 1 => pS k g + S g * S (k - 1 - g)
def pD (k : Nat) : Nat → Int
  | 0 => 0
  | g + 1 => pD k g + pw (2 * g + 1) * (DD g * DD (k - 1 - g))
theorem S_b : ∀ g : Nat, g < 16 → 0 ≤ S g ∧ S g ≤ 10000000 := by decide
theorem pS_b : ∀ k : Nat, k < 16 → ∀ g : Nat, g < 17 → 0 ≤ pS k g ∧ pS k g ≤ 100000000000000 := by decide +kernel
theorem tab_S : ∀ k : Nat, k < 16 → 0 < k → pS k k = S k ∧ pD k k = DD k := by decide +kernel
theorem fits : ∀ k : Nat, k < 16 → ∀ g : Nat, g < k → g * g + 1 + ((k - 1 - g) * (k - 1 - g) + 1) + (2 * (g + 1) - 1) ≤ k * k + 1 + 1 := by decide +kernel
theorem sq_b : ∀ k : Nat, k < 16 → k * k ≤ 225 := by decide
def Good (n : Nat) (out : List (List Int)) : Prop := out.length = n ∧ ∀ i : Nat, i < n → RowL (i * i + 1) (S i) (DD i) (out.getD i [])

/-! ### The loops -/
theorem a_idx (a f b : Nat) (ha : a ≤ 300) (hf : f ≤ 16) (hf1 : 1 ≤ f) (hb : b ≤ 300) : wrap64 (wrap64 (wrap64 ((a : Int) + wrap64 (2 * (f : Int))) - 1) + (b : Int)) = ((a + 2 * f - 1 + b : Nat) : Int) := by
  rw [w64 (x := 2 * (f : Int)) (by omega) (by omega), w64 (x := (a : Int) + 2 * (f : Int)) (by omega) (by omega), w64 (x := (a : Int) + 2 * (f : Int) - 1) (by omega) (by omega), w64 (by omega) (by omega)]; omega
theorem a_suc (a : Nat) (h : a ≤ 1000) : wrap64 ((a : Int) + 1) = ((a + 1 : Nat) : Int) := by rw [w64 (by omega) (by omega)]; omega
theorem a_lt {a b : Nat} (h : a < b) : (a : Int) < (b : Int) := by omega
theorem a_nlt {a b : Nat} (h : ¬ a < b) : ¬ (a : Int) < (b : Int) := by omega
theorem l3_ok (n : Int) (rows : List (List Int)) (k f a : Nat) (x s0 d0 : Int) (A C : List Int) (G : List (List Int) → Prop) (B : Nat)
    (ha : a ≤ 300) (hf : f ≤ 16) (hf1 : 1 ≤ f) (hx : 0 ≤ x) (hx2 : x ≤ 10000000) (hC : ∀ y ∈ C, 0 ≤ y) (hC2 : sm C ≤ 10000000) (hCl : C.length ≤ 300) (hfit : a + 2 * f - 1 + C.length ≤ k * k + 1) (hs0 : 0 ≤ s0) (hs2 : s0 ≤ 1000000000000000)
    (H : ∀ row', RowL (k * k + 1) (s0 + x * sm C) (d0 + x * (pw (a + 2 * f - 1) * ev C)) row' → ∀ q, B < q → ∃ out, spec_reAreas.l2 q n rows (k : Int) row' (f : Int) A (A.length : Int) ((a + 1 : Nat) : Int) = some out ∧ G out) (e : Nat) :
    ∀ (b q : Nat) (row : List Int), b + e = C.length → B + e + 1 < q → RowL (k * k + 1) (s0 + x * ps C b) (d0 + x * (pw (a + 2 * f - 1) * pd C b)) row →
      ∃ out, spec_reAreas.l3 q n rows (k : Int) row (f : Int) (a : Int) x A (A.length : Int) (a : Int) C (C.length : Int) (b : Int) = some out ∧ G out := by
  induction e with
  | zero =>
    intro b q row h1 h2 h3
    obtain ⟨q, rfl⟩ : ∃ m, q = m + 1 := ⟨q - 1, by omega⟩
    obtain rfl : b = C.length := by omega
    rw [ps_full, pd_full] at h3
    simp only [spec_reAreas.l3]
    rw [if_neg (a_nlt (Nat.lt_irrefl _)), a_suc a (by omega)]
    exact H row h3 q (by omega)
  | succ e ih =>
    intro b q row h1 h2 h3
    obtain ⟨q, rfl⟩ : ∃ m, q = m + 1 := ⟨q - 1, by omega⟩
    have hb : b < C.length := by omega
    have hp : a + 2 * f - 1 + b < k * k + 1 := by omega
    have hy := le_sm C hC b hb
    have hpb := ps_bound C hC b
    have hpb1 := ps_bound C hC (b + 1)
    have m1 := mulb hx hx2 hy.1 (by omega)
    have m2 := mulb hx hx2 hpb.1 (by omega)
    have hr := le_sm row h3.2.1 (a + 2 * f - 1 + b) (by rw [h3.1]; exact hp)
    rw [h3.2.2.1] at hr
    have hu := RowL_upd h3 (a + 2 * f - 1 + b) hp (x * C.getD b 0) m1.1
    have e1 : s0 + x * ps C b + x * C.getD b 0 = s0 + x * ps C (b + 1) := by rw [ps_succ C b hb, Int.mul_add]; omega
    have e2 : d0 + x * (pw (a + 2 * f - 1) * pd C b) + pw (a + 2 * f - 1 + b) * (x * C.getD b 0) = d0 + x * (pw (a + 2 * f - 1) * pd C (b + 1)) := by
      rw [pd_succ C b hb, pw_add]
      generalize pw (a + 2 * f - 1) = z
      generalize C.getD b 0 = y
      generalize pw b = u
      generalize pd C b = v
      rw [Int.mul_add, Int.mul_add, show z * u * (x * y) = x * (z * (u * y)) by ac_rfl]
      omega
    rw [e1, e2] at hu
    have f1 := ih (b + 1) q _ (by omega) (by omega) hu
    have w1 : wrap64 (x * C.getD b 0) = x * C.getD b 0 := w64 (by omega) (by omega)
    have w2 : wrap64 (row.getD (a + 2 * f - 1 + b) 0 + x * C.getD b 0) = row.getD (a + 2 * f - 1 + b) 0 + x * C.getD b 0 := w64 (by omega) (by omega)
    simp only [spec_reAreas.l3, a_idx a f b ha hf hf1 (by omega), rd_gd, Int.toNat_natCast, w1, w2, a_suc b (by omega)]
    rw [if_pos (a_lt hb), if_pos (Int.natCast_nonneg b), if_pos (a_lt hb), if_pos (Int.natCast_nonneg _), if_pos (a_lt (by rw [h3.1]; exact hp))]
    exact f1
theorem rdL1g (xs : List (List Int)) (i : Nat) : rd_L3 xs (i : Int) = xs.getD i [] := by unfold rd_L3; rw [Int.toNat_natCast]
theorem a_kf (k f : Nat) (hk : k ≤ 16) (hf : f ≤ k) : wrap64 ((k : Int) - (f : Int)) = ((k - f : Nat) : Int) := by rw [w64 (by omega) (by omega)]; omega
theorem l2_ok (n : Int) (rows : List (List Int)) (k f : Nat) (s0 d0 : Int) (A C : List Int) (G : List (List Int) → Prop) (B : Nat)
    (hk : k ≤ 16) (hf : f ≤ k) (hf1 : 1 ≤ f) (hA : ∀ y ∈ A, 0 ≤ y) (hA2 : sm A ≤ 10000000) (hAl : A.length ≤ 300) (hC : ∀ y ∈ C, 0 ≤ y) (hC2 : sm C ≤ 10000000) (hCl : C.length ≤ 300)
    (hfit : A.length + C.length + (2 * f - 1) ≤ k * k + 2) (hs0 : 0 ≤ s0) (hs2 : s0 ≤ 100000000000000) (hr : rows.getD (k - f) [] = C) (hrl : k - f < rows.length)
    (H : ∀ row', RowL (k * k + 1) (s0 + sm A * sm C) (d0 + pw (2 * f - 1) * (ev A * ev C)) row' → ∀ q, B < q → ∃ out, spec_reAreas.l1 q n rows (k : Int) row' ((f + 1 : Nat) : Int) = some out ∧ G out) (e : Nat) :
    ∀ (a q : Nat) (row : List Int), a + e = A.length → B + e * 310 + 1 < q → RowL (k * k + 1) (s0 + ps A a * sm C) (d0 + pw (2 * f - 1) * (pd A a * ev C)) row →
      ∃ out, spec_reAreas.l2 q n rows (k : Int) row (f : Int) A (A.length : Int) (a : Int) = some out ∧ G out := by
  induction e with
  | zero =>
    intro a q row h1 h2 h3
    obtain ⟨q, rfl⟩ : ∃ m, q = m + 1 := ⟨q - 1, by omega⟩
    obtain rfl : a = A.length := by omega
    rw [ps_full, pd_full] at h3
    simp only [spec_reAreas.l2]
    rw [if_neg (a_nlt (Nat.lt_irrefl _)), a_suc f (by omega)]
    exact H row h3 q (by omega)
  | succ e ih =>
    intro a q row h1 h2 h3
    obtain ⟨q, rfl⟩ : ∃ m, q = m + 1 := ⟨q - 1, by omega⟩
    have ha : a < A.length := by omega
    have hx := le_sm A hA a ha
    have hpa := ps_bound A hA a
    have hC0 := sm_nonneg C hC
    have m2 := mulb hpa.1 (by omega) hC0 hC2
    have H' : ∀ row', RowL (k * k + 1) (s0 + ps A a * sm C + A.getD a 0 * sm C) (d0 + pw (2 * f - 1) * (pd A a * ev C) + A.getD a 0 * (pw (a + 2 * f - 1) * ev C)) row' → ∀ q, B + e * 310 + 1 < q → ∃ out, spec_reAreas.l2 q n rows (k : Int) row' (f : Int) A (A.length : Int) ((a + 1 : Nat) : Int) = some out ∧ G out := by
      intro row' hrow' q' hq'
      refine ih (a + 1) q' row' (by omega) hq' ?_
      have e1 : s0 + ps A a * sm C + A.getD a 0 * sm C = s0 + ps A (a + 1) * sm C := by rw [ps_succ A a ha, Int.add_mul]; omega
      have e2 : d0 + pw (2 * f - 1) * (pd A a * ev C) + A.getD a 0 * (pw (a + 2 * f - 1) * ev C) = d0 + pw (2 * f - 1) * (pd A (a + 1) * ev C) := by
        rw [pd_succ A a ha, show a + 2 * f - 1 = a + (2 * f - 1) by omega, pw_add]
        generalize pw (2 * f - 1) = z
        generalize A.getD a 0 = x
        generalize pw a = u
        generalize pd A a = v
        generalize ev C = c
        rw [Int.add_mul, Int.mul_add, show x * (u * z * c) = z * (u * x * c) by ac_rfl]
        omega
      rw [e1, e2] at hrow'
      exact hrow'
    have f1 := l3_ok n rows k f a (A.getD a 0) (s0 + ps A a * sm C) (d0 + pw (2 * f - 1) * (pd A a * ev C)) A C G (B + e * 310 + 1) (by omega) (by omega) hf1 hx.1 (by omega) hC hC2 hCl (by omega) (by omega) (by omega) H' C.length 0 q row (by omega) (by omega) (by
        rw [show ps C 0 = 0 from rfl, show pd C 0 = 0 from rfl, Int.mul_zero, Int.mul_zero, Int.mul_zero, Int.add_zero, Int.add_zero]; exact h3)
    simp only [spec_reAreas.l2, a_kf k f hk hf, rd_gd, rdL1g, hr]
    rw [if_pos (a_lt ha), if_pos (Int.natCast_nonneg a), if_pos (a_lt ha), if_pos (Int.natCast_nonneg _), if_pos (a_lt hrl)]
    exact f1
theorem a_pred (g : Nat) (h : g ≤ 100) : wrap64 (((g + 1 : Nat) : Int) - 1) = (g : Int) := by rw [w64 (by omega) (by omega)]; omega
theorem a_le {a b : Nat} (h : a ≤ b) : (a : Int) ≤ (b : Int) := by omega
theorem a_nle {a b : Nat} (h : ¬ a ≤ b) : ¬ (a : Int) ≤ (b : Int) := by omega
theorem l1_ok (n : Int) (rows : List (List Int)) (k : Nat) (hk1 : 1 ≤ k) (hk : k < 16) (hrows : Good k rows) (G : List (List Int) → Prop) (B : Nat)
    (H : ∀ row, RowL (k * k + 1) (S k) (DD k) row → ∀ q, B < q → ∃ out, spec_reAreas.l0 q n (rows ++ [row]) ((k + 1 : Nat) : Int) = some out ∧ G out) (e : Nat) :
    ∀ (g q : Nat) (row : List Int), g + e = k → B + e * 100000 + 1 < q → RowL (k * k + 1) (pS k g) (pD k g) row → ∃ out, spec_reAreas.l1 q n rows (k : Int) row ((g + 1 : Nat) : Int) = some out ∧ G out := by
  induction e with
  | zero =>
    intro g q row h1 h2 h3
    obtain ⟨q, rfl⟩ : ∃ m, q = m + 1 := ⟨q - 1, by omega⟩
    obtain rfl : g = k := by omega
    have ht := tab_S g hk (by omega)
    rw [ht.1, ht.2] at h3
    have hl : rows.length < 5864062014805 := by rw [hrows.1]; omega
    simp only [spec_reAreas.l1]
    rw [if_neg (a_nle (by omega)), if_pos hl, a_suc g (by omega)]
    exact H row h3 q (by omega)
  | succ e ih =>
    intro g q row h1 h2 h3
    obtain ⟨q, rfl⟩ : ∃ m, q = m + 1 := ⟨q - 1, by omega⟩
    have hg : g < k := by omega
    obtain ⟨a1, a2, a3, a4⟩ := hrows.2 g hg
    obtain ⟨c1, c2, c3, c4⟩ := hrows.2 (k - (g + 1)) (by omega)
    have sb1 := S_b g (by omega)
    have sb2 := S_b (k - (g + 1)) (by omega)
    have pb := pS_b k hk g (by omega)
    have sq1 := sq_b g (by omega)
    have sq2 := sq_b (k - (g + 1)) (by omega)
    have ft := fits k hk g hg
    rw [show k - 1 - g = k - (g + 1) by omega] at ft
    have H' : ∀ row', RowL (k * k + 1) (pS k g + sm (rows.getD g []) * sm (rows.getD (k - (g + 1)) [])) (pD k g + pw (2 * (g + 1) - 1) * (ev (rows.getD g []) * ev (rows.getD (k - (g + 1)) []))) row' →
        ∀ q, B + e * 100000 + 1 < q → ∃ out, spec_reAreas.l1 q n rows (k : Int) row' ((g + 1 + 1 : Nat) : Int) = some out ∧ G out := by
      intro row' hrow' q' hq'
      refine ih (g + 1) q' row' (by omega) hq' ?_
      rw [a3, a4, c3, c4, show 2 * (g + 1) - 1 = 2 * g + 1 by omega] at hrow'
      simp only [pS, pD]
      rw [show k - 1 - g = k - (g + 1) by omega]
      exact hrow'
    have f1 := l2_ok n rows k (g + 1) (pS k g) (pD k g) (rows.getD g []) (rows.getD (k - (g + 1)) []) G (B + e * 100000 + 1) (by omega) (by omega) (by omega) a2 (by rw [a3]; exact sb1.2) (by rw [a1]; omega) c2 (by rw [c3]; exact sb2.2) (by rw [c1]; omega) (by rw [a1, c1]; omega) pb.1 pb.2 rfl (by rw [hrows.1]; omega) H' (rows.getD g []).length 0 q row (by omega) (by rw [a1]; omega) (by
        rw [show ps (rows.getD g []) 0 = 0 from rfl, show pd (rows.getD g []) 0 = 0 from rfl, Int.zero_mul, Int.zero_mul, Int.mul_zero, Int.add_zero, Int.add_zero]; exact h3)
    simp only [spec_reAreas.l1, a_pred g (by omega), rdL1g]
    rw [if_pos (a_le (by omega)), if_pos (Int.natCast_nonneg g), if_pos (a_lt (by rw [hrows.1]; exact hg))]
    exact f1
theorem a_sq (k : Nat) (h : k * k ≤ 225) : wrap64 (wrap64 ((k : Int) * (k : Int)) + 1) = ((k * k + 1 : Nat) : Int) := by
  have e : (k : Int) * (k : Int) = ((k * k : Nat) : Int) := by rw [Int.natCast_mul]
  rw [e, w64 (x := ((k * k : Nat) : Int)) (by omega) (by omega), w64 (by omega) (by omega)]; omega
theorem Row0 (L : Nat) : RowL L 0 0 (List.replicate L 0) := by
  refine ⟨by simp, fun x hx => by rw [List.eq_of_mem_replicate hx]; exact Int.le_refl _, ?_, ?_⟩
  · induction L with
    | zero => rfl
    | succ L ih => rw [List.replicate_succ]; simp only [sm, ih]; rfl
  · induction L with
    | zero => rfl
    | succ L ih => rw [List.replicate_succ]; simp only [ev, ih]; rfl
theorem Good_snoc {k : Nat} {rows : List (List Int)} (h : Good k rows) {row : List Int} (hr : RowL (k * k + 1) (S k) (DD k) row) : Good (k + 1) (rows ++ [row]) := by
  refine ⟨by rw [List.length_append, h.1]; rfl, fun i hi => ?_⟩
  by_cases c : i < k
  · rw [List.getD_eq_getElem?_getD, List.getElem?_append_left (by rw [h.1]; exact c), ← List.getD_eq_getElem?_getD]
    exact h.2 i c
  · obtain rfl : i = k := by omega
    rw [List.getD_eq_getElem?_getD, List.getElem?_append_right (by rw [h.1]; exact Nat.le_refl _), h.1, Nat.sub_self]
    exact hr
theorem l0_ok (n : Nat) (hn : n ≤ 15) (e : Nat) : ∀ (k q : Nat) (rows : List (List Int)), k + e = n + 1 → 1 ≤ k → e * 2000000 + 2 < q → Good k rows → ∃ out, spec_reAreas.l0 q (n : Int) rows (k : Int) = some out ∧ Good (n + 1) out := by
  induction e with
  | zero =>
    intro k q rows h1 h2 h3 h4
    obtain ⟨q, rfl⟩ : ∃ m, q = m + 1 := ⟨q - 1, by omega⟩
    obtain rfl : k = n + 1 := by omega
    simp only [spec_reAreas.l0]
    rw [if_neg (a_nle (by omega))]
    exact ⟨rows, rfl, h4⟩
  | succ e ih =>
    intro k q rows h1 h2 h3 h4
    obtain ⟨q, rfl⟩ : ∃ m, q = m + 1 := ⟨q - 1, by omega⟩
    have hsq := sq_b k (by omega)
    have hc : (((k * k + 1 : Nat) : Int) : Int).toNat ≤ 35184372088832 := by rw [Int.toNat_natCast]; omega
    have f1 := l1_ok (n : Int) rows k h2 (by omega) h4 (Good (n + 1)) (e * 2000000 + 2) (fun row hrow q' hq' => ih (k + 1) q' (rows ++ [row]) (by omega) (by omega) hq' (Good_snoc h4 hrow)) k 0 q (List.replicate (k * k + 1) 0) (by omega) (by omega) (Row0 _)
    simp only [spec_reAreas.l0, a_sq k hsq]
    rw [if_pos (a_le (by omega)), if_pos (Int.natCast_nonneg _), if_pos hc, Int.toNat_natCast]
    exact f1
/-! ### Functions of a place read as one number -/
def pf : (Nat → Int) → Nat → Int
  | _, 0 => 0
  | f, m + 1 => f 0 + 4294967296 * pf (fun a => f (a + 1)) m
theorem pf_zero : ∀ (m : Nat) (f : Nat → Int), (∀ a, f a = 0) → pf f m = 0
  | 0, _, _ => rfl
  | m + 1, f, h => by
    show f 0 + 4294967296 * pf (fun a => f (a + 1)) m = 0
    rw [h 0, pf_zero m _ (fun a => h (a + 1))]; rfl
theorem pf_ev : ∀ (m : Nat) (xs : List Int), xs.length ≤ m → pf (fun a => xs.getD a 0) m = ev xs
  | m, [], _ => pf_zero m _ (fun a => by simp)
  | 0, x :: xs, h => by simp at h
  | m + 1, x :: xs, h => by
    show (x :: xs).getD 0 0 + 4294967296 * pf (fun a => (x :: xs).getD (a + 1) 0) m = x + 4294967296 * ev xs
    have := pf_ev m xs (by simpa using h)
    simp only [List.getD_cons_succ, List.getD_cons_zero]
    rw [this]
theorem pf_inj : ∀ (m : Nat) (f g : Nat → Int), (∀ a, a < m → (0 ≤ f a ∧ f a < 4294967296) ∧ 0 ≤ g a ∧ g a < 4294967296) → pf f m = pf g m → ∀ a, a < m → f a = g a
  | 0, _, _, _, _, a, ha => absurd ha (Nat.not_lt_zero _)
  | m + 1, f, g, h, e, a, ha => by
    have e' : f 0 + 4294967296 * pf (fun a => f (a + 1)) m = g 0 + 4294967296 * pf (fun a => g (a + 1)) m := e
    have h0 := h 0 (by omega)
    have e0 : f 0 = g 0 := by omega
    have e1 : pf (fun a => f (a + 1)) m = pf (fun a => g (a + 1)) m := by omega
    cases a with
    | zero => exact e0
    | succ a => exact pf_inj m _ _ (fun a ha => h (a + 1) (by omega)) e1 a (by omega)
theorem pf_add : ∀ (m : Nat) (f g : Nat → Int), pf (fun a => f a + g a) m = pf f m + pf g m
  | 0, _, _ => rfl
  | m + 1, f, g => by
    show f 0 + g 0 + 4294967296 * pf (fun a => f (a + 1) + g (a + 1)) m = f 0 + 4294967296 * pf (fun a => f (a + 1)) m + (g 0 + 4294967296 * pf (fun a => g (a + 1)) m)
    rw [pf_add m (fun a => f (a + 1)) (fun a => g (a + 1))]; omega
theorem pf_ext (d : Nat) : ∀ (m : Nat) (f : Nat → Int), (∀ a, m ≤ a → f a = 0) → pf f (m + d) = pf f m
  | 0, f, h => by rw [Nat.zero_add]; exact pf_zero d f (fun a => h a (Nat.zero_le _))
  | m + 1, f, h => by
    rw [show m + 1 + d = m + d + 1 by omega]
    show f 0 + 4294967296 * pf (fun a => f (a + 1)) (m + d) = f 0 + 4294967296 * pf (fun a => f (a + 1)) m
    rw [pf_ext d m (fun a => f (a + 1)) (fun a ha => h (a + 1) (by omega))]
theorem pf_shift (g : Int → Int) (hg : ∀ a, a < 0 → g a = 0) (m : Nat) : ∀ h : Nat, pf (fun a : Nat => g ((a : Int) - (h : Int))) (m + h) = pw h * pf (fun a : Nat => g (a : Int)) m
  | 0 => by
    have e : (fun a : Nat => g ((a : Int) - ((0 : Nat) : Int))) = fun a : Nat => g (a : Int) := by funext a; rw [show (a : Int) - ((0 : Nat) : Int) = (a : Int) by omega]
    rw [e, Nat.add_zero]; simp [pw]
  | h + 1 => by
    have ih := pf_shift g hg m h
    have e : (fun a : Nat => g (((a + 1 : Nat) : Int) - ((h + 1 : Nat) : Int))) = fun a : Nat => g ((a : Int) - (h : Int)) := by funext a; congr 1; omega
    show g (((0 : Nat) : Int) - ((h + 1 : Nat) : Int)) + 4294967296 * pf (fun a : Nat => g (((a + 1 : Nat) : Int) - ((h + 1 : Nat) : Int))) (m + h) = 4294967296 * pw h * pf (fun a : Nat => g (a : Int)) m
    rw [e, ih, hg _ (by omega), Int.mul_assoc]; omega

/-! ### What the program's map tells -/
def p2 : Nat → Int
  | 0 => 1
  | i + 1 => 2 * p2 i
theorem p2_b : ∀ i : Nat, i < 32 → 0 ≤ p2 i ∧ p2 i ≤ 2147483648 := by decide
theorem at_b (n : Int) : ∀ (i : Nat), i ≤ 31 → ∀ h a : Int, 0 ≤ impl_CountByArea.at n i h a ∧ impl_CountByArea.at n i h a ≤ p2 i
  | 0, _, h, a => by
    show 0 ≤ (if h = 0 ∧ a = 0 then (1 : Int) else 0) ∧ (if h = 0 ∧ a = 0 then (1 : Int) else 0) ≤ 1
    split <;> omega
  | i + 1, hi, h, a => by
    have h1 := at_b n i (by omega) (h - 1) (a - h)
    have h2 := at_b n i (by omega) (h + 1) (a - h)
    have hb := p2_b i (by omega)
    show 0 ≤ (if 0 ≤ h ∧ h ≤ 2 * n - i - 1 then wrap64 (impl_CountByArea.at n i (h - 1) (a - h) + impl_CountByArea.at n i (h + 1) (a - h)) else 0) ∧ (if 0 ≤ h ∧ h ≤ 2 * n - i - 1 then wrap64 (impl_CountByArea.at n i (h - 1) (a - h) + impl_CountByArea.at n i (h + 1) (a - h)) else 0) ≤ 2 * p2 i
    rw [w64 (by omega) (by omega)]
    split <;> omega
theorem at_rec (n : Int) (i : Nat) (hi : i ≤ 30) (h a : Int) (hl : 0 ≤ h ∧ h ≤ 2 * n - i - 1) : impl_CountByArea.at n (i + 1) h a = impl_CountByArea.at n i (h - 1) (a - h) + impl_CountByArea.at n i (h + 1) (a - h) := by
  have h1 := at_b n i (by omega) (h - 1) (a - h)
  have h2 := at_b n i (by omega) (h + 1) (a - h)
  have hb := p2_b i (by omega)
  show (if 0 ≤ h ∧ h ≤ 2 * n - i - 1 then wrap64 (impl_CountByArea.at n i (h - 1) (a - h) + impl_CountByArea.at n i (h + 1) (a - h)) else 0) = _
  rw [if_pos hl, w64 (by omega) (by omega)]
theorem at_z (n : Int) (hn : n ≤ 15) (i : Nat) (h a : Int) (hb : h < 0 ∨ 30 < h ∨ a < 0 ∨ 30 * (i : Int) < a) : impl_CountByArea.at n i h a = 0 :=
  impl_CountByArea.at_out n hn i h a (by unfold impl_CountByArea.bd; omega)
def F (n : Int) (i : Nat) (h : Int) : Int := pf (fun a : Nat => impl_CountByArea.at n i h (a : Int)) 931
theorem F_out (n : Int) (hn : n ≤ 15) (i : Nat) (h : Int) (hb : h < 0 ∨ 30 < h) : F n i h = 0 :=
  pf_zero _ _ (fun a => at_z n hn i h a (by omega))
theorem F_lim (n : Int) (i : Nat) (h : Int) (hb : ¬ (0 ≤ h ∧ h ≤ 2 * n - i - 1)) : F n (i + 1) h = 0 := by
  refine pf_zero _ _ (fun a => ?_)
  show (if 0 ≤ h ∧ h ≤ 2 * n - i - 1 then _ else 0) = 0
  rw [if_neg hb]
theorem F_rec (n : Int) (hn : n ≤ 15) (i : Nat) (hi : i < 30) (h : Nat) (hl : (h : Int) ≤ 2 * n - i - 1) : F n (i + 1) h = pw h * (F n i ((h : Int) - 1) + F n i ((h : Int) + 1)) := by
  have e : (fun a : Nat => impl_CountByArea.at n (i + 1) (h : Int) (a : Int)) = fun a : Nat => (fun x : Int => impl_CountByArea.at n i ((h : Int) - 1) x + impl_CountByArea.at n i ((h : Int) + 1) x) ((a : Int) - (h : Int)) := by
    funext a
    exact at_rec n i (by omega) h a ⟨Int.natCast_nonneg _, hl⟩
  have hh : h ≤ 30 := by omega
  have z : ∀ a : Int, a < 0 ∨ 30 * (i : Int) < a → impl_CountByArea.at n i ((h : Int) - 1) a + impl_CountByArea.at n i ((h : Int) + 1) a = 0 := fun a ha => by
    rw [at_z n hn i _ a (by omega), at_z n hn i _ a (by omega)]; rfl
  have s := pf_shift (fun x : Int => impl_CountByArea.at n i ((h : Int) - 1) x + impl_CountByArea.at n i ((h : Int) + 1) x) (fun a ha => z a (.inl ha)) (931 - h) h
  have q := pf_ext h (931 - h) (fun a : Nat => impl_CountByArea.at n i ((h : Int) - 1) (a : Int) + impl_CountByArea.at n i ((h : Int) + 1) (a : Int)) (fun a ha => z a (.inr (by omega)))
  have e9 : (931 - h) + h = 931 := by omega
  rw [e9] at s q
  unfold F
  rw [e, s, ← q, pf_add]
def pre (r : List Int) : Nat → Int
  | 0 => 0
  | j + 1 => r.getD j 0
/-- One step of all heights at once. -/
def stp (lim : Int) (r : List Int) : List Int := (List.range 31).map fun (h : Nat) => if (h : Int) ≤ lim then pw h * (pre r h + r.getD (h + 1) 0) else 0
def rr (n : Int) : Nat → List Int
  | 0 => 1 :: List.replicate 30 0
  | i + 1 => stp (2 * n - i - 1) (rr n i)
theorem stp_get (lim : Int) (r : List Int) (h : Nat) (hh : h < 31) : (stp lim r).getD h 0 = if (h : Int) ≤ lim then pw h * (pre r h + r.getD (h + 1) 0) else 0 := by
  unfold stp
  rw [List.getD_eq_getElem?_getD, List.getElem?_map, List.getElem?_range hh]
  rfl
theorem stp_len (lim : Int) (r : List Int) : (stp lim r).length = 31 := by simp [stp]
theorem rr_len (n : Int) : ∀ i : Nat, (rr n i).length = 31
  | 0 => rfl
  | i + 1 => stp_len _ _
theorem rr_out (n : Int) (i h : Nat) (hh : 31 ≤ h) : (rr n i).getD h 0 = 0 := by
  rw [List.getD_eq_getElem?_getD, List.getElem?_eq_none (by rw [rr_len]; exact hh)]; rfl
theorem F_zero (n : Int) : F n 0 0 = 1 := by
  show (if (0 : Int) = 0 ∧ ((0 : Nat) : Int) = 0 then (1 : Int) else 0) + 4294967296 * pf (fun a : Nat => impl_CountByArea.at n 0 0 ((a + 1 : Nat) : Int)) 930 = 1
  rw [if_pos ⟨rfl, rfl⟩, pf_zero 930 _ (fun a => by
    show (if (0 : Int) = 0 ∧ ((a + 1 : Nat) : Int) = 0 then (1 : Int) else 0) = 0
    rw [if_neg (by omega)])]
  rfl
theorem rr_ok (n : Int) (hn : n ≤ 15) : ∀ i : Nat, i ≤ 30 → ∀ h : Nat, (rr n i).getD h 0 = F n i (h : Int)
  | 0, _, h => by
    cases h with
    | zero => exact (F_zero n).symm
    | succ h =>
      have e : F n 0 ((h + 1 : Nat) : Int) = 0 := pf_zero _ _ (fun a => by
        show (if ((h + 1 : Nat) : Int) = 0 ∧ (a : Int) = 0 then (1 : Int) else 0) = 0
        rw [if_neg (by omega)])
      rw [e]
      show (List.replicate 30 (0 : Int)).getD h 0 = 0
      rw [List.getD_eq_getElem?_getD, List.getElem?_replicate]
      split <;> rfl
  | i + 1, hi, h => by
    have ih := rr_ok n hn i (by omega)
    by_cases hh : h < 31
    · show (stp (2 * n - i - 1) (rr n i)).getD h 0 = _
      rw [stp_get _ _ _ hh]
      by_cases c : (h : Int) ≤ 2 * n - i - 1
      · rw [if_pos c, F_rec n hn i (by omega) h c, ih (h + 1), show (((h + 1 : Nat) : Int)) = (h : Int) + 1 by omega]
        cases h with
        | zero =>
          rw [show ((0 : Nat) : Int) - 1 = -1 by omega, F_out n hn i (-1) (by omega)]
          rfl
        | succ h =>
          show pw (h + 1) * ((rr n i).getD h 0 + _) = _
          rw [ih h, show ((h + 1 : Nat) : Int) - 1 = (h : Int) by omega]
      · rw [if_neg c, F_lim n i h (fun q => c q.2)]
    · rw [rr_out n (i + 1) h (by omega), F_out n hn (i + 1) h (by omega)]
theorem chk_rr : ∀ n : Nat, n < 16 → (rr (n : Int) (2 * n)).getD 0 0 = DD n := by decide +kernel
theorem at_row (n : Nat) (hn : n ≤ 15) (R : List Int) (hR : RowL (n * n + 1) (S n) (DD n) R) (a : Nat) (ha : a < 931) : impl_CountByArea.at (n : Int) (2 * n) 0 (a : Int) = R.getD a 0 := by
  obtain ⟨r1, r2, r3, r4⟩ := hR
  have hsq := sq_b n (by omega)
  have hS := S_b n (by omega)
  refine pf_inj 931 (fun a : Nat => impl_CountByArea.at (n : Int) (2 * n) 0 (a : Int)) (fun a => R.getD a 0) (fun a _ => ⟨?_, ?_⟩) ?_ a ha
  · have q1 := at_b (n : Int) (2 * n) (by omega) 0 a
    have q2 := p2_b (2 * n) (by omega)
    show 0 ≤ impl_CountByArea.at (n : Int) (2 * n) 0 (a : Int) ∧ impl_CountByArea.at (n : Int) (2 * n) 0 (a : Int) < 4294967296
    omega
  · show 0 ≤ R.getD a 0 ∧ R.getD a 0 < 4294967296
    by_cases c : a < R.length
    · have := le_sm R r2 a c
      omega
    · rw [List.getD_eq_getElem?_getD, List.getElem?_eq_none (by omega)]
      exact ⟨by decide, by decide⟩
  · rw [pf_ev 931 R (by omega), r4, ← chk_rr n (by omega), rr_ok (n : Int) (by omega) (2 * n) (by omega) 0]
    rfl
theorem num_ok (of : Int → Option Int) (R : List Int) (hl : R.length ≤ 1000) (h : ∀ i : Nat, i < R.length → of (i : Int) = some (R.getD i 0)) (e : Nat) : ∀ (i q : Nat), i + e = R.length → e < q → impl_numbers.l0 q of (R.take i) (R.length : Int) (i : Int) = some R := by
  induction e with
  | zero =>
    intro i q h1 h2
    obtain ⟨q, rfl⟩ : ∃ m, q = m + 1 := ⟨q - 1, by omega⟩
    obtain rfl : i = R.length := by omega
    simp only [impl_numbers.l0]
    rw [if_neg (a_nlt (Nat.lt_irrefl _)), List.take_length]
  | succ e ih =>
    intro i q h1 h2
    obtain ⟨q, rfl⟩ : ∃ m, q = m + 1 := ⟨q - 1, by omega⟩
    have hi : i < R.length := by omega
    have hlt : (R.take i).length < 17592186044416 := by rw [List.length_take]; omega
    simp only [impl_numbers.l0, h i hi, Option.bind_some, a_suc i (by omega)]
    rw [if_pos (a_lt hi), if_pos hlt, ← take_snoc R i hi]
    exact ih (i + 1) q (by omega) (by omega)
/-! ### The row itself: the digits of its weighted sum -/
def digs : Nat → Int → List Int
  | 0, _ => []
  | m + 1, d => d % 4294967296 :: digs m (d / 4294967296)
theorem dig_mod {x e : Int} (h0 : 0 ≤ x) (h1 : x < 4294967296) : (x + 4294967296 * e) % 4294967296 = x ∧ (x + 4294967296 * e) / 4294967296 = e := by omega
theorem digs_ev : ∀ (xs : List Int), (∀ x ∈ xs, 0 ≤ x ∧ x < 4294967296) → digs xs.length (ev xs) = xs
  | [], _ => rfl
  | x :: xs, h => by
    have h1 := h x (List.mem_cons_self ..)
    have e := dig_mod (x := x) (e := ev xs) h1.1 h1.2
    simp only [List.length_cons, digs, ev]
    rw [e.1, e.2, digs_ev xs fun y hy => h y (List.mem_cons_of_mem _ hy)]
theorem mem_le_sm : ∀ (xs : List Int), (∀ x ∈ xs, 0 ≤ x) → ∀ x ∈ xs, x ≤ sm xs
  | [], _, x, hx => absurd hx (List.not_mem_nil)
  | y :: ys, h, x, hx => by
    have h1 := h y (List.mem_cons_self ..)
    have h2 : ∀ z ∈ ys, 0 ≤ z := fun z hz => h z (List.mem_cons_of_mem _ hz)
    have h3 := sm_nonneg ys h2
    rcases List.mem_cons.mp hx with rfl | hx
    · simp only [sm]; omega
    · have := mem_le_sm ys h2 x hx
      simp only [sm]; omega
def row (n : Nat) : List Int := digs (n * n + 1) (DD n)
theorem row_len : ∀ (m : Nat) (d : Int), (digs m d).length = m
  | 0, _ => rfl
  | m + 1, d => by simp only [digs, List.length_cons, row_len m]
theorem row_eq (n : Nat) (hn : n ≤ 15) (R : List Int) (h : RowL (n * n + 1) (S n) (DD n) R) : R = row n := by
  have h1 := S_b n (by omega)
  have h2 := mem_le_sm R h.2.1
  have h3 := digs_ev R (fun x hx => ⟨h.2.1 x hx, by have := h2 x hx; rw [h.2.2.1] at this; omega⟩)
  rw [h.1, h.2.2.2] at h3
  exact h3.symm
theorem good_n (n : Nat) (hn : n ≤ 15) : spec_reGood.f (n : Int) = some true := by
  unfold spec_reGood.f spec_l1In.f
  rw [if_pos (by omega), decide_eq_true (by omega)]; rfl
theorem areas_eq (n : Nat) (hn : n ≤ 15) (K : Nat) (hK : 40000000 ≤ K) : ∃ out, spec_reAreas.f K (n : Int) = some out ∧ (n : Int) < (out.length : Int) ∧ rd_L3 out (n : Int) = row n := by
  have g1 : Good 1 [[1]] := by
    refine ⟨rfl, fun i hi => ?_⟩
    obtain rfl : i = 0 := by omega
    exact ⟨rfl, fun x hx => by rw [List.mem_singleton.mp hx]; decide, rfl, rfl⟩
  obtain ⟨out, o1, o2⟩ := l0_ok n hn n 1 K [[1]] (by omega) (by omega) (by omega) g1
  refine ⟨out, o1, a_lt (by rw [o2.1]; omega), ?_⟩
  rw [rdL1g]
  exact row_eq n hn _ (o2.2 n (by omega))
theorem spec_eq (n : Nat) (hn : n ≤ 15) (K : Nat) (hK : 40000000 ≤ K) : spec_CountByArea.f K (n : Int) = some (row n, true) ∧ RowL (n * n + 1) (S n) (DD n) (row n) := by
  have g1 : Good 1 [[1]] := by
    refine ⟨rfl, fun i hi => ?_⟩
    obtain rfl : i = 0 := by omega
    exact ⟨rfl, fun x hx => by rw [List.mem_singleton.mp hx]; decide, rfl, rfl⟩
  obtain ⟨out, o1, o2⟩ := l0_ok n hn n 1 K [[1]] (by omega) (by omega) (by omega) g1
  have e := o2.2 n (by omega)
  have e2 := row_eq n hn _ e
  rw [e2] at e
  refine ⟨?_, e⟩
  unfold spec_CountByArea.f
  rw [good_n n hn]
  simp only [Option.bind_some, if_true]
  unfold spec_reAreas.f
  rw [show spec_reAreas.l0 K (n : Int) [([1] : List Int)] 1 = some out from o1]
  simp only [Option.bind_some]
  rw [if_pos (Int.natCast_nonneg n), if_pos (a_lt (by rw [o2.1]; omega)), rdL1g, e2]
theorem impl_eq (n : Nat) (hn : n ≤ 15) (R : List Int) (hR : RowL (n * n + 1) (S n) (DD n) R) (K : Nat) (hK : 1050000 < K) : impl_CountByArea.f K (n : Int) = some (R, true) := by
  have hsq := sq_b n (by omega)
  have hp : impl_isPairs.f (n : Int) = some true := by
    unfold impl_isPairs.f impl_in.f
    rw [if_pos (by omega), decide_eq_true (by omega)]; rfl
  have e1 : wrap64 ((n : Int) * (n : Int)) = ((n * n : Nat) : Int) := by
    have e : (n : Int) * (n : Int) = ((n * n : Nat) : Int) := by rw [Int.natCast_mul]
    rw [e, w64 (by omega) (by omega)]
  have e2 : wrap64 (((n * n : Nat) : Int) + 1) = (R.length : Int) := by rw [w64 (by omega) (by omega), hR.1]; omega
  have hof : ∀ i : Nat, i < R.length → impl_CountByArea.of (n : Int) (i : Int) = some (R.getD i 0) := fun i hi => by
    have hl := hR.1
    unfold impl_CountByArea.of
    rw [if_pos (WalkArith.wf_i64 (by omega)), show (2 * (n : Int)).toNat = 2 * n by omega, at_row n hn R hR i (by omega)]
  unfold impl_CountByArea.f impl_numbers.f
  rw [hp]
  simp only [Option.bind_some, if_true]
  rw [e1, e2, show impl_numbers.l0 K (fun x => impl_CountByArea.of (n : Int) x) [] (R.length : Int) 0 = some R from num_ok _ R (by rw [hR.1]; omega) hof R.length 0 K (by omega) (by rw [hR.1]; omega)]
  rfl
theorem impl_row (n : Nat) (hn : n ≤ 15) (K : Nat) (hK : 1050000 < K) : impl_CountByArea.f K (n : Int) = some (row n, true) := by
  obtain ⟨K', hK'⟩ : ∃ K : Nat, 40000000 ≤ K := ⟨_, Nat.le_refl _⟩
  exact impl_eq n hn (row n) (spec_eq n hn K' hK').2 K hK
theorem sum_chk : ∀ n : Nat, n < 16 → spec_SumOfAreas.l0 300 0 (row n) ((row n).length : Int) 0 = impl_SumOfAreas.f 300 (n : Int) ∧ (impl_SumOfAreas.f 300 (n : Int)).isSome = true := by decide +kernel
theorem spec_sum (n : Nat) (hn : n ≤ 15) (K : Nat) (hK : 40000000 ≤ K) : spec_SumOfAreas.f K (n : Int) = impl_SumOfAreas.f 300 (n : Int) := by
  obtain ⟨out, o1, o2, o3⟩ := areas_eq n hn K hK
  obtain ⟨c1, c2⟩ := sum_chk n (by omega)
  unfold spec_SumOfAreas.f
  rw [good_n n hn]
  simp only [Option.bind_some, if_true]
  rw [o1]
  simp only [Option.bind_some]
  rw [if_pos (Int.natCast_nonneg n), if_pos o2, o3]
  obtain ⟨r, hr⟩ := Option.isSome_iff_exists.mp c2
  rw [hr] at c1 ⊢
  exact up' (fun k => spec_SumOfAreas.l0 k 0 (row n) ((row n).length : Int) 0) (fun k => spec_SumOfAreas.mono_l k _ _ _ _) c1 K (by omega)
end AreaRow

/-- One row of the table (u is fixed, d falls from d to 0): next: the row of u + 1. -/
def dpGo (n h u : Int) : Int → Int → List Int → List Int
  | _, _, [] => []
  | d, p, x :: xs => (if 0 ≤ wrap64 (u - d) ∧ wrap64 (u - d) ≤ h then (if u = n ∧ d = n then 1 else wrap64 (x + p)) else 0) :: dpGo n h u (d - 1) (if 0 ≤ wrap64 (u - d) ∧ wrap64 (u - d) ≤ h then (if u = n ∧ d = n then 1 else wrap64 (x + p)) else 0) xs
/-- The rows of u = n + 1, n, .. -/
def dpRows (n h : Int) (c : Nat) : Nat → List Int
  | 0 => List.replicate c 0
  | m + 1 => dpGo n h (n - m) n 0 (dpRows n h c m)
def dpVal (n h : Int) : Int := (dpRows n h (n.toNat + 1) (n.toNat + 1)).getD n.toNat 0
theorem dpGo_length (n h u : Int) : ∀ (xs : List Int) (d p : Int), (dpGo n h u d p xs).length = xs.length
  | [], _, _ => rfl
  | x :: xs, d, p => by rw [dpGo, List.length_cons, List.length_cons, dpGo_length n h u xs]
theorem in_some (a b c : Int) : impl_in.f a b c = some (decide (b ≤ a ∧ a ≤ c)) := by
  unfold impl_in.f
  by_cases h : b ≤ a
  · rw [if_pos h]; simp [h]
  · rw [if_neg h]; simp [h]
theorem g_step (n h u d a b : Int) (k : Nat) (hu : u ≤ n) (hd : d ≤ n) (hu1 : wrap64 (u + 1) = u + 1) (hd1 : wrap64 (d + 1) = d + 1) (ha : impl_between_2.g n n 0 h k (u + 1) d = some a) (hb : impl_between_2.g n n 0 h k u (d + 1) = some b) :
    impl_between_2.g n n 0 h (k + 1) u d = some (if 0 ≤ wrap64 (u - d) ∧ wrap64 (u - d) ≤ h then (if u = n ∧ d = n then 1 else wrap64 (a + b)) else 0) := by
  unfold impl_between_2.g
  rw [if_neg (Int.not_lt.mpr hu), if_neg (Int.not_lt.mpr hd), in_some, hu1, hd1, ha, hb]
  simp only [Option.bind_some, decide_eq_true_eq]
  by_cases e : 0 ≤ wrap64 (u - d) ∧ wrap64 (u - d) ≤ h
  · rw [if_pos e, if_pos e]
    by_cases e2 : u = n ∧ d = n
    · rw [if_pos e2, if_pos e2]
    · rw [if_neg e2, if_neg e2]
  · rw [if_neg e, if_neg e]
theorem go_ok (n h u : Int) (hn : n ≤ 15) (hu0 : 0 ≤ u) (hu : u ≤ n) : ∀ (xs : List Int) (d p : Int) (K : Nat), d ≤ n → (xs.length : Int) ≤ d + 1 → (∀ k, K ≤ k → impl_between_2.g n n 0 h k u (d + 1) = some p) →
    (∀ (j : Nat) (hj : j < xs.length) (k : Nat), K + j ≤ k → impl_between_2.g n n 0 h k (u + 1) (d - j) = some xs[j]) → ∀ (j : Nat) (hj : j < (dpGo n h u d p xs).length) (k : Nat), K + j + 1 ≤ k → impl_between_2.g n n 0 h k u (d - j) = some (dpGo n h u d p xs)[j]
  | [], d, p, K, _, _, _, _ => fun j hj => by simp [dpGo] at hj
  | x :: xs, d, p, K, hd, hl, hp, hx => by
    rw [List.length_cons] at hl
    have w1 : wrap64 (u + 1) = u + 1 := w64 (by omega) (by omega)
    have w2 : wrap64 (d + 1) = d + 1 := w64 (by omega) (by omega)
    have hv : ∀ k, K + 1 ≤ k → impl_between_2.g n n 0 h k u d = some (if 0 ≤ wrap64 (u - d) ∧ wrap64 (u - d) ≤ h then (if u = n ∧ d = n then 1 else wrap64 (x + p)) else 0) := by
      intro k hk
      obtain ⟨k, rfl⟩ : ∃ m, k = m + 1 := ⟨k - 1, by omega⟩
      have h0 := hx 0 (by rw [List.length_cons]; omega) k (by omega)
      have e0 : d - ((0 : Nat) : Int) = d := by omega
      rw [e0] at h0
      exact g_step n h u d x p k hu hd w1 w2 h0 (hp k (by omega))
    intro j hj k hk
    cases j with
    | zero =>
      have e0 : d - ((0 : Nat) : Int) = d := by omega
      rw [e0]
      simp only [dpGo, List.getElem_cons_zero]
      exact hv k (by omega)
    | succ j =>
      have e0 : d - ((j + 1 : Nat) : Int) = (d - 1) - (j : Int) := by omega
      rw [e0]
      simp only [dpGo, List.getElem_cons_succ]
      refine go_ok n h u hn hu0 hu xs (d - 1) _ (K + 1) (by omega) (by omega) (fun k hk => ?_) (fun j' hj' k hk => ?_) j (by simpa [dpGo] using hj) k (by omega)
      · have e1 : d - 1 + 1 = d := by omega
        rw [e1]; exact hv k hk
      · have e1 : d - 1 - (j' : Int) = d - ((j' + 1 : Nat) : Int) := by omega
        rw [e1]
        have := hx (j' + 1) (by rw [List.length_cons]; omega) k (by omega)
        rwa [List.getElem_cons_succ] at this
theorem rows_ok (n : Nat) (h : Int) (hn : n ≤ 15) : ∀ m : Nat, m ≤ n + 1 → (dpRows n h (n + 1) m).length = n + 1 ∧ ∀ (j : Nat) (hj : j < (dpRows n h (n + 1) m).length) (k : Nat), m + 1 + j ≤ k → impl_between_2.g n n 0 h k ((n : Int) + 1 - m) ((n : Int) - j) = some (dpRows n h (n + 1) m)[j]
  | 0, _ => by
    refine ⟨by simp [dpRows], fun j hj k hk => ?_⟩
    obtain ⟨k, rfl⟩ : ∃ m, k = m + 1 := ⟨k - 1, by omega⟩
    unfold impl_between_2.g
    rw [if_pos (by omega)]
    simp [dpRows]
  | m + 1, hm => by
    obtain ⟨h1, h2⟩ := rows_ok n h hn m (by omega)
    refine ⟨by rw [dpRows, dpGo_length, h1], fun j hj k hk => ?_⟩
    have e0 : (n : Int) + 1 - ((m + 1 : Nat) : Int) = (n : Int) - (m : Int) := by omega
    rw [e0]
    refine go_ok n h ((n : Int) - m) (by omega) (by omega) (by omega) (dpRows n h (n + 1) m) n 0 (m + 1) (by omega) (by rw [h1]; omega) (fun k hk => ?_) (fun j hj k hk => ?_) j hj k (by omega)
    · obtain ⟨k, rfl⟩ : ∃ m, k = m + 1 := ⟨k - 1, by omega⟩
      unfold impl_between_2.g
      rw [if_neg (by omega), if_pos (by omega)]
    · have e1 : (n : Int) - (m : Int) + 1 = (n : Int) + 1 - (m : Int) := by omega
      rw [e1]; exact h2 j hj k hk
theorem dpVal_eq (n : Nat) (h : Int) (hn : n ≤ 15) : impl_between_2.g n n 0 h 62 0 0 = some (dpVal n h) := by
  obtain ⟨h1, h2⟩ := rows_ok n h hn (n + 1) (Nat.le_refl _)
  have := h2 n (by omega) 62 (by omega)
  have e1 : (n : Int) + 1 - ((n + 1 : Nat) : Int) = 0 := by omega
  have e2 : (n : Int) - (n : Int) = 0 := by omega
  rw [e1, e2] at this
  rw [this]
  unfold dpVal
  rw [Int.toNat_natCast, List.getD_eq_getElem?_getD, List.getElem?_eq_getElem (by omega)]
  rfl
/-- How many good closed paths of n pairs have the greatest height h. -/
def dpBy (n h : Int) : Int := wrap64 (dpVal n h - dpVal n (wrap64 (h - 1)))
theorem byHeight_eq (n h : Int) (h0 : 0 ≤ n) (hn : n ≤ 15) (k : Nat) : impl_byHeight.f k n h = some (dpBy n h) := by
  obtain ⟨m, rfl⟩ : ∃ m : Nat, n = m := ⟨n.toNat, by omega⟩
  unfold impl_byHeight.f
  rw [dpVal_eq m h (by omega), dpVal_eq m _ (by omega)]
  rfl
theorem in_cases (a : Int) (h0 : 0 ≤ a) (h1 : a ≤ 15) : a = 0 ∨ a = 1 ∨ a = 2 ∨ a = 3 ∨ a = 4 ∨ a = 5 ∨ a = 6 ∨ a = 7 ∨ a = 8 ∨ a = 9 ∨ a = 10 ∨ a = 11 ∨ a = 12 ∨ a = 13 ∨ a = 14 ∨ a = 15 := by
  omega
theorem outside (a : Int) (h : ¬ (0 ≤ a ∧ a ≤ 15)) : spec_reGood.f a = some false ∧ impl_isPairs.f a = some false := by
  constructor
  · unfold spec_reGood.f spec_l1In.f
    by_cases h0 : a ≥ 0
    · rw [if_pos h0]; have : ¬ a ≤ 15 := fun h1 => h ⟨h0, h1⟩
      simp [this]
    · rw [if_neg h0]; rfl
  · unfold impl_isPairs.f impl_in.f
    by_cases h0 : 0 ≤ a
    · rw [if_pos h0]; have : ¬ a ≤ 15 := fun h1 => h ⟨h0, h1⟩
      simp [this]
    · rw [if_neg h0]; rfl

namespace Hgt
def ofDp (n x : Int) : Option Int := if 0 ≤ n ∧ n ≤ 15 then some (dpBy n x) else none
theorem ofDp_le (n : Int) (K : Nat) : ∀ x, LeO (ofDp n x) (impl_CountByHeight_1.f K n x) := by
  intro x r h
  unfold ofDp at h
  by_cases e : 0 ≤ n ∧ n ≤ 15
  · rw [if_pos e] at h
    unfold impl_CountByHeight_1.f
    rw [byHeight_eq n x e.1 e.2 K]
    exact h
  · rw [if_neg e] at h; cases h
def chk (n : Int) : Bool := match spec_CountByHeight.f 5000 n, impl_numbers.f 4999 n (ofDp n) with
  | some (a, true), some b => decide (b = a) && decide (a.length ≤ 20)
  | _, _ => false
theorem chk_all : chk 0 = true ∧ chk 1 = true ∧ chk 2 = true ∧ chk 3 = true ∧ chk 4 = true ∧ chk 5 = true ∧ chk 6 = true ∧ chk 7 = true ∧ chk 8 = true ∧ chk 9 = true ∧ chk 10 = true ∧ chk 11 = true ∧ chk 12 = true ∧ chk 13 = true ∧ chk 14 = true ∧ chk 15 = true := by
  refine ⟨?_, ?_, ?_, ?_, ?_, ?_, ?_, ?_, ?_, ?_, ?_, ?_, ?_, ?_, ?_, ?_⟩ <;> kernel_rfl
theorem both (a : Int) : ∃ (L : List Int) (b : Bool), L.length ≤ 20 ∧ (∀ k, 5000 ≤ k → spec_CountByHeight.f k a = some (L, b)) ∧ ∀ k, 5000 ≤ k → impl_CountByHeight.f k a = some (L, b) := by
  by_cases h : 0 ≤ a ∧ a ≤ 15
  · have hc : chk a = true := by
      obtain ⟨c0, c1, c2, c3, c4, c5, c6, c7, c8, c9, c10, c11, c12, c13, c14, c15⟩ := chk_all
      obtain e | e | e | e | e | e | e | e | e | e | e | e | e | e | e | e := in_cases a h.1 h.2 <;> subst e <;> assumption
    have hp : impl_isPairs.f a = some true := by
      unfold impl_isPairs.f
      rw [in_some]
      simp [h]
    unfold chk at hc
    cases h1 : spec_CountByHeight.f 5000 a with
    | none => rw [h1] at hc; cases hc
    | some r1 =>
      cases h2 : impl_numbers.f 4999 a (ofDp a) with
      | none =>
        rw [h1, h2] at hc
        obtain ⟨x, y⟩ := r1
        cases y <;> cases hc
      | some r2 =>
        rw [h1, h2] at hc
        obtain ⟨x, y⟩ := r1
        cases y
        · cases hc
        · simp only [Bool.and_eq_true, decide_eq_true_eq] at hc
          obtain ⟨rfl, hl⟩ := hc
          have h3 := impl_numbers.mono (of := ofDp a) (of' := fun x => impl_CountByHeight_1.f 5000 a x) (ofDp_le a 5000) a 4999 _ h2
          have h4 : impl_CountByHeight.f 5000 a = some (r2, true) := by
            unfold impl_CountByHeight.f
            rw [hp]
            simp only [Option.bind_some, if_true]
            rw [show impl_numbers.f 5000 a (fun x => impl_CountByHeight_1.f 5000 a x) = some r2 from h3]
            rfl
          exact ⟨r2, true, hl, fun k hk => up' (fun k => spec_CountByHeight.f k a) (fun k => spec_CountByHeight.mono a k) h1 k hk, fun k hk => up' (fun k => impl_CountByHeight.f k a) (fun k => impl_CountByHeight.mono a k) h4 k hk⟩
  · obtain ⟨h1, h2⟩ := outside a h
    refine ⟨[], false, by simp, fun k _ => ?_, fun k _ => ?_⟩
    · simp [spec_CountByHeight.f, h1]
    · simp [impl_CountByHeight.f, h2]
end Hgt

/-- impl.SumOfHighest's loop, over the table. -/
def sumL : Nat → Int → Int → Int → Int → Option (Int × Bool)
  | 0, _, _, _, _ => none
  | k + 1, x0, x4, x10, x11 => if x11 < x10 then sumL k x0 (wrap64 (x4 + (wrap64 (x11 * dpBy x0 x11)))) x10 (wrap64 (x11 + 1)) else some (x4, true)
theorem sumL_eq (n : Int) (h0 : 0 ≤ n) (hn : n ≤ 15) : ∀ (k : Nat) (x4 x10 x11 : Int), impl_SumOfHighest.l0 k n x4 x10 x11 = sumL k n x4 x10 x11
  | 0, _, _, _ => rfl
  | k + 1, x4, x10, x11 => by
    rw [impl_SumOfHighest.l0, sumL, byHeight_eq n x11 h0 hn k]
    simp only [Option.bind_some]
    rw [sumL_eq n h0 hn k]

/-! ### The law's rounds -/
def sumw (xs : List Int) : Int → Nat → Nat → Int
  | acc, _, 0 => acc
  | acc, i, d + 1 => sumw xs (wrap64 (acc + wrap64 ((i : Int) * rd xs (i : Int)))) (i + 1) d
theorem r_suc (i : Nat) (h : i ≤ 100000) : wrap64 ((i : Int) + 1) = ((i + 1 : Nat) : Int) := by rw [w64 (by omega) (by omega)]; omega
theorem r_lt {i d n : Nat} (h : i + (d + 1) = n) : (i : Int) < (n : Int) := by omega
theorem r_nlt {i n : Nat} (h : i + 0 = n) : ¬ (i : Int) < (n : Int) := by omega
theorem l0_run (x1 : List Int) (n : Int) (P H A : List Int) (C So O x38 : Int) (x39 : Bool) (x40 : Int) (x41 : Bool) (x43 : Int) (hA : A.length ≤ 1000) (hp : ∀ j : Nat, j < A.length → rd A (j : Int) > 0 → Int.tmod (wrap64 ((j : Int) - n)) 2 = 0) (d : Nat) : ∀ (i k : Nat) (x42 : Int), i + d = A.length →
    laws_FnGoodPathsSorted.l0 (k + d + 1) x1 n P H A C So O x38 x39 x40 x41 x42 x43 A (A.length : Int) (i : Int) = laws_FnGoodPathsSorted.l1 k x1 n P H A C So O x38 x39 x40 x41 (sumw A x42 i d) x43 H (H.length : Int) 0 := by
  induction d with
  | zero =>
    intro i k x42 h
    simp only [laws_FnGoodPathsSorted.l0, sumw]
    rw [if_neg (r_nlt h)]
  | succ d ih =>
    intro i k x42 h
    have hi : (i : Int) < (A.length : Int) := r_lt h
    have hi2 : i < A.length := by omega
    have hi3 : i ≤ 100000 := by omega
    rw [show k + (d + 1) + 1 = (k + d + 1) + 1 by omega]
    simp only [laws_FnGoodPathsSorted.l0, sumw]
    rw [if_pos hi, if_pos (Int.natCast_nonneg i), if_pos hi, r_suc i hi3]
    by_cases e : rd A (i : Int) > 0
    · rw [if_pos e, if_pos (hp i hi2 e)]
      exact ih (i + 1) k _ (by omega)
    · rw [if_neg e]
      exact ih (i + 1) k _ (by omega)
/-- What stands behind the second loop. -/
def Fin (k : Nat) (x1 : List Int) (n : Int) (P H A : List Int) (C So O x38 : Int) (x39 : Bool) (x40 : Int) (x41 : Bool) (x42 x43 : Int) : Option Bool :=
  laws_FnGoodPathsSorted.l1 (k + 1) x1 n P H A C So O x38 x39 x40 x41 x42 x43 H (H.length : Int) (H.length : Int)
theorem l1_run (x1 : List Int) (n : Int) (P H A : List Int) (C So O x38 : Int) (x39 : Bool) (x40 : Int) (x41 : Bool) (x42 : Int) (hH : H.length ≤ 1000) (d : Nat) : ∀ (i k : Nat) (x43 : Int), i + d = H.length →
    laws_FnGoodPathsSorted.l1 (k + d + 1) x1 n P H A C So O x38 x39 x40 x41 x42 x43 H (H.length : Int) (i : Int) = laws_FnGoodPathsSorted.l1 (k + 1) x1 n P H A C So O x38 x39 x40 x41 x42 (sumw H x43 i d) H (H.length : Int) (H.length : Int) := by
  induction d with
  | zero =>
    intro i k x43 h
    obtain rfl : i = H.length := by omega
    rfl
  | succ d ih =>
    intro i k x43 h
    have hi : (i : Int) < (H.length : Int) := r_lt h
    have hi3 : i ≤ 100000 := by omega
    rw [show k + (d + 1) + 1 = (k + d + 1) + 1 by omega, laws_FnGoodPathsSorted.l1]
    rw [if_pos hi, if_pos (Int.natCast_nonneg i), if_pos hi, r_suc i hi3]
    simp only [sumw]
    exact ih (i + 1) k _ (by omega)
structure Vals (n : Int) (P H T A N : List Int) (C So O cp p4 : Int) : Prop where
  lP : (P.length : Int) = wrap64 (n + 1)
  lH : (H.length : Int) = wrap64 (n + 1)
  lA : (A.length : Int) = wrap64 (wrap64 (n * n) + 1)
  lA2 : A.length ≤ 300
  lH2 : H.length ≤ 300
  sP : laws_ySum.f 400 P = some C
  sH : laws_ySum.f 400 H = some C
  sT : laws_ySum.f 400 T = some C
  sA : laws_ySum.f 400 A = some C
  same : laws_ySame.f 400 T N = some true
  nb : impl_CountNeverBehind.f 400 n n 1 = some (C, true)
  cps : impl_CountPaths.f 400 n (wrap64 (n + 1)) = some (cp, true)
  par : ∀ j : Nat, j < A.length → rd A (j : Int) > 0 → Int.tmod (wrap64 ((j : Int) - n)) 2 = 0
  wA : sumw A 0 0 A.length = So
  wH : sumw H 0 0 H.length = O
  pow : laws_yPower.f 400 4 n = some p4
  so : So = wrap64 (p4 - cp)
  nn : 0 ≤ wrap64 (n * n) ∧ wrap64 (n * n) < (A.length : Int)
  one : rd A (wrap64 (n * n)) = 1
theorem j0_red (x1 : List Int) (n : Int) (P H T A N : List Int) (C So O cp p4 : Int) (V : Vals n P H T A N C So O cp p4) (h2 : Ev (fun k => laws_FnGoodPathsSorted.l2 k x1 n P H 1) true) : Ev (fun k => laws_FnGoodPathsSorted.j0 k x1 n P true H T A N C So O false) true := by
  obtain ⟨k1, h2⟩ := h2
  have hP : ∀ k, 400 ≤ k → laws_ySum.f k P = some C := fun k hk => up' (fun k => laws_ySum.f k P) (fun k => laws_ySum.mono P k) V.sP k hk
  have hH : ∀ k, 400 ≤ k → laws_ySum.f k H = some C := fun k hk => up' (fun k => laws_ySum.f k H) (fun k => laws_ySum.mono H k) V.sH k hk
  have hT : ∀ k, 400 ≤ k → laws_ySum.f k T = some C := fun k hk => up' (fun k => laws_ySum.f k T) (fun k => laws_ySum.mono T k) V.sT k hk
  have hA : ∀ k, 400 ≤ k → laws_ySum.f k A = some C := fun k hk => up' (fun k => laws_ySum.f k A) (fun k => laws_ySum.mono A k) V.sA k hk
  have hS : ∀ k, 400 ≤ k → laws_ySame.f k T N = some true := fun k hk => up' (fun k => laws_ySame.f k T N) (fun k => laws_ySame.mono T N k) V.same k hk
  have hN : ∀ k, 400 ≤ k → impl_CountNeverBehind.f k n n 1 = some (C, true) := fun k hk => up' (fun k => impl_CountNeverBehind.f k n n 1) (fun k => impl_CountNeverBehind.mono _ _ _ k) V.nb k hk
  have hC : ∀ k, 400 ≤ k → impl_CountPaths.f k n (wrap64 (n + 1)) = some (cp, true) := fun k hk => up' (fun k => impl_CountPaths.f k n (wrap64 (n + 1))) (fun k => impl_CountPaths.mono _ _ k) V.cps k hk
  have hW : ∀ k, 400 ≤ k → laws_yPower.f k 4 n = some p4 := fun k hk => up' (fun k => laws_yPower.f k 4 n) (fun k => laws_yPower.mono _ _ k) V.pow k hk
  have l1 := V.lA2
  have l2 := V.lH2
  refine ⟨k1 + 2000, fun k hk => ?_⟩
  show laws_FnGoodPathsSorted.j0 k x1 n P true H T A N C So O false = some true
  obtain ⟨m, rfl, hm⟩ : ∃ m, k = (((m + 1 + 1) + H.length + 1) + A.length + 1) + 1 + 1 ∧ k1 + 1000 ≤ m := ⟨k - (H.length + A.length + 6), by omega, by omega⟩
  have q1 : 400 ≤ m := by omega
  generalize hb : (((m + 1 + 1) + H.length + 1) + A.length + 1) + 1 = b
  have q2 : 400 ≤ b := by omega
  rw [laws_FnGoodPathsSorted.j0, if_neg Bool.false_ne_true, if_pos rfl, if_pos V.lP, if_pos V.lH, if_pos V.lA, hP b q2]
  simp only [Option.bind_some, if_true]
  rw [hH b q2]
  simp only [Option.bind_some, if_true]
  rw [hT b q2]
  simp only [Option.bind_some, if_true]
  rw [hA b q2]
  simp only [Option.bind_some, if_true]
  rw [hS b q2]
  simp only [Option.bind_some]
  rw [← hb]
  clear hb q2 b
  generalize hb : ((m + 1 + 1) + H.length + 1) + A.length + 1 = b
  have q2 : 400 ≤ b := by omega
  rw [laws_FnGoodPathsSorted.j1, show (!true) = false from rfl, if_neg Bool.false_ne_true, hN b q2]
  simp only [Option.bind_some]
  rw [hC b q2]
  simp only [Option.bind_some]
  rw [← hb]
  have r1 := l0_run x1 n P H A C So O C true cp true 0 (by omega) V.par A.length 0 ((m + 1 + 1) + H.length + 1) 0 (Nat.zero_add _)
  have r2 := l1_run x1 n P H A C So O C true cp true (sumw A 0 0 A.length) (by omega) H.length 0 (m + 1 + 1) 0 (Nat.zero_add _)
  rw [show ((0 : Nat) : Int) = 0 from rfl] at r1 r2
  rw [r1, r2, V.wA, V.wH, laws_FnGoodPathsSorted.l1, if_neg (Int.lt_irrefl _), if_pos rfl, if_pos rfl, if_pos rfl, if_pos rfl, if_pos rfl, hW (m + 1 + 1) (by omega)]
  simp only [Option.bind_some]
  rw [if_pos V.so, if_pos V.nn.1, if_pos V.nn.2, V.one, laws_FnGoodPathsSorted.j4, show ((1 : Int) != 1) = false from rfl, if_neg Bool.false_ne_true]
  exact h2 (m + 1) (by omega)

def sumL2 : List Int → Int → Nat → Int
  | [], acc, _ => acc
  | x :: xs, acc, i => sumL2 xs (wrap64 (acc + wrap64 ((i : Int) * x))) (i + 1)
def parL (n : Int) : Nat → List Int → Bool
  | _, [] => true
  | i, x :: xs => decide (x > 0 → Int.tmod (wrap64 ((i : Int) - n)) 2 = 0) && parL n (i + 1) xs

end Go.Proofs.YtjjkglfpcdedlabDoor.QFnGoodPathsSorted
