/-
  The curves' N are prime: certificates (printed by g_prime.py). No program.
  The curves' facts that the kernel reckons: P is prime, the cubic has no root, the group's law with G (printed by g_num.py). No program.
  Multiples of G of the 15 curves: triples that stand for them, what Sum, Times, Plain, Triple, On give at them. Condition: a curve's number from 1 to 15.
-/
import Derived.Test.YtkoonhiplicbkaaGreatQk25
import Derived.Test.YtkoonhiplicbkaaGreatQk20
import Derived.Test.YtkoonhiplicbkaaGreatQk22
import Derived.Test.YtkoonhiplicbkaaGreatQk18
set_option linter.unusedSimpArgs false
set_option linter.unusedVariables false
namespace Go.Proofs.YtkoonhiplicbkaaGreat.Cw
theorem pn0:Pr 1693:=small_pr (k:=40) (by decide +kernel)
theorem pn1:Pr 46245989:=pock _ [(1693,0,2)] 227 (pfc pn0 pfn) (by decide +kernel)
theorem pn2:Pr 7244839476697597:=pock _ [(46245989,0,2)] 17920796 (pfc pn1 pfn) (by decide +kernel)
theorem pn3:Pr 9564682313913860059195669:=pock _ [(7244839476697597,0,2)] 0 (pfc pn2 pfn) (by decide +kernel)
theorem pn4:Pr 6277101735386680763835789423176059013767194773182842284081:=pock _ [(9564682313913860059195669,0,2)] 601516071354950422911021 (pfc pn3 pfn) (by decide +kernel)
theorem pn5:Pr 2089:=small_pr (k:=44) (by decide +kernel)
theorem pn6:Pr 87739:=pock _ [(2089,0,2)] 0 (pfc pn5 pfn) (by decide +kernel)
theorem pn7:Pr 432621809776543:=pock _ [(87739,0,2)] 24851 (pfc pn6 pfn) (by decide +kernel)
theorem pn8:Pr 136401162692544977256234449:=pock _ [(432621809776543,0,2)] 0 (pfc pn7 pfn) (by decide +kernel)
theorem pn9:Pr 34646440928557194402992574983797:=pock _ [(136401162692544977256234449,0,2)] 0 (pfc pn8 pfn) (by decide +kernel)
theorem pn10:Pr 375503554633724504423937478103159147573209:=pock _ [(34646440928557194402992574983797,0,2)] 0 (pfc pn9 pfn) (by decide +kernel)
theorem pn11:Pr 50520606258875818707470860153287666700917696099933389351507:=pock _ [(375503554633724504423937478103159147573209,0,2)] 0 (pfc pn10 pfn) (by decide +kernel)
theorem pn12:Pr 26959946667150639794667015087019625940457807714424391721682722368061:=pock _ [(50520606258875818707470860153287666700917696099933389351507,0,2)] 0 (pfc pn11 pfn) (by decide +kernel)
theorem pn13:Pr 131:=small_pr (k:=10) (by decide +kernel)
theorem pn14:Pr 373:=small_pr (k:=18) (by decide +kernel)
theorem pn15:Pr 3407:=small_pr (k:=57) (by decide +kernel)
theorem pn16:Pr 17449:=small_pr (k:=131) (by decide +kernel)
theorem pn17:Pr 38189:=small_pr (k:=194) (by decide +kernel)
theorem pn18:Pr 29:=small_pr (k:=4) (by decide +kernel)
theorem pn19:Pr 311245691:=pock _ [(29,1,2)] 27 (pfc pn18 pfn) (by decide +kernel)
theorem pn20:Pr 622491383:=pock _ [(311245691,0,2)] 0 (pfc pn19 pfn) (by decide +kernel)
theorem pn21:Pr 115792089210356248762697446949407573529996955224135760342422259061068512044369:=pock _ [(131,0,2),(373,0,2),(3407,0,2),(17449,0,2),(38189,0,2),(622491383,0,2)] 38730077291073770392826738 (pfc pn13 (pfc pn14 (pfc pn15 (pfc pn16 (pfc pn17 (pfc pn20 pfn)))))) (by decide +kernel)
theorem pn22:Pr 13:=small_pr (k:=2) (by decide +kernel)
theorem pn23:Pr 248431:=pock _ [(13,1,2)] 117 (pfc pn22 pfn) (by decide +kernel)
theorem pn24:Pr 311:=small_pr (k:=16) (by decide +kernel)
theorem pn25:Pr 9863677:=pock _ [(311,0,2)] 304 (pfc pn24 pfn) (by decide +kernel)
theorem pn26:Pr 37344768852931:=pock _ [(9863677,0,2)] 0 (pfc pn25 pfn) (by decide +kernel)
theorem pn27:Pr 55942463741690639:=pock _ [(37344768852931,0,2)] 0 (pfc pn26 pfn) (by decide +kernel)
theorem pn28:Pr 1059392654943455286185473617842338478315215895509773412096307:=pock _ [(248431,0,2),(55942463741690639,0,2)] 85095957859417869047 (pfc pn23 (pfc pn27 pfn)) (by decide +kernel)
theorem pn29:Pr 3055465788140352002733946906144561090641249606160407884365391979704929268480326390471:=pock _ [(1059392654943455286185473617842338478315215895509773412096307,0,2)] 0 (pfc pn28 pfn) (by decide +kernel)
theorem pn30:Pr 39402006196394479212279040100143613805079739270465446667946905279627659399113263569398956308152294913554433653942643:=pock _ [(3055465788140352002733946906144561090641249606160407884365391979704929268480326390471,0,2)] 0 (pfc pn29 pfn) (by decide +kernel)
theorem pn31:Pr 3:=small_pr (k:=0) (by decide +kernel)
theorem pn32:Pr 79:=small_pr (k:=7) (by decide +kernel)
theorem pn33:Pr 8196883:=pock _ [(3,0,2),(79,0,2)] 219 (pfc pn31 (pfc pn32 pfn)) (by decide +kernel)
theorem pn34:Pr 43800962361397:=pock _ [(8196883,0,2)] 0 (pfc pn33 pfn) (by decide +kernel)
theorem pn35:Pr 7427946019382605513260578233234962521:=pock _ [(43800962361397,0,2)] 3138042884079 (pfc pn34 pfn) (by decide +kernel)
theorem pn36:Pr 15994076126984618329123851002118749004583184815459808099:=pock _ [(7427946019382605513260578233234962521,0,2)] 0 (pfc pn35 pfn) (by decide +kernel)
theorem pn37:Pr 3636410625392624440351547907325502812950802686368714273274221490761556277859337865760708490235892541081304511:=pock _ [(15994076126984618329123851002118749004583184815459808099,0,2)] 0 (pfc pn36 pfn) (by decide +kernel)
theorem pn38:Pr 3615194794881930010216942559103847593050265703173292383701371712350878926821661243755933835426896058418509759880171943:=pock _ [(3636410625392624440351547907325502812950802686368714273274221490761556277859337865760708490235892541081304511,0,2)] 0 (pfc pn37 pfn) (by decide +kernel)
theorem pn39:Pr 6864797660130609714981900799081393217269435300143305409394463459185543183397655394245057746333217197532963996371363321113864768612440380340372808892707005449:=pock _ [(3615194794881930010216942559103847593050265703173292383701371712350878926821661243755933835426896058418509759880171943,0,2)] 0 (pfc pn38 pfn) (by decide +kernel)
theorem pn40:Pr 1871:=small_pr (k:=42) (by decide +kernel)
theorem pn41:Pr 1627771:=pock _ [(1871,0,2)] 0 (pfc pn40 pfn) (by decide +kernel)
theorem pn42:Pr 297159362677:=pock _ [(1627771,0,2)] 0 (pfc pn41 pfn) (by decide +kernel)
theorem pn43:Pr 29047611873442575647497758179:=pock _ [(297159362677,0,2)] 86782207286 (pfc pn42 pfn) (by decide +kernel)
theorem pn44:Pr 341948486974166000522343609283189:=pock _ [(29047611873442575647497758179,0,2)] 0 (pfc pn43 pfn) (by decide +kernel)
theorem pn45:Pr 115792089237316195423570985008687907852837564279074904382605163141518161494337:=pock _ [(341948486974166000522343609283189,0,2)] 239540216835517601548171058147373 (pfc pn44 pfn) (by decide +kernel)
theorem pn46:Pr 139:=small_pr (k:=10) (by decide +kernel)
theorem pn47:Pr 216841:=pock _ [(139,0,2)] 30 (pfc pn46 pfn) (by decide +kernel)
theorem pn48:Pr 2:=small_pr (k:=0) (by decide +kernel)
theorem pn49:Pr 23:=small_pr (k:=3) (by decide +kernel)
theorem pn50:Pr 623188451:=pock _ [(2,0,2),(23,1,2)] 775 (pfc pn48 (pfc pn49 pfn)) (by decide +kernel)
theorem pn51:Pr 2465333512157:=pock _ [(623188451,0,2)] 0 (pfc pn50 pfn) (by decide +kernel)
theorem pn52:Pr 1332297598440044874827085038830181364212942568457:=pock _ [(216841,0,2),(2465333512157,0,2)] 475548040295999363 (pfc pn47 (pfc pn51 pfn)) (by decide +kernel)
theorem pn53:Pr 773:=small_pr (k:=26) (by decide +kernel)
theorem pn54:Pr 324661:=pock _ [(773,0,2)] 0 (pfc pn53 pfn) (by decide +kernel)
theorem pn55:Pr 73831150867459:=pock _ [(324661,0,2)] 147277 (pfc pn54 pfn) (by decide +kernel)
theorem pn56:Pr 806539990497420485986591867:=pock _ [(73831150867459,0,2)] 0 (pfc pn55 pfn) (by decide +kernel)
theorem pn57:Pr 8065399904974204859865918671:=pock _ [(806539990497420485986591867,0,2)] 0 (pfc pn56 pfn) (by decide +kernel)
theorem pn58:Pr 983978788406852992903642077863:=pock _ [(8065399904974204859865918671,0,2)] 0 (pfc pn57 pfn) (by decide +kernel)
theorem pn59:Pr 1161088527226980043552900118830014153077:=pock _ [(983978788406852992903642077863,0,2)] 0 (pfc pn58 pfn) (by decide +kernel)
theorem pn60:Pr 1990826783253337021526517590177438885463180347771:=pock _ [(1161088527226980043552900118830014153077,0,2)] 0 (pfc pn59 pfn) (by decide +kernel)
theorem pn61:Pr 21889810146873172242343485545193568027521720946368744885738498041:=pock _ [(1990826783253337021526517590177438885463180347771,0,2)] 0 (pfc pn60 pfn) (by decide +kernel)
theorem pn62:Pr 22721622932454352787552537995910923612567546342330757191396560966559:=pock _ [(21889810146873172242343485545193568027521720946368744885738498041,0,2)] 0 (pfc pn61 pfn) (by decide +kernel)
theorem pn63:Pr 1543:=small_pr (k:=38) (by decide +kernel)
theorem pn64:Pr 757986407:=pock _ [(1543,0,2)] 566 (pfc pn63 pfn) (by decide +kernel)
theorem pn65:Pr 57660685428664091:=pock _ [(757986407,0,2)] 0 (pfc pn64 pfn) (by decide +kernel)
theorem pn66:Pr 114430077720284863765762092766225391679591020381:=pock _ [(57660685428664091,0,2)] 53798239314369526 (pfc pn65 pfn) (by decide +kernel)
theorem pn67:Pr 4271386466502519123378319257166758282929862876911918307708639947947974242171:=pock _ [(114430077720284863765762092766225391679591020381,0,2)] 0 (pfc pn66 pfn) (by decide +kernel)
theorem pn68:Pr 76884956397045344220809746629001649092737531784414529538755519063063536359079:=pock _ [(4271386466502519123378319257166758282929862876911918307708639947947974242171,0,2)] 0 (pfc pn67 pfn) (by decide +kernel)
theorem pn69:Pr 107:=small_pr (k:=9) (by decide +kernel)
theorem pn70:Pr 174197:=pock _ [(107,0,2)] 21 (pfc pn69 pfn) (by decide +kernel)
theorem pn71:Pr 205122193411:=pock _ [(174197,0,2)] 132347 (pfc pn70 pfn) (by decide +kernel)
theorem pn72:Pr 4161929304309191:=pock _ [(205122193411,0,2)] 0 (pfc pn71 pfn) (by decide +kernel)
theorem pn73:Pr 56834084706324953499635029374333218339957513609:=pock _ [(4161929304309191,0,2)] 602797388718423 (pfc pn72 pfn) (by decide +kernel)
theorem pn74:Pr 23341373081361435103090946041083073851794115571864009670215941767494551877:=pock _ [(56834084706324953499635029374333218339957513609,0,2)] 0 (pfc pn73 pfn) (by decide +kernel)
theorem pn75:Pr 299589410500344960818634453344053290288849906371853185689121682914766027672438458623:=pock _ [(23341373081361435103090946041083073851794115571864009670215941767494551877,0,2)] 0 (pfc pn74 pfn) (by decide +kernel)
theorem pn76:Pr 1763593322239166354161909842446019520889512772717686063760686124016784784845843468355685258203921:=pock _ [(299589410500344960818634453344053290288849906371853185689121682914766027672438458623,0,2)] 0 (pfc pn75 pfn) (by decide +kernel)
theorem pn77:Pr 179:=small_pr (k:=12) (by decide +kernel)
theorem pn78:Pr 2083:=small_pr (k:=44) (by decide +kernel)
theorem pn79:Pr 2520431:=pock _ [(2083,0,2)] 0 (pfc pn78 pfn) (by decide +kernel)
theorem pn80:Pr 49393939847159:=pock _ [(2520431,0,2)] 1954400 (pfc pn79 pfn) (by decide +kernel)
theorem pn81:Pr 2788900573532341797131599550190476443808598899:=pock _ [(179,0,2),(49393939847159,0,2)] 3118454319183447 (pfc pn77 (pfc pn80 pfn)) (by decide +kernel)
theorem pn82:Pr 669909697361913545660898382546007419518544524592370543:=pock _ [(2788900573532341797131599550190476443808598899,0,2)] 0 (pfc pn81 pfn) (by decide +kernel)
theorem pn83:Pr 90050068090664042551646936303486902724615855323314057604193773:=pock _ [(669909697361913545660898382546007419518544524592370543,0,2)] 0 (pfc pn82 pfn) (by decide +kernel)
theorem pn84:Pr 21659270770119316173069236842332604979796116387017648600075645274821611501358515537962695117368903252229601718723941:=pock _ [(90050068090664042551646936303486902724615855323314057604193773,0,2)] 0 (pfc pn83 pfn) (by decide +kernel)
theorem pn85:Pr 2729:=small_pr (k:=51) (by decide +kernel)
theorem pn86:Pr 290442013:=pock _ [(2729,0,2)] 2725 (pfc pn85 pfn) (by decide +kernel)
theorem pn87:Pr 2269518422590621710010337:=pock _ [(290442013,0,2)] 285217509 (pfc pn86 pfn) (by decide +kernel)
theorem pn88:Pr 4982806528470961888578867896009647265488138691022009860168845631273:=pock _ [(2269518422590621710010337,0,2)] 332757783666154036913600 (pfc pn87 pfn) (by decide +kernel)
theorem pn89:Pr 23337925407708917343269873493319607638879341485914224746228038546474382183428298476287118961279:=pock _ [(4982806528470961888578867896009647265488138691022009860168845631273,0,2)] 0 (pfc pn88 pfn) (by decide +kernel)
theorem pn90:Pr 8948962207650232551656602815159153422162609644098354511344597187200057010413418528378981730643524959857451398370029280583094215613882043973354392115544169:=pock _ [(23337925407708917343269873493319607638879341485914224746228038546474382183428298476287118961279,0,2)] 0 (pfc pn89 pfn) (by decide +kernel)
theorem pn91:Pr 223:=small_pr (k:=13) (by decide +kernel)
theorem pn92:Pr 211:=small_pr (k:=13) (by decide +kernel)
theorem pn93:Pr 229:=small_pr (k:=14) (by decide +kernel)
end Go.Proofs.YtkoonhiplicbkaaGreat.Cw
namespace Go.Proofs.YtkoonhiplicbkaaGreat.Cw
def rtc:Nat→C3
 | 1=>⟨3076984081099336410538445874700673783096882824010410041625,4871298686935519674170250204910228760438566091784467946767,105597762148406811168096478311383789005400348177979944870⟩
 | 2=>⟨1261710631285627074303005901530361786216288604486499842249704943048,4447412785031720342771701563499662000791675740805516550464163634437,9439789507511725786058244597052783711805086828869674293526675889612⟩
 | 3=>⟨76626890310466861426869089647039036757962535851890885406097439786770458211455,74462945259064871768191128030512052509059297803194871526163573358218695456204,34768139465301476436978405170953382516735956999154666452188405812258086013549⟩
 | 4=>⟨23037766613497683937702734290281044719364893268180251583910224888989381657771069200037813904257325918671976092329602,8235438212423615602427778915669574859600037698862346933589434399495169446996583974901273360826717582835190849638831,12157362177932134139146813183752135342286725243554133716818896354380897714709611791313184492360272402950851405460538⟩
 | 5=>⟨5556850081864827842302249485475501585472702946772625307642304195702912034363837867267334216347521692509406916620096684956176894315447091116492501000392161958,2592645775458497527836362227091103884154287512470494672274301275565663408730650270660448980645397363205839490313252565391972848223674401530161387302727484004,3919380404691066388712376322317341026252002696138380915147944189379687824774581460974855590730258562532022938584569429027963361353339635641909491533809725330⟩
 | 6=>⟨0,0,46758632835564736012269203954919337884311706168562511263687580192619680188360⟩
 | 7=>⟨351750380667266526775263869464366639180417248434,452762556115001297277164478576350244468511252619,866276026852477386583739955587856805174089846777⟩
 | 8=>⟨21213892938015945545597082772589297824092146818263170675852146397638,2334923022141376185092217891892732897499336396810527250141559708482,6959669552391944620225386365448164800752207546902971350913933966495⟩
 | 9=>⟨5347744486777530706669047377084680431416082047222058099865314757079289018413,36567706687211352878623830248023275230139348886519930341788893933933071887964,57300115342307814829368171194017451425362166738975514114819334576929185469628⟩
 | 10=>⟨122870849904181773089670971022562028177776873262791750757648614230269868632418475396154339683393,723011386214059723890258847105443730712169077323097966906237591005955893472217848824699974159717,591398295572457992264474255279168440779894522159829821427394627523920432340975599627340802408935⟩
 | 11=>⟨18045346159989301294719205289786962596468003789292587159741834949006371209014629163014746348076599162029150578683262,1976113098210081074617925902571799281931794102930411075466637102904693541261693854282593756972459711385728480861278,4643256948357306801182104578797069499791313285794868896678261438458615860465573791712519540292328347437871877550575⟩
 | 12=>⟨1803314254406975735450288165685996255159518649509801042516748854645051387409671406770237299640480790704019033082794117735071555073817603589011800439246700,5423510712171489546644718125848465800445423157029586731376840833885116518002476487579816819625716701205282987784671943974892074197635932083426899437475869,1980640283309979095730852824049519563548238190526698414050554203846063330593484879663419473345296546803597274808794758955751942903882298593095810355797106⟩
 | 13=>⟨224,220,119⟩
 | 14=>⟨0,0,12⟩
 | 15=>⟨195,117,6⟩
 | _=>⟨0,0,0⟩
theorem pr_p:∀ k,1≤k→k≤15→Pr (cv k).p
 | 1,_,_=>pp5
 | 2,_,_=>pp7
 | 3,_,_=>pp14
 | 4,_,_=>pp25
 | 5,_,_=>pp43
 | 6,_,_=>pp50
 | 7,_,_=>pp54
 | 8,_,_=>pp61
 | 9,_,_=>pp66
 | 10,_,_=>pp74
 | 11,_,_=>pp80
 | 12,_,_=>pp91
 | 13,_,_=>pp92
 | 14,_,_=>pp93
 | 15,_,_=>pp94
 | 0,h,_=>absurd h (by omega)
 | _+16,_,h=>absurd h (by omega)
noncomputable def numB (k:Nat):Bool:=
 (fun (c:Cv) (s:Nat)=>and (rootB c.p c.a c.b (rtc k)) (and (chkA c.p c.a c.b (3*c.b%c.p) c.gx c.gy (20*s) (240*s)) (and (and (Nat.blt c.a c.p) (Nat.blt c.b c.p)) (and (and (Nat.blt c.gx c.p) (Nat.blt c.gy c.p)) (Nat.beq (c.gy*c.gy%c.p) ((c.gx*c.gx*c.gx+c.a*c.gx+c.b)%c.p)))))) (cv k) (Nat.log2 (cv k).p+1)
theorem num_all:(List.range 15).all (fun i=>numB (i+1))=true:=by decide +kernel
theorem num_k {k:Nat} (h1:1≤k) (h2:k≤15):numB k=true:=by
 have:=List.all_eq_true.1 num_all (k - 1) (List.mem_range.2 (by omega))
 rwa [show k - 1+1=k by omega] at this
end Go.Proofs.YtkoonhiplicbkaaGreat.Cw
namespace Go.Proofs.YtkoonhiplicbkaaGreat.Cw
open Go Go.RowKit
abbrev CK:={k:Nat // 1≤k∧k≤15}
def CK.c (k:CK):Cv:=cv k.1
theorem CK.num (k:CK):rootB k.c.p k.c.a k.c.b (rtc k.1)=true∧chkA k.c.p k.c.a k.c.b (3*k.c.b%k.c.p) k.c.gx k.c.gy (20*(Nat.log2 k.c.p+1)) (240*(Nat.log2 k.c.p+1))=true∧k.c.a<k.c.p∧k.c.b<k.c.p∧k.c.gx<k.c.p∧k.c.gy<k.c.p∧k.c.gy*k.c.gy%k.c.p=(k.c.gx*k.c.gx*k.c.gx+k.c.a*k.c.gx+k.c.b)%k.c.p:=by
 have h:=num_k k.2.1 k.2.2
 unfold numB at h
 simp only [Bool.and_eq_true,Nat.blt_eq] at h
 obtain ⟨h1,h2,⟨h3,h4⟩,⟨h5,h6⟩,h7⟩:=h
 exact ⟨h1,h2,h3,h4,h5,h6,Nat.eq_of_beq_eq_true h7⟩
theorem CK.pr (k:CK):Pr k.c.p:=pr_p k.1 k.2.1 k.2.2
theorem CK.p1 (k:CK):1<k.c.p:=k.pr.1
theorem CK.p0 (k:CK):k.c.p≠0:=by have:=k.p1; omega
instance (k:CK):NeZero k.c.p:=⟨k.p0⟩
theorem CK.ok (k:CK):k.c.Ok:=(tab_open k.2.1 k.2.2).2.2.2.2.2.1
section
variable (k:CK)
def cf (n:Nat):Fin k.c.p:=Fin.ofNat k.c.p n
def gA1:Fin k.c.p:=cf k k.c.a
def gB1:Fin k.c.p:=cf k k.c.b
def gB3:Fin k.c.p:=cf k k.c.b3
def gG:Pn k.c.p:=some (cf k k.c.gx,cf k k.c.gy)
theorem b3_eq:k.c.b3=3*k.c.b%k.c.p:=by
 unfold Cv.b3 fad
 rw [Nat.mod_add_mod]
 congr 1
 omega
theorem cf_b3:gB3 k=3*gB1 k:=by
 unfold gB3 gB1 cf
 rw [b3_eq,of_mod,of_mul]; rfl
theorem ck_ok:CuOk (gA1 k) (gB1 k) (gB3 k):=by
 obtain ⟨h1,h2,h3,h4,h5,h6,h7⟩:=k.num
 obtain ⟨t,r⟩:=no_root_of k.pr (Nat.le_of_lt h3) (Nat.le_of_lt h4) h1
 exact ⟨k.pr,t,cf_b3 k,r⟩
theorem gG_on:OnV (gA1 k) (gB1 k) (gG k):=by
 obtain ⟨h1,h2,h3,h4,h5,h6,h7⟩:=k.num
 show cf k k.c.gy*cf k k.c.gy=cf k k.c.gx*cf k k.c.gx*cf k k.c.gx+cf k k.c.a*cf k k.c.gx+cf k k.c.b
 unfold cf
 rw [← of_mul,← of_mul,← of_mul,← of_mul,← of_add,← of_add,← of_mod (k.c.gy*k.c.gy),h7,of_mod]
theorem ck_ass:AssG (gA1 k) (gB1 k) (gB3 k) (gG k):=by
 obtain ⟨h1,h2,h3,h4,h5,h6,h7⟩:=k.num
 refine ⟨gG_on k,fun P Q hP hQ=>?_⟩
 rw [← b3_eq] at h2
 exact opl_ass h2 (Nat.le_of_lt h3) (Nat.le_of_lt (b3_lt k.ok)) (ck_ok k) (gG_on k) hP hQ
noncomputable def gm (n:Nat):Pn k.c.p:=mulG (gA1 k) (gB3 k) (gG k) n
noncomputable def gop (P Q:Pn k.c.p):Pn k.c.p:=opl (gA1 k) (gB3 k) P Q
theorem gm_on (n:Nat):OnV (gA1 k) (gB1 k) (gm k n):=mulG_on (ck_ok k) (gG_on k) n
theorem gm_add (m n:Nat):gop k (gm k m) (gm k n)=gm k (m+n):=mulG_add (ck_ok k) (ck_ass k) m n
theorem gm_one:gm k 1=gG k:=mulG_one (ck_ok k) (gG_on k)
def pX:Pn k.c.p→Nat
 | none=>0
 | some (x,_)=>x.val
def pY:Pn k.c.p→Nat
 | none=>0
 | some (_,y)=>y.val
def pI:Pn k.c.p→Bool
 | none=>true
 | some _=>false
theorem pX_lt (P:Pn k.c.p):pX k P<k.c.p:=by
 rcases P with _ | ⟨x,y⟩
 ·exact Nat.pos_of_ne_zero k.p0
 ·exact x.isLt
theorem pY_lt (P:Pn k.c.p):pY k P<k.c.p:=by
 rcases P with _ | ⟨x,y⟩
 ·exact Nat.pos_of_ne_zero k.p0
 ·exact y.isLt
theorem p_inj (P Q:Pn k.c.p) (h1:pX k P=pX k Q) (h2:pY k P=pY k Q) (h3:pI k P=pI k Q):P=Q:=by
 rcases P with _ | ⟨x,y⟩ <;> rcases Q with _ | ⟨x',y'⟩
 ·rfl
 ·cases h3
 ·cases h3
 ·have e1:x=x':=Fin.ext h1
  have e2:y=y':=Fin.ext h2
  rw [e1,e2]
theorem cf_val (x:Fin k.c.p):cf k x.val=x:=Fin.ext (by simp [cf,Nat.mod_eq_of_lt x.isLt])
theorem val_cf {n:Nat} (h:n<k.c.p):(cf k n).val=n:=by simp [cf,Nat.mod_eq_of_lt h]
def toT (t:Tri):T3 k.c.p:=⟨cf k t.x,cf k t.y,cf k t.z⟩
theorem cf_fad (a b:Nat):cf k (fad k.c.p a b)=cf k a+cf k b:=by unfold cf fad; rw [of_mod,of_add]
theorem cf_fml (a b:Nat):cf k (fml k.c.p a b)=cf k a*cf k b:=by unfold cf fml; rw [of_mod,of_mul]
theorem cf_fsb (a b:Nat) (h:b<k.c.p):cf k (fsb k.c.p a b)=cf k a - cf k b:=by
 unfold cf fsb
 rw [of_mod,show a+k.c.p - b=a+(k.c.p - b) by omega,of_add,of_neg (Nat.le_of_lt h)]
 grind -lia -linarith -order (splits:=0) (ematch:=0)
theorem toT_sum {s q:Tri} (hs:s.In k.c.p) (hq:q.In k.c.p):toT k (k.c.sum s q)=sumT (gA1 k) (gB3 k) (toT k s) (toT k q):=by
 have hp:=k.p0
 have a1:=fun a b=>fad_lt a b hp
 have a3:=fun a b=>fml_lt a b hp
 refine T3.ext' ?_ ?_ ?_ <;> simp only [toT,Cv.sum,sum3,sumT,cf_fad,cf_fml,cf_fsb k _ _ (a1 _ _),cf_fsb k _ _ (a3 _ _),gA1,gB3]
def Rp (t:Tri) (n:Nat):Prop:=t.In k.c.p∧Rep (toT k t) (gm k n)
theorem cf1:cf k 1=1:=rfl
theorem rp_none:Rp k ⟨0,1,0⟩ 0:=⟨one_lt_of k.ok k.p1,rep_trip k.pr none⟩
theorem rp_sum {s q:Tri} {m n:Nat} (hs:Rp k s m) (hq:Rp k q n):Rp k (k.c.sum s q) (m+n):=by
 refine ⟨sum_in k.ok s q,?_⟩
 rw [toT_sum k hs.1 hq.1,← gm_add]
 exact sum_rep (ck_ok k) (gm_on k m) (gm_on k n) hs.2 hq.2
def trN (P:Pn k.c.p):Tri:=match P with
 | none=>⟨0,1,0⟩
 | some (x,y)=>⟨x.val,y.val,1⟩
theorem rp_trip (n:Nat):Rp k (trN k (gm k n)) n:=by
 have key:∀ P:Pn k.c.p,(trN k P).In k.c.p∧Rep (toT k (trN k P)) P:=fun P=>by
  rcases P with _ | ⟨x,y⟩
  ·exact ⟨one_lt_of k.ok k.p1,rep_trip k.pr none⟩
  ·refine ⟨⟨x.isLt,y.isLt,k.p1⟩,?_⟩
   have e:toT k (trN k (some (x,y)))=trip (some (x,y)):=by
    refine T3.ext' (cf_val k x) (cf_val k y) (cf1 k)
   rw [e]; exact rep_trip k.pr _
 exact key _
theorem rp_times_go {q:Tri} {m n:Nat} (hq:Rp k q m):∀ (j:Nat) (o:Tri) (i:Nat),Rp k o (i*m)→i=n / 2 ^ j→Rp k (tmsR k.c.sum q n j o) (n*m)
 | 0,o,i,ho,hi=>by
  rw [Nat.pow_zero,Nat.div_one] at hi
  subst hi
  exact ho
 | j+1,o,i,ho,hi=>by
  have hdiv:n / 2 ^ j=2*i+bitN n j:=by
   rw [hi,bitN,Nat.pow_succ,← Nat.div_div_eq_div_mul]
   have:=Nat.div_add_mod (n / 2 ^ j) 2
   omega
  have hb:bitN n j=0∨bitN n j=1:=by have:=Nat.mod_lt (n / 2 ^ j) (show 0<2 by decide); unfold bitN; omega
  rcases hb with hb | hb
  ·rw [tmsR_0 _ _ _ _ _ hb]
   refine rp_times_go hq j _ (2*i) ?_ (by omega)
   have:=rp_sum k ho ho
   rwa [show i*m+i*m=2*i*m by rw [Nat.mul_assoc]; omega] at this
  ·rw [tmsR_1 _ _ _ _ _ hb]
   refine rp_times_go hq j _ (2*i+1) ?_ (by omega)
   have:=rp_sum k (rp_sum k ho ho) hq
   rwa [show i*m+i*m+m=(2*i+1)*m by rw [Nat.add_mul,Nat.mul_assoc]; omega] at this
theorem rp_times {q:Tri} {m:Nat} (n:Nat) (hq:Rp k q m):Rp k (k.c.times n q) (n*m):=by
 refine rp_times_go k hq (bl n) ⟨0,1,0⟩ 0 (by rw [Nat.zero_mul]; exact rp_none k) ?_
 rw [Nat.div_eq_of_lt (bl_lt n)]
theorem rp_inf {t:Tri} {n:Nat} (h:Rp k t n):t.z=0→gm k n=none:=fun hz=>by
 have h2:=h.2
 rcases hg:gm k n with _ | ⟨x,y⟩
 ·rfl
 ·rw [hg] at h2
  exact absurd (by show cf k t.z=0; rw [hz]; rfl) h2.1
theorem rp_fin {t:Tri} {n:Nat} (h:Rp k t n) (hz:t.z≠0):∃ u,u<k.c.p∧u*t.z%k.c.p=1∧fml k.c.p t.x u=pX k (gm k n)∧fml k.c.p t.y u=pY k (gm k n)∧pI k (gm k n)=false:=by
 obtain ⟨⟨hx,hy,hzp⟩,h2⟩:=h
 obtain ⟨u,hu,e⟩:=inv_nat k.pr (show t.z%k.c.p≠0 by rw [Nat.mod_eq_of_lt hzp]; exact hz)
 refine ⟨u,hu,e,?_⟩
 have e1:cf k u*cf k t.z=1:=by
  rw [← cf_fml,← cf1]; unfold fml; rw [e]
 have hzf:cf k t.z≠0:=fun h0=>hz (by have:=congrArg Fin.val h0; rwa [val_cf k hzp] at this)
 rcases hg:gm k n with _ | ⟨x,y⟩
 ·rw [hg] at h2
  exact absurd h2.2.1 hzf
 ·rw [hg] at h2
  have g1:cf k t.x=x*cf k t.z:=h2.2.1
  have g2:cf k t.y=y*cf k t.z:=h2.2.2
  have key:∀ a:Nat,∀ v:Fin k.c.p,cf k a=v*cf k t.z→fml k.c.p a u=v.val:=fun a v hv=>by
   have e2:cf k (fml k.c.p a u)=v:=by
    rw [cf_fml,hv]
    have:v*cf k t.z*cf k u=v*(cf k u*cf k t.z):=by clear hx hy hzp h2 hz e e1 hzf hg g1 g2 hv; grind -lia -linarith -order (splits:=0) (ematch:=0)
    rw [this,e1]
    clear this
    grind -lia -linarith -order (splits:=0) (ematch:=0)
   rw [← e2,val_cf k (fml_lt _ _ k.p0)]
  exact ⟨key _ _ g1,key _ _ g2,rfl⟩
noncomputable def gpt (n:Nat):Array Value:=ptc (pX k (gm k n)) (pY k (gm k n)) (pI k (gm k n))
theorem plain_rp {t:Tri} {n:Nat} (c f d:Nat) (w:World) (h:Rp k t n) (H:CurveAt w c f d k.c):Calls Tryz.prog 57 #[.pointer (some ⟨c,0,none⟩),.agg (pc t.x t.y t.z)] w fun e w'=>e=.returned (.agg (gpt k n))∧Below w.heap.size w w':=by
 by_cases hz:t.z=0
 ·have e:=rp_inf k h hz
  unfold gpt
  rw [e,hz]
  exact curve_plain_inf c f d t.x t.y k.c w
 ·obtain ⟨u,hu,e,e1,e2,e3⟩:=rp_fin k h hz
  unfold gpt
  rw [← e1,← e2,e3]
  exact curve_plain c f d t.x t.y t.z u k.c w h.1.1 h.1.2.1 h.1.2.2 hz hu e H
theorem triple_rp (n:Nat) (w:World):Calls Tryz.prog 59 #[.agg (gpt k n)] w fun e w'=>e=.returned (.agg (tc (trN k (gm k n))))∧Below w.heap.size w w':=by
 unfold gpt
 rcases gm k n with _ | ⟨x,y⟩
 ·exact curve_triple_true 0 0 w
 ·exact curve_triple_false x.val y.val w
theorem gm_onC (n:Nat):OnC k.c (pX k (gm k n)) (pY k (gm k n)) (pI k (gm k n)):=by
 have h:=gm_on k n
 rcases hg:gm k n with _ | ⟨x,y⟩
 ·exact .inl ⟨rfl,rfl,rfl⟩
 ·rw [hg] at h
  refine .inr ⟨rfl,x.isLt,y.isLt,?_⟩
  have h1:y*y=x*x*x+gA1 k*x+gB1 k:=h
  have e1:cf k (fml k.c.p y.val y.val)=y*y:=by rw [cf_fml,cf_val]
  have e2:cf k (rgt k.c x.val)=x*x*x+gA1 k*x+gB1 k:=by
   unfold rgt
   simp only [cf_fad,cf_fml,cf_val,gA1,gB1]
   clear h h1 hg e1
   grind -lia -linarith -order (splits:=0) (ematch:=0)
  have e3:=congrArg Fin.val (e1.trans (h1.trans e2.symm))
  rwa [val_cf k (fml_lt _ _ k.p0),val_cf k (rgt_lt _ k.ok)] at e3
theorem on_rp (n:Nat) (c f d:Nat) (w:World) (H:CurveAt w c f d k.c):Calls Tryz.prog 49 #[.pointer (some ⟨c,0,none⟩),.agg (gpt k n)] w fun e w'=>e=.returned (.bool true)∧Below w.heap.size w w':=
 curve_on c f d _ _ _ k.c w (gm_onC k n) H
theorem sum_rp {s q:Tri} {m n:Nat} (c f d:Nat) (w:World) (hs:Rp k s m) (hq:Rp k q n) (H:CurveAt w c f d k.c):Calls Tryz.prog 97 #[.pointer (some ⟨c,0,none⟩),.agg (pc s.x s.y s.z),.agg (pc q.x q.y q.z)] w fun e w'=>e=.returned (.agg (tc (k.c.sum s q)))∧Below w.heap.size w w':=
 curve_sum c f d s.x s.y s.z q.x q.y q.z k.c w hs.1 hq.1 H
end
end Go.Proofs.YtkoonhiplicbkaaGreat.Cw
