/- Closed calls that the codes' makers make, known: tables, each entry run by the kernel. -/
import Derived.Test.YtcocakiincejaaaGreatE1
namespace Go.Proofs.YtcocakiincejaaaGreat
open Go Go.Vam

def tac114 : List (List Value × Value) := [
  ([.int .i64 (0)], .float .f64 4607182418800017408),
  ([.int .i64 (1)], .float .f64 4607182418800017408),
  ([.int .i64 (2)], .float .f64 4611686018427387904),
  ([.int .i64 (3)], .float .f64 4618441417868443648),
  ([.int .i64 (4)], .float .f64 4627448617123184640),
  ([.int .i64 (5)], .float .f64 4638144666238189568),
  ([.int .i64 (6)], .float .f64 4649544402794971136),
  ([.int .i64 (7)], .float .f64 4662263553305083904),
  ([.int .i64 (8)], .float .f64 4675774352187195392),
  ([.int .i64 (9)], .float .f64 4689977843394805760),
  ([.int .i64 (10)], .float .f64 4705047200009289728),
  ([.int .i64 (11)], .float .f64 4720626352061939712),
  ([.int .i64 (12)], .float .f64 4736815922046566400),
  ([.int .i64 (13)], .float .f64 4753323511810883584),
  ([.int .i64 (14)], .float .f64 4770521722250067968),
  ([.int .i64 (15)], .float .f64 4788179038478794752),
  ([.int .i64 (16)], .float .f64 4806193436988276736),
  ([.int .i64 (17)], .float .f64 4824542600135966720)]
theorem tac114_ok : allOk (ev 114) tac114 = true := by kernel_rfl
def tac113 : List (List Value × Value) := [
  ([.int .i64 (0), .float .f64 4607182418800017408], .float .f64 4607182418800017408),
  ([.int .i64 (1), .float .f64 4618441417868443648], .float .f64 13818544856648471893),
  ([.int .i64 (2), .float .f64 4638144666238189568], .float .f64 4575957461383581969),
  ([.int .i64 (3), .float .f64 4662263553305083904], .float .f64 13774824197408792602),
  ([.int .i64 (4), .float .f64 4689977843394805760], .float .f64 4523617214285662004),
  ([.int .i64 (5), .float .f64 4720626352061939712], .float .f64 13716528800881525988),
  ([.int .i64 (6), .float .f64 4753323511810883584], .float .f64 4460272573143870729),
  ([.int .i64 (7), .float .f64 4788179038478794752], .float .f64 13648976655441704991),
  ([.int .i64 (8), .float .f64 4824542600135966720], .float .f64 4389130328383466826),
  ([.int .i64 (0), .float .f64 4607182418800017408], .float .f64 4607182418800017408),
  ([.int .i64 (1), .float .f64 4611686018427387904], .float .f64 13826050856027422720),
  ([.int .i64 (2), .float .f64 4627448617123184640], .float .f64 4586165620538955093),
  ([.int .i64 (3), .float .f64 4649544402794971136], .float .f64 13787419979223755799),
  ([.int .i64 (4), .float .f64 4675774352187195392], .float .f64 4537941361671905306),
  ([.int .i64 (5), .float .f64 4705047200009289728], .float .f64 13732177094651715420),
  ([.int .i64 (6), .float .f64 4736815922046566400], .float .f64 4477122120089393304),
  ([.int .i64 (7), .float .f64 4770521722250067968], .float .f64 13666517717442657437),
  ([.int .i64 (8), .float .f64 4806193436988276736], .float .f64 4407590220077447199)]
theorem tac113_ok : allOk (ev 113) tac113 = true := by kernel_rfl
def tac73 : List (List Value × Value) := [
  ([.float .f64 0], .complex .f64 4607182418800017408 0),
  ([.float .f64 4589168020290535424], .complex .f64 4606496786581982534 4600565431771507043),
  ([.float .f64 4593671619917905920], .complex .f64 4604544271217802189 4604544271217802189)]
theorem tac73_ok : allOk (ev 73) tac73 = true := by kernel_rfl

/-- The calls that are known. -/
def orcU (f : FuncId) (args : List Value) : Option Value :=
  bif Nat.beq f 114 then findT tac114 args else
  bif Nat.beq f 113 then findT tac113 args else
  bif Nat.beq f 73 then findT tac73 args else
  none
def orcC : CallF (Tri ABlk) := fun f args s => match orcU f args with | some v => some (v, s) | none => none

theorem orcU_spec {f : FuncId} {x : List Value} {v : Value} (h : orcU f x = some v) : Known f x v := by
  unfold orcU at h
  rcases tab_step ev_cf _ _ _ tac114_ok h with h | h
  · exact h
  rcases tab_step ev_cf _ _ _ tac113_ok h with h | h
  · exact h
  rcases tab_step ev_cf _ _ _ tac73_ok h with h | h
  · exact h
  cases h

theorem orcC_ok : OrcOk Tryz.prog orcC := orcOf_ok fun _ _ _ h => orcU_spec h

noncomputable abbrev cfC : CallF (Tri ABlk) := evXK orcC (fnsOf Tryz.prog) 100000
theorem cfC_ok : CfOk Tryz.prog cfC := by
  have h := evX_sound (F := TF) ext mixed (fnsOf_ok Tryz.prog) orcC_ok 100000
  rw [← evXK_eq] at h
  exact h

def tur0 : List (List Value × Value) := [
  ([.float .f64 13824924956120580096], .agg #[.float .f64 13829868823436758342, .float .f64 13823937468626282851]),
  ([.float .f64 13823799056213737472], .agg #[.float .f64 13827916308072577997, .float .f64 13827916308072577997]),
  ([.float .f64 13822673156306894848], .agg #[.float .f64 13823937468626282851, .float .f64 13829868823436758342]),
  ([.float .f64 13821547256400052224], .agg #[.float .f64 0, .float .f64 13830554455654793216]),
  ([.float .f64 13819295456586366976], .agg #[.float .f64 4600565431771507043, .float .f64 13829868823436758342]),
  ([.float .f64 13817043656772681728], .agg #[.float .f64 4604544271217802189, .float .f64 13827916308072577997]),
  ([.float .f64 13812540057145311232], .agg #[.float .f64 4606496786581982534, .float .f64 13823937468626282851]),
  ([.float .f64 0], .agg #[.float .f64 4607182418800017408, .float .f64 0]),
  ([.float .f64 4589168020290535424], .agg #[.float .f64 4606496786581982534, .float .f64 4600565431771507043]),
  ([.float .f64 4593671619917905920], .agg #[.float .f64 4604544271217802189, .float .f64 4604544271217802189]),
  ([.float .f64 4595923419731591168], .agg #[.float .f64 4600565431771507043, .float .f64 4606496786581982534]),
  ([.float .f64 4598175219545276416], .agg #[.float .f64 0, .float .f64 4607182418800017408]),
  ([.float .f64 4599301119452119040], .agg #[.float .f64 13823937468626282851, .float .f64 4606496786581982534])]
theorem tur0_ok : allOk (fun x => cfC 44 x none2) tur0 = true := by kernel_rfl
def tur1 : List (List Value × Value) := [
  ([.float .f64 4600427019358961664], .agg #[.float .f64 13827916308072577997, .float .f64 4604544271217802189]),
  ([.float .f64 4601552919265804288], .agg #[.float .f64 13829868823436758342, .float .f64 4600565431771507043]),
  ([.float .f64 4602678819172646912], .agg #[.float .f64 13830554455654793216, .float .f64 0]),
  ([.float .f64 4607745368753438720], .agg #[.float .f64 4604544271217802189, .float .f64 4604544271217802189]),
  ([.float .f64 4611686018427387904], .agg #[.float .f64 4607182418800017408, .float .f64 0]),
  ([.float .f64 4614219293217783808], .agg #[.float .f64 4604544271217802189, .float .f64 4604544271217802189]),
  ([.float .f64 4616752568008179712], .agg #[.float .f64 13830554455654793216, .float .f64 0]),
  ([.float .f64 4618582155356798976], .agg #[.float .f64 4604544271217802189, .float .f64 4604544271217802189]),
  ([.float .f64 4620693217682128896], .agg #[.float .f64 4607182418800017408, .float .f64 0]),
  ([.float .f64 4621889486333149184], .agg #[.float .f64 4604544271217802189, .float .f64 4604544271217802189]),
  ([.float .f64 4623226492472524800], .agg #[.float .f64 13830554455654793216, .float .f64 0]),
  ([.float .f64 4624704236100255744], .agg #[.float .f64 4604544271217802189, .float .f64 4604544271217802189]),
  ([.float .f64 4625759767262920704], .agg #[.float .f64 4607182418800017408, .float .f64 0])]
theorem tur1_ok : allOk (fun x => cfC 44 x none2) tur1 = true := by kernel_rfl
def tur2 : List (List Value × Value) := [
  ([.float .f64 4626639376565141504], .agg #[.float .f64 4604544271217802189, .float .f64 4604544271217802189]),
  ([.float .f64 4627589354611539968], .agg #[.float .f64 13830554455654793216, .float .f64 0]),
  ([.float .f64 4628609701402116096], .agg #[.float .f64 4604544271217802189, .float .f64 4604544271217802189]),
  ([.float .f64 4629700416936869888], .agg #[.float .f64 4607182418800017408, .float .f64 0]),
  ([.float .f64 4630280959076335616], .agg #[.float .f64 4604544271217802189, .float .f64 4604544271217802189]),
  ([.float .f64 4630896685587890176], .agg #[.float .f64 13830554455654793216, .float .f64 0]),
  ([.float .f64 4631547596471533568], .agg #[.float .f64 4604544271217802189, .float .f64 4604544271217802189]),
  ([.float .f64 4632233691727265792], .agg #[.float .f64 4607182418800017408, .float .f64 0]),
  ([.float .f64 4632954971355086848], .agg #[.float .f64 4604544271217802189, .float .f64 4604544271217802189]),
  ([.float .f64 4633711435354996736], .agg #[.float .f64 13830554455654793216, .float .f64 0]),
  ([.float .f64 4634353550145617920], .agg #[.float .f64 4604544271217802189, .float .f64 4604544271217802189]),
  ([.float .f64 4634766966517661696], .agg #[.float .f64 4607182418800017408, .float .f64 0]),
  ([.float .f64 4635197975075749888], .agg #[.float .f64 4604544271217802189, .float .f64 4604544271217802189])]
theorem tur2_ok : allOk (fun x => cfC 44 x none2) tur2 = true := by kernel_rfl
def tur3 : List (List Value × Value) := [
  ([.float .f64 4635646575819882496], .agg #[.float .f64 13830554455654793216, .float .f64 0]),
  ([.float .f64 4636112768750059520], .agg #[.float .f64 4604544271217802189, .float .f64 4604544271217802189]),
  ([.float .f64 4636596553866280960], .agg #[.float .f64 4607182418800017408, .float .f64 0]),
  ([.float .f64 4637097931168546816], .agg #[.float .f64 4604544271217802189, .float .f64 4604544271217802189]),
  ([.float .f64 4637616900656857088], .agg #[.float .f64 13830554455654793216, .float .f64 0]),
  ([.float .f64 4638153462331211776], .agg #[.float .f64 4604544271217802189, .float .f64 4604544271217802189]),
  ([.float .f64 4638707616191610880], .agg #[.float .f64 4607182418800017408, .float .f64 0]),
  ([.float .f64 4638993489214832640], .agg #[.float .f64 4604544271217802189, .float .f64 4604544271217802189]),
  ([.float .f64 4639288158331076608], .agg #[.float .f64 13830554455654793216, .float .f64 0]),
  ([.float .f64 4639591623540342784], .agg #[.float .f64 4604544271217802189, .float .f64 4604544271217802189]),
  ([.float .f64 4639903884842631168], .agg #[.float .f64 4607182418800017408, .float .f64 0]),
  ([.float .f64 4640224942237941760], .agg #[.float .f64 4604544271217802189, .float .f64 4604544271217802189]),
  ([.float .f64 4640554795726274560], .agg #[.float .f64 13830554455654793216, .float .f64 0])]
theorem tur3_ok : allOk (fun x => cfC 44 x none2) tur3 = true := by kernel_rfl
def tur4 : List (List Value × Value) := [
  ([.float .f64 4640893445307629568], .agg #[.float .f64 4604544271217802189, .float .f64 4604544271217802189]),
  ([.float .f64 4641240890982006784], .agg #[.float .f64 4607182418800017408, .float .f64 0]),
  ([.float .f64 4641597132749406208], .agg #[.float .f64 4604544271217802189, .float .f64 4604544271217802189]),
  ([.float .f64 4641962170609827840], .agg #[.float .f64 13830554455654793216, .float .f64 0]),
  ([.float .f64 4642336004563271680], .agg #[.float .f64 4604544271217802189, .float .f64 4604544271217802189]),
  ([.float .f64 4642718634609737728], .agg #[.float .f64 4607182418800017408, .float .f64 0]),
  ([.float .f64 4643110060749225984], .agg #[.float .f64 4604544271217802189, .float .f64 4604544271217802189]),
  ([.float .f64 4643360749400358912], .agg #[.float .f64 13830554455654793216, .float .f64 0]),
  ([.float .f64 4643565258563125248], .agg #[.float .f64 4604544271217802189, .float .f64 4604544271217802189]),
  ([.float .f64 4643774165772402688], .agg #[.float .f64 4607182418800017408, .float .f64 0]),
  ([.float .f64 4643987471028191232], .agg #[.float .f64 4604544271217802189, .float .f64 4604544271217802189]),
  ([.float .f64 4644205174330490880], .agg #[.float .f64 13830554455654793216, .float .f64 0]),
  ([.float .f64 4644427275679301632], .agg #[.float .f64 4604544271217802189, .float .f64 4604544271217802189])]
theorem tur4_ok : allOk (fun x => cfC 44 x none2) tur4 = true := by kernel_rfl
def tur5 : List (List Value × Value) := [
  ([.float .f64 4644653775074623488], .agg #[.float .f64 4607182418800017408, .float .f64 0]),
  ([.float .f64 4644884672516456448], .agg #[.float .f64 4604544271217802189, .float .f64 4604544271217802189]),
  ([.float .f64 4645119968004800512], .agg #[.float .f64 13830554455654793216, .float .f64 0]),
  ([.float .f64 4645359661539655680], .agg #[.float .f64 4604544271217802189, .float .f64 4604544271217802189]),
  ([.float .f64 4645603753121021952], .agg #[.float .f64 4607182418800017408, .float .f64 0]),
  ([.float .f64 4645852242748899328], .agg #[.float .f64 4604544271217802189, .float .f64 4604544271217802189]),
  ([.float .f64 4646105130423287808], .agg #[.float .f64 13830554455654793216, .float .f64 0]),
  ([.float .f64 4646362416144187392], .agg #[.float .f64 4604544271217802189, .float .f64 4604544271217802189]),
  ([.float .f64 4646624099911598080], .agg #[.float .f64 4607182418800017408, .float .f64 0]),
  ([.float .f64 4646890181725519872], .agg #[.float .f64 4604544271217802189, .float .f64 4604544271217802189]),
  ([.float .f64 4647160661585952768], .agg #[.float .f64 13830554455654793216, .float .f64 0]),
  ([.float .f64 4647435539492896768], .agg #[.float .f64 4604544271217802189, .float .f64 4604544271217802189])]
theorem tur5_ok : allOk (fun x => cfC 44 x none2) tur5 = true := by kernel_rfl

def turs : List (List Value × Value) := tur0 ++ (tur1 ++ (tur2 ++ (tur3 ++ (tur4 ++ (tur5)))))
theorem allOk_append {E : List Value → Option (Value × AS (Tri ABlk))} {a b : List (List Value × Value)} (ha : allOk E a = true) (hb : allOk E b = true) : allOk E (a ++ b) = true := by
  induction a with
  | nil => exact hb
  | cons p a ih =>
    obtain ⟨x, v⟩ := p
    unfold allOk at ha
    split at ha
    · rename_i h
      show allOk E ((x, v) :: (a ++ b)) = true
      unfold allOk
      rw [h]
      exact ih ha
    · cases ha
theorem turs_ok : allOk (fun x => cfC 44 x none2) turs = true := allOk_append tur0_ok (allOk_append tur1_ok (allOk_append tur2_ok (allOk_append tur3_ok (allOk_append tur4_ok tur5_ok))))

/-- The calls that are known, with the turns of the document's. -/
def orcW (f : FuncId) (args : List Value) : Option Value :=
  bif Nat.beq f 44 then findT turs args else bif Nat.beq f 73 then findT tac73 args else none
def orcD : CallF (Tri ABlk) := fun f args s => match orcW f args with | some v => some (v, s) | none => none
theorem orcW_spec {f : FuncId} {x : List Value} {v : Value} (h : orcW f x = some v) : Known f x v := by
  unfold orcW at h
  rcases tab_step cfC_ok _ _ _ turs_ok h with h | h
  · exact h
  rcases tab_step ev_cf _ _ _ tac73_ok h with h | h
  · exact h
  cases h
theorem orcD_ok : OrcOk Tryz.prog orcD := orcOf_ok fun _ _ _ h => orcW_spec h
noncomputable abbrev cfD : CallF (Tri ABlk) := evXK orcD (fnsOf Tryz.prog) 100000
theorem cfD_ok : CfOk Tryz.prog cfD := by
  have h := evX_sound (F := TF) ext mixed (fnsOf_ok Tryz.prog) orcD_ok 100000
  rw [← evXK_eq] at h
  exact h

end Go.Proofs.YtcocakiincejaaaGreat
