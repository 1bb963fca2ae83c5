/- Several texts in one: CheckA, MapW, ExprW, CheckN, CheckS, UsesI, CheckI, ScnW, NumW. -/
import Derived.Test.YticdknjoapdmeaaGreatDoorMi
import Derived.Test.YticdknjoapdmeaaGreatDoorMc
import Derived.Maps.Own
import Derived.Maps.OwnOps
import Derived.Maps.OwnSet
import Derived.Maps.Views
import Derived.Test.YticdknjoapdmeaaGreatDoorMd
import Derived.Test.YticdknjoapdmeaaGreatDoorMa
set_option linter.unusedVariables false
set_option linter.unusedSimpArgs false
namespace Go.Proofs.YticdknjoapdmeaaGreatDoor
set_option maxHeartbeats 32000000
set_option maxRecDepth 100000
open Go.RowKit Go.Lib
theorem S_Arity (l:List UInt8) (w:World) :
  Calls Tryz.prog 178 #[str l] w λe w'=>e=.returned (.int .i64 (arityF l))/\w=w':=by
 go_enter Tryz.func178,Tryz.ntmps178
 go_wp2_with fail
 all_goals
  go_ret
  exact ⟨ret_int (by simp only [beq_iff_eq,beq_eq_false_iff_ne] at *;unfold arityF;simp_all),rfl⟩
theorem I_Arity (l:List UInt8) (w:World) :
  Calls Tryz.prog 249 #[str l] w λe w'=>e=.returned (.int .i64 (arityF l))/\w=w':=by
 go_enter Tryz.func249,Tryz.ntmps249
 go_wp2_with fail
 all_goals
  go_ret
  exact ⟨ret_int (by simp only [beq_iff_eq,beq_eq_false_iff_ne] at *;unfold arityF;simp_all),rfl⟩
theorem I_Arity_is {l:List UInt8} {n:Int} (h:arityF l=n) (w:World):Calls Tryz.prog 249 #[str l] w λe w'=>e=.returned (.int .i64 n)/\w=w':=by subst h;exact I_Arity l w
theorem Zei {l:List UInt8} {n:Int} (h:arityF l=n) (w:World):Calls Tryz.prog 178 #[str l] w λe w'=>e=.returned (.int .i64 n)/\w=w':=by subst h;exact S_Arity l w
theorem I_IsVariable (l:List UInt8) (w:World) :
  Calls Tryz.prog 203 #[str l] w λe w'=>e=.returned (.bool (isVar l))/\w=w':=by
 go_enter Tryz.func203,Tryz.ntmps203
 go_wp2_with fail
 all_goals
  go_ret
  exact ⟨Zad (by simp only [beq_iff_eq,beq_eq_false_iff_ne] at *;unfold isVar;simp_all),rfl⟩
abbrev varL:List (List UInt8):=[[117],[118],[120],[121],[122],[116]]
theorem isVar_any (l:List UInt8):isVar l=varL.any (· == l):=by
 unfold isVar
 rw [Bool.eq_iff_iff]
 simp only [decide_eq_true_eq,List.any_cons,List.any_nil,Bool.or_false,Bool.or_eq_true,beq_iff_eq]
 constructor
 ·intro h;rcases h with h|h|h|h|h|h<;>subst h<;>simp
 ·intro h;rcases h with h|h|h|h|h|h<;>subst h<;>simp
theorem Ze8 (l:List UInt8) (w:World) :
  Calls Tryz.prog 179 #[str l] w λe w'=>e=.returned (.bool (isVar l))/\Below w.heap.size w w':=by
 have HG0:=qh (Own (w.alloc (.cells #[.string ⟨#[117]⟩,.string ⟨#[118]⟩,.string ⟨#[120]⟩,.string ⟨#[121]⟩,.string ⟨#[122]⟩,.string ⟨#[116]⟩] 9)) w.heap.size 9 (Zam varL)) (Own.new w _ #[_,_,_,_,_,_])
 go_enter Tryz.func179,Tryz.ntmps179
 go_wp2_with fail
 go_loop [4,7] (λ_ i=>∃ k:Nat,k<=varL.length/\i=.int .i64 k/\(varL.take k).any (· == l)=false) (λ_ i=>6-(RowKit.intOf i).toNat)
 case atStart=>exact ⟨0,Nat.zero_le _,rfl,rfl⟩
 case round =>
  obtain ⟨k,hk,rfl,ha⟩:=hrel
  have HA:=hdQ ha
  clear ha
  by_cases hlt:k<varL.length
  ·have HSU:=qh ((varL.take (k+1)).any (· == l)=((varL.take k).any (· == l)||(varL[k]==l))) (by rw [List.take_succ_eq_append_getElem hlt,List.any_append];simp)
   have HMM:=qh (varL[k]==l->varL.any (· == l)=true) (λh=>List.any_eq_true.2 ⟨_,List.getElem_mem hlt,h⟩)
   have c1:=HG0.out.cell k
   rw [Zfd hlt] at c1
   generalize varL[k]=x at *
   have i1:(k:Int)<6:=by have:k<6:=hlt;omega
   have i2:(0:Int)<=k:=qo
   cases he:x==l with
   | true =>
    have HF:=qh (isVar l=true) (by rw [isVar_any];exact HMM.out he)
    go_wp2_with fail
    go_ret
    exact ⟨Zad HF.out.symm,bll⟩
   | false =>
    have HK:=qh ((varL.take (k+1)).any (· == l)=false) (by rw [HSU.out,HA.out,he];rfl)
    go_wp2_with fail
    go_round
    case rel=>exact ⟨k+1,hlt,qg,HK.out⟩
    case measure=>exact qn
  ·obtain rfl:k=6:=by have:varL.length=6:=rfl;omega
   have HF:=qh (isVar l=false) (by rw [isVar_any];exact HA.out)
   go_wp2_with fail
   go_ret
   exact ⟨Zad HF.out.symm,bll⟩
theorem S_l14Assigned {A A2:Option Addr} {c c2:Nat} {p:Zae} {name:List UInt8} {before:Int} (w:World) (h:Zew w A2 c2 p.2) (h2:p.2.length<=60) :
  Calls Tryz.prog 180 #[Zbs A p.1.length c A2 p.2.length c2,str name,.int .i64 before] w λe w'=>e=.returned (.int .i64 (lastTo p name before p.2.length))/\Below w.heap.size w w':=by
 have H0:=hdQ h
 clear h
 go_enter Tryz.func180,Tryz.ntmps180
 go_wp2_with fail
 go_loopw [7,8,9,13] (λv _ _ i wr=>∃ j:Nat,j<=p.2.length/\i=.int .i64 j/\v=.int .i64 (lastTo p name before j)/\Below w.heap.size w wr) (λ_ _ _ i _=>p.2.length-(RowKit.intOf i).toNat)
 case atStart=>exact ⟨0,Nat.zero_le _,rfl,rfl,bll⟩
 case round =>
  obtain ⟨j,hj,rfl,rfl,hb⟩:=hrel
  obtain ⟨wi,rfl⟩:=qe wr
  have hz:=hb.size
  have HB:=hdQ hb
  by_cases hlj:j<p.2.length
  ·obtain ⟨b,o,rfl,hbh,hs,x0,x1⟩:=H0.out.2.2 j hlj
   have d0:=(HB.out.cell (p:=⟨b,o+j*2,none⟩) hbh).trans x0
   have d1:=(HB.out.cell (p:=⟨b,o+j*2+1,none⟩) hbh).trans x1
   have HLS:=hdQ (lastTo_succ (name:=name) (before:=before) hlj)
   obtain ⟨⟨nm,rt⟩,hx⟩:∃ x,p.2[j]=x:=⟨_,rfl⟩
   rw [hx] at d0 d1 hs HLS
   (try dsimp only at d0 d1 hs)
   have i1:(j:Int)<p.2.length:=qo
   have i2:(0:Int)<=j:=qo
   generalize lastTo p name before j=lv at *
   clear x0 x1 hs hx hb
   by_cases hbf:(j:Int)<before
   ·cases hn:nm==name with
    | true =>
     have HK:=qh (lastTo p name before (j+1)=j) (by rw [HLS.out,if_pos ⟨hbf,by simpa using hn⟩])
     go_wp2_with fail
     go_roundw
     case rel=>exact ⟨j+1,qo,qg,by rw [HK.out],bll⟩
     case measure=>exact qn
    | false =>
     have HK:=qh (lastTo p name before (j+1)=lv) (by rw [HLS.out,if_neg (λhh=>by rw [beq_eq_false_iff_ne] at hn;exact hn hh.2)])
     go_wp2_with fail
     go_roundw
     case rel=>exact ⟨j+1,qo,qg,by rw [HK.out],bll⟩
     case measure=>exact qn
   ·have HK:=qh (lastTo p name before (j+1)=lv) (by rw [HLS.out,if_neg (λhh=>hbf hh.1)])
    go_wp2_with fail
    go_roundw
    case rel=>exact ⟨j+1,qo,qg,by rw [HK.out],bll⟩
    case measure=>exact qn
  ·obtain rfl:j=p.2.length:=by omega
   go_wp2_with fail
   go_ret
   exact ⟨rfl,HB.out⟩
theorem last_has (p:Zae) (name:List UInt8) (before:Int):decide (0<=lastTo p name before p.2.length)=has p name before:=by
 unfold has
 rw [Bool.eq_iff_iff,decide_eq_true_eq]
 exact lastTo_has (Nat.le_refl _)
theorem namesTo_no {p:Zae} {k:Nat} (hk:k<p.1.length) (h:nameOk p k p.1[k]=false):Zbv p p.1.length=false:=by
 unfold Zbv
 rw [List.take_length,List.all_eq_false]
 exact ⟨(p.1[k],k),List.mk_mem_zipIdx_iff_getElem?.2 (List.getElem?_eq_getElem hk),by simp [h]⟩
theorem aritiesTo_no {p:Zae} {k:Nat} (hk:k<p.1.length) (h:Zeu p.1[k]=false):Zb2 p p.1.length=false:=by
 unfold Zb2
 rw [List.take_length,List.all_eq_false]
 exact ⟨p.1[k],List.getElem_mem hk,by simp [h]⟩
theorem asssTo_no {p:Zae} {k:Nat} (hk:k<p.2.length) (h:assOk p k p.2[k]=false):Zfs p p.2.length=false:=by
 unfold Zfs
 rw [List.take_length,List.all_eq_false]
 exact ⟨(p.2[k],k),List.mk_mem_zipIdx_iff_getElem?.2 (List.getElem?_eq_getElem hk),by simp [h]⟩
theorem ownP_len {p:Zae}:(ownP p).length=p.1.length:=by unfold ownP ownS;rw [Zfr,Zcz,Zbt]
theorem nameOk2 (p:Zae) (k:Nat) (name:List UInt8) (num:Int) (l:List Int):nameOk p k (2,name,num,l)=(isVar name||has p name ((ownP p).getD k 0)):=rfl
theorem nameOk8 (p:Zae) (k:Nat) (name:List UInt8) (num:Int) (l:List Int):nameOk p k (8,name,num,l)=decide (0<=arityF name):=rfl
theorem nameOk0 {p:Zae} {k:Nat} {op:Int} {name:List UInt8} {num:Int} {l:List Int} (h2:op≠2) (h8:op≠8):nameOk p k (op,name,num,l)=true:=by unfold nameOk;rw [if_neg h2,if_neg h8]
theorem arityOk8 (name:List UInt8) (num:Int) (l:List Int):Zeu (8,name,num,l)=decide (arityF name=l.length):=rfl
theorem arityOk0 {op:Int} {name:List UInt8} {num:Int} {l:List Int} (h8:op≠8):Zeu (op,name,num,l)=true:=by unfold Zeu;rw [if_neg h8]
theorem op3_cases (op:Int):op=2∨op=8∨(op≠2/\op≠8):=qo
end Go.Proofs.YticdknjoapdmeaaGreatDoor
namespace Go.Proofs.YticdknjoapdmeaaGreatDoor
set_option maxHeartbeats 32000000
set_option maxRecDepth 100000
open Go.RowKit Go.Lib Go.Maps Go.WideMaps
theorem keyS:Keyed Tryz.prog 9:=string_keyed Tryz.underlying9
theorem zeroI (w:World):(zeroValue 3).run Tryz.prog w=.ok (.int .i64 0) w:=kr
abbrev Zee (w:World) (B n:Nat) (D:DataW Unit):Prop:=w.ownsMap Tryz.prog 9 (plainElem Tryz.prog 3) B n D
theorem key_str {l:List UInt8} (h:l.length<=maxLen):keyOf Tryz.prog 9 (str l)=some (.string l):=by
 have:=keyOf_string_mk Tryz.underlying9 (s:=⟨l.toArray⟩) h
 simpa using this
theorem Zee.step {w w':World} {B n:Nat} {D:DataW Unit} (h:Zee w B n D) (hb:Below w.heap.size w w'):Zee w' B n D :=
 World.ownsMap.kept h (row:=none) ⟨hb.os,hb.tape,hb.output,hb.size,λi hi _=>hb.block i hi⟩ qs
structure IsFirst (p:Zae) (k:Nat) (D:DataW Unit):Prop where
 map:IsMap D
 has:∀ name,Maps.has D (.string name)=(Zbc p name k).isSome
 at_:∀ name j,Zbc p name k=some j->∀ z,D.atKey (.string name) z=.lit (.int .i64 j)
theorem IsFirst.zero (p:Zae):IsFirst p 0 (.map []):=⟨isMap_empty,λ_=>rfl,λ_ _ h=>by cases h⟩
theorem Ze4 {p:Zae} {name:List UInt8} {k:Nat} (h:k<p.2.length):Zbc p name (k+1)=match Zbc p name k with|some j=>some j|none=>if p.2[k].1=name then some k else none:=by
 rw [Zbc]
 simp only [List.getElem?_eq_getElem h,Option.map_some,Option.some.injEq]
 rfl
theorem IsFirst.keep {p:Zae} {k:Nat} {D:DataW Unit} (h:IsFirst p k D) (hk:k<p.2.length) (hs:(Zbc p p.2[k].1 k).isSome=true):IsFirst p (k+1) D:=by
 have key:∀ name,Zbc p name (k+1)=Zbc p name k:=by
  intro name
  rw [Ze4 hk]
  cases hf:Zbc p name k with
  | some j=>rfl
  | none =>
   have:p.2[k].1≠name:=λe=>by rw [e,hf] at hs;cases hs
   simp [this]
 exact ⟨h.map,λname=>by rw [key];exact h.has name,λname j hj=>by rw [key] at hj;exact h.at_ name j hj⟩
theorem IsFirst.put {p:Zae} {k:Nat} {D:DataW Unit} (h:IsFirst p k D) (hk:k<p.2.length) (hs:(Zbc p p.2[k].1 k).isSome=false):IsFirst p (k+1) (D.put (.string p.2[k].1) (.lit (.int .i64 k))):=by
 have hn:Zbc p p.2[k].1 k=none:=by
  cases hf:Zbc p p.2[k].1 k with
  | none=>rfl
  | some j=>rw [hf] at hs;cases hs
 refine ⟨h.map.put _ _,λname=>?_,λname j hj z=>?_⟩
 ·by_cases e:name=p.2[k].1
  ·subst e
   rw [has_put_same h.map (show WideAt.IsKeyLit (.string _) from trivial),Ze4 hk,hn];simp
  ·have ne:(Lit.string name) ≠ .string p.2[k].1:=λe'=>by injection e' with e';exact e e'
   rw [has_put_other ne,h.has name,Ze4 hk]
   cases hf:Zbc p name k with
   | some j=>rfl
   | none=>rw [if_neg (λe'=>e e'.symm)]
 ·rw [Ze4 hk] at hj
  by_cases e:name=p.2[k].1
  ·subst e
   rw [hn] at hj
   simp at hj
   subst hj
   rw [atKey_put_same h.map (show WideAt.IsKeyLit (.string _) from trivial)]
  ·have ne:(Lit.string name) ≠ .string p.2[k].1:=λe'=>by injection e' with e';exact e e'
   rw [atKey_put_other ne]
   cases hf:Zbc p name k with
   | some i =>
    rw [hf] at hj
    obtain rfl:=Option.some.inj hj
    exact h.at_ name i hf z
   | none =>
    rw [hf] at hj
    rw [if_neg (λe'=>e e'.symm)] at hj
    cases hj
set_option maxHeartbeats 16000000 in
theorem I_assigned {A A2:Option Addr} {c c2:Nat} {p:Zae} (w:World) (h:Zew w A2 c2 p.2) (h2:p.2.length<=60) :
  Calls Tryz.prog 198 #[Zbs A p.1.length c A2 p.2.length c2] w λe w'=>∃ B D,e=.returned (.map (some B))/\Zee w' B p.2.length D/\IsFirst p p.2.length D/\w.heap.size<=B/\Below w.heap.size w w':=by
 have hmm := @run_makeMap Tryz.prog
 have H0:=hdQ h
 clear h
 go_enter Tryz.func198,Tryz.ntmps198
 go_wp2_with fail
 go_loopw [4,5,6,7,12] (λ_ _ _ _ i wr=>∃ (j:Nat) (D:DataW Unit),j<=p.2.length/\i=.int .i64 j/\Zee wr (w.heap.size+1) j D/\IsFirst p j D/\Below w.heap.size w wr) (λ_ _ _ _ i _=>p.2.length-(RowKit.intOf i).toNat)
 case atStart=>exact ⟨0,_,Nat.zero_le _,rfl,by have:=World.ownsMap_made (H:=Unit) (w.alloc (.cells #[.slice A p.1.length c,.slice A2 p.2.length c2] 62)) Tryz.prog 9 (plainElem Tryz.prog 3);simp only [World.size_alloc] at this;exact this,IsFirst.zero p,bll⟩
 case round =>
  obtain ⟨j,D,hj,rfl,hm,hf,hb⟩:=hrel
  obtain ⟨wi,rfl⟩:=qe wr
  have hz:=hb.size
  have hml:=World.ownsMap.lt hm
  have HB:=hdQ hb
  have HM:=hdQ hm
  have HFI:=hdQ hf
  clear hb hf hm
  by_cases hlj:j<p.2.length
  ·obtain ⟨b,o,rfl,hbh,hs,x0,x1⟩:=H0.out.2.2 j hlj
   have d0:=(HB.out.cell (p:=⟨b,o+j*2,none⟩) hbh).trans x0
   have d1:=(HB.out.cell (p:=⟨b,o+j*2+1,none⟩) hbh).trans x1
   have HKP:=hdQ (HFI.out.keep hlj)
   have HPT:=hdQ (HFI.out.put hlj)
   obtain ⟨⟨nm,rt⟩,hx⟩:∃ x,p.2[j]=x:=⟨_,rfl⟩
   rw [hx] at d0 d1 hs HKP HPT
   (try dsimp only at d0 d1 hs)
   have HS:=hdQ hs
   have hkey:=key_str hs
   have HH:=hdQ (HFI.out.has nm)
   have i1:(j:Int)<p.2.length:=qo
   have i2:(0:Int)<=j:=qo
   have HMA:=qh (Zee (wi.alloc (.cells #[str nm,.int .i64 rt] 106)) (w.heap.size+1) j D) (World.ownsMap.alloc HM.out _)
   clear x0 x1 hs hx
   cases hhas:(Zbc p nm j).isSome with
   | true =>
    have HK:=hdQ (HKP.out hhas)
    have HHT:=qh (Maps.has D (.string nm)=true) (HH.out.trans hhas)
    go_wp2_with (first|(at_lookup;refine wpList_lookup_own_ok_int _ rfl _ _ 217 rfl 9 3 .i64 keyS Tryz.underlying217 Tryz.underlying3 (zeroI _) (w.heap.size+1) j D rfl HMA.out _ _ rfl hkey ?_;intro cc hat hwc;rw [HHT.out];clear hat hwc)|fail)
    go_roundw
    case rel=>exact ⟨j+1,D,qo,qg,World.ownsMap.mono HMA.out qo,HK.out,bll⟩
    case measure=>exact qn
   | false =>
    have HK:=hdQ (HPT.out hhas)
    have HHT:=qh (Maps.has D (.string nm)=false) (HH.out.trans hhas)
    go_wp2_with (first|(at_lookup;refine wpList_lookup_own_ok_int _ rfl _ _ 217 rfl 9 3 .i64 keyS Tryz.underlying217 Tryz.underlying3 (zeroI _) (w.heap.size+1) j D rfl HMA.out _ _ rfl hkey ?_;intro cc hat hwc;rw [HHT.out];clear hat hwc)|(at_mapUpdate;refine wpList_mapUpdate_own _ rfl _ _ _ 217 rfl 9 3 keyS Tryz.underlying217 _ (w.heap.size+1) j _ rfl HMA.out (by unfold maxLen;omega) _ _ _ rfl rfl hkey _ [] (plainElem_int Tryz.underlying3 (WalkArith.wf_i64 qo)) ?_;intro w1 hown1 hgrow1;have HM1:=hdQ hown1;have HB1:=qh (Below w.heap.size w w1) (Below.grown bll hgrow1 (by simp;omega) (λj hj=>by cases hj;omega));clear hown1 hgrow1)|fail)
    go_roundw
    case rel=>exact ⟨j+1,_,qo,qg,HM1.out,HK.out,HB1.out⟩
    case measure=>exact qn
  ·obtain rfl:j=p.2.length:=by omega
   go_wp2_with fail
   go_ret
   exact ⟨_,D,rfl,HM.out,HFI.out,qo,HB.out⟩
def exT (op:Int):TypeId:=if op=2 then 262 else if op=8 then 263 else 264
theorem I_exprOf {op:Int} {name:List UInt8} {num:Int} {A:Option Addr} {n c:Nat} (w:World) :
  Calls Tryz.prog 201 #[vNode op name num A n c] w λe w'=>e=.returned (.iface (exT op) (vNode op name num A n c))/\Below w.heap.size w w':=by
 rcases op3_cases op with rfl|rfl|⟨h2,h8⟩
 ·go_enter Tryz.func201,Tryz.ntmps201
  go_wp2_with fail
  go_ret
  exact ⟨rfl,bll⟩
 ·go_enter Tryz.func201,Tryz.ntmps201
  go_wp2_with fail
  go_ret
  exact ⟨rfl,bll⟩
 ·have e2:(op==2)=false:=by simpa using h2
  have e8:(op==8)=false:=by simpa using h8
  have HT:=qh (exT op=264) (by unfold exT;rw [if_neg h2,if_neg h8])
  go_enter Tryz.func201,Tryz.ntmps201
  go_wp2_with fail
  go_ret
  exact ⟨by rw [HT.out];rfl,bll⟩
abbrev zNode:Value:=.agg #[.int .i64 0,.string ByteArray.empty,.int .i64 0,.slice none 0 0]
theorem ta_var (v:Value) (w:World):(Instr.typeAssert (.iface 262 v) 221 262 true).run Tryz.prog w=.ok (.tuple #[v,.bool true]) w:=kr
theorem ta_call (v:Value) (w:World):(Instr.typeAssert (.iface 263 v) 221 263 true).run Tryz.prog w=.ok (.tuple #[v,.bool true]) w:=kr
theorem ta_cv (v:Value) (w:World):(Instr.typeAssert (.iface 263 v) 221 262 true).run Tryz.prog w=.ok (.tuple #[zNode,.bool false]) w:=kr
theorem ta_vc (v:Value) (w:World):(Instr.typeAssert (.iface 262 v) 221 263 true).run Tryz.prog w=.ok (.tuple #[zNode,.bool false]) w:=kr
theorem ta_pv (v:Value) (w:World):(Instr.typeAssert (.iface 264 v) 221 262 true).run Tryz.prog w=.ok (.tuple #[zNode,.bool false]) w:=kr
theorem ta_pc (v:Value) (w:World):(Instr.typeAssert (.iface 264 v) 221 263 true).run Tryz.prog w=.ok (.tuple #[zNode,.bool false]) w:=kr
theorem I_known2 {name:List UInt8} {num own:Int} {A:Option Addr} {n c B:Nat} {p:Zae} {D:DataW Unit} (w:World) (hm:Zee w B p.2.length D) (hf:IsFirst p p.2.length D) (hs:name.length<=maxLen) :
  Calls Tryz.prog 200 #[.iface 262 (vNode 2 name num A n c),.int .i64 own,.map (some B)] w λe w'=>e=.returned (.bool (isVar name||has p name own))/\Below w.heap.size w w':=by
 have t1:=ta_var
 have hkey:=key_str hs
 have hBl:=World.ownsMap.lt hm
 have HM:=hdQ hm
 have HMA:=qh (Zee (w.alloc (.cells #[.int .i64 2,str name,.int .i64 num,.slice A n c] 262)) B p.2.length D) (World.ownsMap.alloc hm _)
 have HFH:=hdQ (first_has (p:=p) (name:=name) own)
 have HH:=hdQ (hf.has name)
 have HAT:=hdQ (hf.at_ name)
 clear hm hf hs
 have HIV:=qh (∀ wx,Calls Tryz.prog 203 #[str name] wx λe w'=>e=.returned (.bool (isVar name))/\wx=w') (λwx=>I_IsVariable name wx)
 cases hft:Zbc p name p.2.length with
 | none =>
  have HHF:=qh (Maps.has D (.string name)=false) (by rw [HH.out,hft];rfl)
  have HR:=qh (has p name own=false) (by rw [<- HFH.out,hft])
  go_enter Tryz.func200,Tryz.ntmps200
  go_wp2_with (first|(at_lookup;refine wpList_lookup_own_ok_int _ rfl _ _ 217 rfl 9 3 .i64 keyS Tryz.underlying217 Tryz.underlying3 (zeroI _) B p.2.length D rfl HMA.out _ _ rfl hkey ?_;intro cc hat hwc;rw [HHF.out];clear hat hwc)|(go_at_call 203;refine (HIV.out _).mono ?_;rintro e w' ⟨rfl,rfl⟩)|fail)
  all_goals
   go_ret
   exact ⟨Zad (by rw [HR.out];simp [*]),bll⟩
 | some j =>
  have HHF:=qh (Maps.has D (.string name)=true) (by rw [HH.out,hft];rfl)
  have HR:=qh (has p name own=decide ((j:Int)<own)) (by rw [<- HFH.out,hft])
  have HAJ:=hdQ (HAT.out j hft)
  clear hft
  by_cases hlt:(j:Int)<own
  ·go_enter Tryz.func200,Tryz.ntmps200
   go_wp2_with (first|(at_lookup;refine wpList_lookup_own_ok_int _ rfl _ _ 217 rfl 9 3 .i64 keyS Tryz.underlying217 Tryz.underlying3 (zeroI _) B p.2.length D rfl HMA.out _ _ rfl hkey ?_;intro cc hat hwc;rw [HHF.out];rw [HAJ.out] at hat;injection hat with hat;injection hat with _ hat;subst hat;clear hwc)|(go_at_call 203;refine (HIV.out _).mono ?_;rintro e w' ⟨rfl,rfl⟩)|fail)
   all_goals
    go_ret
    exact ⟨Zad (by rw [HR.out];simp [*]),bll⟩
  ·go_enter Tryz.func200,Tryz.ntmps200
   go_wp2_with (first|(at_lookup;refine wpList_lookup_own_ok_int _ rfl _ _ 217 rfl 9 3 .i64 keyS Tryz.underlying217 Tryz.underlying3 (zeroI _) B p.2.length D rfl HMA.out _ _ rfl hkey ?_;intro cc hat hwc;rw [HHF.out];rw [HAJ.out] at hat;injection hat with hat;injection hat with _ hat;subst hat;clear hwc)|(go_at_call 203;refine (HIV.out _).mono ?_;rintro e w' ⟨rfl,rfl⟩)|fail)
   all_goals
    go_ret
    exact ⟨Zad (by rw [HR.out];simp [*]),bll⟩
theorem I_known8 {name:List UInt8} {num own:Int} {A:Option Addr} {n c B:Nat} (w:World) :
  Calls Tryz.prog 200 #[.iface 263 (vNode 8 name num A n c),.int .i64 own,.map (some B)] w λe w'=>e=.returned (.bool (decide (0<=arityF name)))/\Below w.heap.size w w':=by
 have t1:=ta_cv
 have t2:=ta_call
 have HAR:=qh (∀ wx,Calls Tryz.prog 249 #[str name] wx λe w'=>e=.returned (.int .i64 (arityF name))/\wx=w') (λwx=>I_Arity name wx)
 generalize arityF name=an at *
 go_enter Tryz.func200,Tryz.ntmps200
 go_wp2_with (first|(go_at_call 249;refine (HAR.out _).mono ?_;rintro e w' ⟨rfl,rfl⟩)|fail)
 go_ret
 exact ⟨Zad (by first|rfl|simp),bll⟩
theorem I_known0 {op:Int} {name:List UInt8} {num own:Int} {A:Option Addr} {n c B:Nat} (w:World) :
  Calls Tryz.prog 200 #[.iface 264 (vNode op name num A n c),.int .i64 own,.map (some B)] w λe w'=>e=.returned (.bool true)/\Below w.heap.size w w':=by
 have t1:=ta_pv
 have t2:=ta_pc
 go_enter Tryz.func200,Tryz.ntmps200
 go_wp2_with fail
 go_ret
 exact ⟨rfl,bll⟩
theorem I_fitting8 {name:List UInt8} {num:Int} {A:Option Addr} {n c:Nat} (w:World) :
  Calls Tryz.prog 202 #[.iface 263 (vNode 8 name num A n c)] w λe w'=>e=.returned (.bool (decide (arityF name=n)))/\Below w.heap.size w w':=by
 have t2:=ta_call
 obtain ⟨an,han⟩:∃ n,arityF name=n:=⟨_,rfl⟩
 have HAR:=hdQ han
 rw [han]
 clear han
 have HE:=qh (((n:Int)==an)=decide (an=n)) (by rw [Bool.eq_iff_iff];simp;omega)
 go_enter Tryz.func202,Tryz.ntmps202
 go_wp2_with fail
 go_quiet ((first|(go_at_call 249;exact Zap (I_Arity_is HAR.out _))|fail))
 go_wp2_with fail
 go_ret
 exact ⟨Zad HE.out,bll⟩
theorem I_fitting0 {op:Int} {name:List UInt8} {num:Int} {A:Option Addr} {n c:Nat} (w:World) :
  Calls Tryz.prog 202 #[.iface 264 (vNode op name num A n c)] w λe w'=>e=.returned (.bool true)/\Below w.heap.size w w':=by
 have t2:=ta_pc
 go_enter Tryz.func202,Tryz.ntmps202
 go_wp2_with fail
 go_quiet (fail)
 go_wp2_with fail
 go_ret
 exact ⟨rfl,bll⟩
theorem I_fitting2 {op:Int} {name:List UInt8} {num:Int} {A:Option Addr} {n c:Nat} (w:World) :
  Calls Tryz.prog 202 #[.iface 262 (vNode op name num A n c)] w λe w'=>e=.returned (.bool true)/\Below w.heap.size w w':=by
 have t2:=ta_vc
 go_enter Tryz.func202,Tryz.ntmps202
 go_wp2_with fail
 go_quiet (fail)
 go_wp2_with fail
 go_ret
 exact ⟨rfl,bll⟩
theorem I_fitting {op:Int} {name:List UInt8} {num:Int} {A:Option Addr} {l:List Int} {c:Nat} (w:World) :
  Calls Tryz.prog 202 #[.iface (exT op) (vNode op name num A l.length c)] w λe w'=>e=.returned (.bool (Zeu (op,name,num,l)))/\Below w.heap.size w w':=by
 rcases op3_cases op with rfl|rfl|⟨h2,h8⟩
 ·exact I_fitting2 w
 ·rw [arityOk8];exact I_fitting8 w
 ·rw [arityOk0 h8,show exT op=264 by unfold exT;rw [if_neg h2,if_neg h8]];exact I_fitting0 w
theorem I_known {op:Int} {name:List UInt8} {num:Int} {A:Option Addr} {l:List Int} {c B k:Nat} {p:Zae} {D:DataW Unit} (w:World) (hm:Zee w B p.2.length D) (hf:IsFirst p p.2.length D) (hs:name.length<=maxLen) :
  Calls Tryz.prog 200 #[.iface (exT op) (vNode op name num A l.length c),.int .i64 ((ownP p).getD k 0),.map (some B)] w λe w'=>e=.returned (.bool (nameOk p k (op,name,num,l)))/\Below w.heap.size w w':=by
 rcases op3_cases op with rfl|rfl|⟨h2,h8⟩
 ·rw [nameOk2];exact I_known2 w hm hf hs
 ·rw [nameOk8];exact I_known8 w
 ·rw [nameOk0 h2 h8,show exT op=264 by unfold exT;rw [if_neg h2,if_neg h8]];exact I_known0 w
end Go.Proofs.YticdknjoapdmeaaGreatDoor
namespace Go.Proofs.YticdknjoapdmeaaGreatDoor
set_option maxHeartbeats 32000000
set_option maxRecDepth 100000
open Go.RowKit Go.Lib
set_option maxHeartbeats 16000000 in
theorem S_l14Names {A A2:Option Addr} {c c2:Nat} {p:Zae} (w:World) (h:Zdl w A c A2 c2 p) (hv:Zat p=true) :
  Calls Tryz.prog 177 #[Zbs A p.1.length c A2 p.2.length c2] w λe w'=>(∃ r:Int,e=.returned (.int .i64 r)/\decide (0<=r) = !(Zbv p p.1.length))/\Below w.heap.size w w':=by
 have H0:=hdQ h
 have HV:=hdQ hv
 have h1:=Zb8 hv
 have h2:=Zbw hv
 have HO0:=qh (∀ wx,Below w.heap.size w wx->Calls Tryz.prog 228 #[Zbs A p.1.length c A2 p.2.length c2] wx λe w'=>∃ g,e=.returned (sl g p.1.length)/\Own w' g 3 (ints (ownP p))/\wx.heap.size<=g/\Below wx.heap.size wx w') (λwx hb=>S_l14Owners wx (h.step hb) hv)
 have HAS:=qh (∀ (name:List UInt8) (before:Int) wx,Below w.heap.size w wx->CB_ Tryz.prog 180 #[Zbs A p.1.length c A2 p.2.length c2,str name,.int .i64 before] wx (.int .i64 (lastTo p name before p.2.length))) (λname before wx hb=>S_l14Assigned wx ((h.step hb).2) h2)
 clear h hv
 go_enter Tryz.func177,Tryz.ntmps177
 go_wp2_with fail
 refine (HO0.out _ bll).mono ?_
 rintro e w1 ⟨g,rfl,ho,hg,hb1⟩
 have hz1:=hb1.size
 have HB1:=qh (Below w.heap.size w w1) (Below.step hb1 bll qs)
 have HP1:=qh (Own w1 w.heap.size 62 [.slice A p.1.length c,.slice A2 p.2.length c2]) (Own.step hb1 (Own.new w _ #[_,_]))
 have HO1:=hdQ ho
 have r0:w1.cell? ⟨w.heap.size,0,none⟩=some (.slice A p.1.length c):=HP1.out.cell 0
 have r1:w1.cell? ⟨w.heap.size,1,none⟩=some (.slice A2 p.2.length c2):=HP1.out.cell 1
 (try simp at hg hz1)
 clear ho hb1 HO0
 go_wp2_with fail
 go_loopw [4,5,11] (λ_ _ i wr=>∃ k:Nat,k<=p.1.length/\i=.int .i64 k/\Zbv p k=true/\Own wr w.heap.size 62 [.slice A p.1.length c,.slice A2 p.2.length c2]/\Own wr g 3 (ints (ownP p))/\Below w.heap.size w wr) (λ_ _ i _=>p.1.length-(RowKit.intOf i).toNat)
 case atStart=>exact ⟨0,Nat.zero_le _,rfl,rfl,HP1.out,HO1.out,HB1.out⟩
 case round =>
  obtain ⟨k,hk,rfl,ht,hp,hu,hb⟩:=hrel
  obtain ⟨wo,rfl⟩:=qe wr
  have hz:=hb.size
  have hl:=hp.lt
  have hgl:=hu.lt
  have HT:=hdQ ht
  have HP:=hdQ hp
  have HU:=hdQ hu
  have HB:=hdQ hb
  have p0:wo.cell? ⟨w.heap.size,0,none⟩=some (.slice A p.1.length c):=hp.cell 0
  have p1:wo.cell? ⟨w.heap.size,1,none⟩=some (.slice A2 p.2.length c2):=hp.cell 1
  clear hp hb ht r0 r1 HP1 HO1 HB1
  by_cases hlt:k<p.1.length
  ·obtain ⟨b,o,A',c',rfl,hbh,hs,hr,x0,x1,x2,x3⟩:=H0.out.1.2.2 k hlt
   have d0:=(HB.out.cell (p:=⟨b,o+k*4,none⟩) hbh).trans x0
   have d1:=(HB.out.cell (p:=⟨b,o+k*4+1,none⟩) hbh).trans x1
   have d2:=(HB.out.cell (p:=⟨b,o+k*4+2,none⟩) hbh).trans x2
   have d3:=(HB.out.cell (p:=⟨b,o+k*4+3,none⟩) hbh).trans x3
   have HTS:=hdQ (namesTo_succ hlt)
   obtain ⟨⟨op,name,num,args⟩,hx⟩:∃ x,p.1[k]=x:=⟨_,rfl⟩
   rw [hx] at d0 d1 d2 d3 HTS
   (try dsimp only at d0 d1 d2 d3)
   have HX:=hdQ hx
   have e1:wo.cell? ⟨g,k,none⟩=some (.int .i64 ((ownP p).getD k 0)):=by rw [hu.cell,Zfp (by rw [ownP_len];exact hlt)]
   have i0:(k:Int)<p.1.length:=qo
   have i00:(0:Int)<=k:=qo
   have FIN:=qh (∀ b,nameOk p k (op,name,num,args)=b->(b=false->Zbv p p.1.length=false)/\(b=true->Zbv p (k+1)=true)) (λb hb=>⟨λe=>namesTo_no hlt (by rw [HX.out,hb,e]),λe=>by rw [HTS.out,HT.out,hb,e];rfl⟩)
   generalize args.length=an at *
   clear x0 x1 x2 x3 hs hr hx hu
   have ng:¬ g=wo.heap.size:=qo
   rcases op3_cases op with rfl|rfl|⟨h2',h8'⟩
   ·
    generalize hov:(ownP p).getD k 0=ov at *
    have HA1:=qh (∀ wx,Below w.heap.size w wx->CB_ Tryz.prog 180 #[Zbs (some ⟨b,o,none⟩) p.1.length c A2 p.2.length c2,str name,.int .i64 ov] wx (.int .i64 (lastTo p name ov p.2.length))) (λwx hb=>HAS.out name ov wx hb)
    have HLH:=hdQ (last_has p name ov)
    generalize lastTo p name ov p.2.length=lv at *
    cases hvr:isVar name with
    | true =>
     have HK:=hdQ ((FIN.out true (by rw [nameOk2,hvr];rfl)).2 rfl)
     have HIV:=qh (∀ wx,CB_ Tryz.prog 179 #[str name] wx (.bool true)) (λwx=>by have:=Ze8 name wx;rw [hvr] at this;exact this)
     go_wp2_with fail
     refine wp_region_held_drew (S:=λw'=>w'.cell? ⟨wo.heap.size,0,none⟩=some (.int .i64 2)/\w'.cell? ⟨wo.heap.size,1,none⟩=some (str name)/\w'.cell? ⟨w.heap.size,0,none⟩=some (.slice (some ⟨b,o,none⟩) p.1.length c)/\w'.cell? ⟨w.heap.size,1,none⟩=some (.slice A2 p.2.length c2)/\w'.cell? ⟨g,k,none⟩=some (.int .i64 ov)) kr ?_ (λhHeld1=>?_)
     ·(try dsimp only);refine ⟨?_, ?_, ?_, ?_, ?_⟩<;>(go_simp;done)
     refine tkH 0 ?_;(try simp only [LO,Act.put])
     refine tkH 1 ?_;(try simp only [LO,Act.put])
     refine tkH 2 ?_;(try simp only [LO,Act.put])
     refine tkH 3 ?_;(try simp only [LO,Act.put])
     refine tkH 4 ?_;(try simp only [LO,Act.put])
     refine tkH 5 ?_;(try simp only [LO,Act.put])
     refine wpAnyH_ready (rs:=[6]) kr qs ?_
     refine AllReadyH.cons rfl (λK hK=>?_) AllReadyH.nil
     go_simp
     (go_at_call 179;(with_reducible refine (HIV.out _).mono ?_);rintro e wB ⟨rfl,hbB⟩;have hzB:=hbB.size;(try simp at hzB);(refine Zai hbB (wo.heap.size) ?_ ?_;(first|omega|(simp<;>omega));intro n0 nf0 nz0);(refine Zai hbB (w.heap.size) ?_ ?_;(first|omega|(simp<;>omega));intro m0 mf0 mz0);(refine Zai hbB (g) ?_ ?_;(first|omega|(simp<;>omega));intro q0 qf0 qz0))
     (try go_wp2_with fail)
     refine hK.out _ _ ?_ (λhHeld2=>?_)
     ·(try dsimp only);refine ⟨?_, ?_, ?_, ?_, ?_⟩<;>(first|(go_simp;done)|(simp [*];done))
     clear hK K hHeld1
     (try simp only [LO,Act.put])
     refine tkH 7 ?_;(try simp only [LO,Act.put])
     refine tkH 8 ?_;(try simp only [LO,Act.put])
     refine tkH 9 ?_;(try simp only [LO,Act.put])
     (refine wpAnyH_take (i:=10) (v:=undef) rfl kr kr kr (λ_ _ _ h=>h) (Or.inr ⟨by kernel_rfl,rfl⟩) ‹_› ?_);(try simp only [LO,Act.put])
     (refine wpAnyH_take (i:=11) (v:=undef) rfl kr kr kr (λ_ _ _ h=>h) (Or.inr ⟨by kernel_rfl,rfl⟩) ‹_› ?_);(try simp only [LO,Act.put])
     (refine wpAnyH_take (i:=12) (v:=undef) rfl kr kr kr (λ_ _ _ h=>h) (Or.inr ⟨by kernel_rfl,rfl⟩) ‹_› ?_);(try simp only [LO,Act.put])
     (refine wpAnyH_take (i:=13) (v:=undef) rfl kr kr kr (λ_ _ _ h=>h) (Or.inr ⟨by kernel_rfl,rfl⟩) ‹_› ?_);(try simp only [LO,Act.put])
     (refine wpAnyH_take (i:=14) (v:=undef) rfl kr kr kr (λ_ _ _ h=>h) (Or.inr ⟨by kernel_rfl,rfl⟩) ‹_› ?_);(try simp only [LO,Act.put])
     (refine wpAnyH_take (i:=15) (v:=undef) rfl kr kr kr (λ_ _ _ h=>h) (Or.inr ⟨by kernel_rfl,rfl⟩) ‹_› ?_);(try simp only [LO,Act.put])
     (refine wpAnyH_take (i:=16) (v:=undef) rfl kr kr kr (λ_ _ _ h=>h) (Or.inr ⟨by kernel_rfl,rfl⟩) ‹_› ?_);(try simp only [LO,Act.put])
     (refine wpAnyH_take (i:=17) (v:=undef) rfl kr kr kr (λ_ _ _ h=>h) (Or.inr ⟨by kernel_rfl,rfl⟩) ‹_› ?_);(try simp only [LO,Act.put])
     (refine wpAnyH_take (i:=18) (v:=undef) rfl kr kr kr (λ_ _ _ h=>h) (Or.inr ⟨by kernel_rfl,rfl⟩) ‹_› ?_);(try simp only [LO,Act.put])
     refine tkH 19 ?_;(try simp only [LO,Act.put])
     refine wpAnyH_done kr ?_ _
     all_goals
      go_wp2_with fail
      go_roundw
      case rel=>exact ⟨k+1,qo,qg,HK.out,(owx HP.out),(owx HU.out),bll⟩
      case measure=>exact qn
    | false =>
     have HIV:=qh (∀ wx,CB_ Tryz.prog 179 #[str name] wx (.bool false)) (λwx=>by have:=Ze8 name wx;rw [hvr] at this;exact this)
     cases hhs:has p name ov with
     | true =>
      have HK:=hdQ ((FIN.out true (by rw [nameOk2,hvr,hov,hhs];rfl)).2 rfl)
      have hlv:¬ lv<0:=by have:=HLH.out;rw [hhs] at this;simpa using this
      have hlv2:0<=lv:=qo
      go_wp2_with fail
      go_region_held3 (λw'=>w'.cell? ⟨wo.heap.size,0,none⟩=some (.int .i64 2)/\w'.cell? ⟨wo.heap.size,1,none⟩=some (str name)/\w'.cell? ⟨w.heap.size,0,none⟩=some (.slice (some ⟨b,o,none⟩) p.1.length c)/\w'.cell? ⟨w.heap.size,1,none⟩=some (.slice A2 p.2.length c2)/\w'.cell? ⟨g,k,none⟩=some (.int .i64 ov))
       (first|go_keep|((try dsimp only);refine ⟨?_, ?_, ?_, ?_, ?_⟩<;>(go_simp;done)))
       (first|(go_at_call 179;(with_reducible refine (HIV.out _).mono ?_);rintro e wB ⟨rfl,hbB⟩;have hzB:=hbB.size;(try simp at hzB);(refine Zai hbB (wo.heap.size) ?_ ?_;(first|omega|(simp<;>omega));intro n0 nf0 nz0);(refine Zai hbB (w.heap.size) ?_ ?_;(first|omega|(simp<;>omega));intro m0 mf0 mz0);(refine Zai hbB (g) ?_ ?_;(first|omega|(simp<;>omega));intro q0 qf0 qz0))|(go_at_call 180;(with_reducible refine (HA1.out _ bll).mono ?_);rintro e wB ⟨rfl,hbB⟩;have hzB:=hbB.size;(try simp at hzB);(refine Zai hbB (wo.heap.size) ?_ ?_;(first|omega|(simp<;>omega));intro n0 nf0 nz0);(refine Zai hbB (w.heap.size) ?_ ?_;(first|omega|(simp<;>omega));intro m0 mf0 mz0);(refine Zai hbB (g) ?_ ?_;(first|omega|(simp<;>omega));intro q0 qf0 qz0))|fail)
      all_goals
       go_wp2_with fail
       go_roundw
       case rel=>exact ⟨k+1,qo,qg,HK.out,(owx HP.out),(owx HU.out),bll⟩
       case measure=>exact qn
     | false =>
      have HF:=hdQ ((FIN.out false (by rw [nameOk2,hvr,hov,hhs];rfl)).1 rfl)
      have hlv:lv<0:=by have:=HLH.out;rw [hhs] at this;simpa using this
      go_wp2_with fail
      go_region_held3 (λw'=>w'.cell? ⟨wo.heap.size,0,none⟩=some (.int .i64 2)/\w'.cell? ⟨wo.heap.size,1,none⟩=some (str name)/\w'.cell? ⟨w.heap.size,0,none⟩=some (.slice (some ⟨b,o,none⟩) p.1.length c)/\w'.cell? ⟨w.heap.size,1,none⟩=some (.slice A2 p.2.length c2)/\w'.cell? ⟨g,k,none⟩=some (.int .i64 ov))
       (first|go_keep|((try dsimp only);refine ⟨?_, ?_, ?_, ?_, ?_⟩<;>(go_simp;done)))
       (first|(go_at_call 179;(with_reducible refine (HIV.out _).mono ?_);rintro e wB ⟨rfl,hbB⟩;have hzB:=hbB.size;(try simp at hzB);(refine Zai hbB (wo.heap.size) ?_ ?_;(first|omega|(simp<;>omega));intro n0 nf0 nz0);(refine Zai hbB (w.heap.size) ?_ ?_;(first|omega|(simp<;>omega));intro m0 mf0 mz0);(refine Zai hbB (g) ?_ ?_;(first|omega|(simp<;>omega));intro q0 qf0 qz0))|(go_at_call 180;(with_reducible refine (HA1.out _ bll).mono ?_);rintro e wB ⟨rfl,hbB⟩;have hzB:=hbB.size;(try simp at hzB);(refine Zai hbB (wo.heap.size) ?_ ?_;(first|omega|(simp<;>omega));intro n0 nf0 nz0);(refine Zai hbB (w.heap.size) ?_ ?_;(first|omega|(simp<;>omega));intro m0 mf0 mz0);(refine Zai hbB (g) ?_ ?_;(first|omega|(simp<;>omega));intro q0 qf0 qz0))|fail)
      all_goals
       go_wp2_with fail
       go_ret
       exact ⟨⟨_,rfl,by rw [HF.out];simp⟩,bll⟩
   ·
    cases har:decide (0<=arityF name) with
    | true =>
     have HK:=hdQ ((FIN.out true (by rw [nameOk8,har])).2 rfl)
     obtain ⟨an2,han⟩:∃ n,arityF name=n:=⟨_,rfl⟩
     have hn0:¬ an2<0:=by have:=of_decide_eq_true har;omega
     have HAR:=hdQ han
     go_wp2_with (first|(go_at_call 178;refine (Zei HAR.out _).mono ?_;rintro e w' ⟨rfl,rfl⟩)|fail)
     (try (go_quiet (fail);go_wp2_with (first|(go_at_call 178;refine (Zei HAR.out _).mono ?_;rintro e w' ⟨rfl,rfl⟩)|fail)))
     go_roundw
     case rel=>exact ⟨k+1,qo,qg,HK.out,(owx HP.out),(owx HU.out),bll⟩
     case measure=>exact qn
    | false =>
     have HF:=hdQ ((FIN.out false (by rw [nameOk8,har])).1 rfl)
     obtain ⟨an2,han⟩:∃ n,arityF name=n:=⟨_,rfl⟩
     have hn0:an2<0:=by have:=of_decide_eq_false har;omega
     have HAR:=hdQ han
     go_wp2_with (first|(go_at_call 178;refine (Zei HAR.out _).mono ?_;rintro e w' ⟨rfl,rfl⟩)|fail)
     (try (go_quiet (fail);go_wp2_with (first|(go_at_call 178;refine (Zei HAR.out _).mono ?_;rintro e w' ⟨rfl,rfl⟩)|fail)))
     go_ret
     exact ⟨⟨_,rfl,by rw [HF.out];simp⟩,bll⟩
   ·have HK:=hdQ ((FIN.out true (nameOk0 h2' h8')).2 rfl)
    have e2':(op==2)=false:=by simpa using h2'
    have e8':(op==8)=false:=by simpa using h8'
    go_wp2_with fail
    iterate 2 (try (go_quiet (fail);go_wp2_with fail))
    go_roundw
    case rel=>exact ⟨k+1,qo,qg,HK.out,(owx HP.out),(owx HU.out),bll⟩
    case measure=>exact qn
  ·obtain rfl:k=p.1.length:=by omega
   go_wp2_with fail
   go_ret
   exact ⟨⟨_,rfl,by rw [HT.out];rfl⟩,HB.out⟩
theorem Zgc (p:Zae):Zbd p=(Zat p&&Zbv p p.1.length&&Zb2 p p.1.length&&Zfs p p.2.length&&has p Zet p.2.length):=rfl
def OutCheck (b:Bool) (w:World) (e:Ending) (w':World):Prop:=(∃ x y:Int,e=.returned (.tuple #[.int .i64 x,.int .i64 y])/\decide (x=0)=b)/\Below w.heap.size w w'
set_option maxHeartbeats 16000000 in
theorem S_Check {A A2:Option Addr} {c c2:Nat} {p:Zae} (w:World) (h:Zdl w A c A2 c2 p) (h1:p.1.length<=1048576) (h2:p.2.length<=1048576) :
  Calls Tryz.prog 124 #[Zbs A p.1.length c A2 p.2.length c2] w (OutCheck (Zbd p) w):=by
 have H0:=hdQ h
 have HV0:=qh (∀ wx,Below w.heap.size w wx->CB_ Tryz.prog 126 #[Zbs A p.1.length c A2 p.2.length c2] wx (.bool (Zat p))) (λwx hb=>S_IsValidProgram wx (h.step hb) h1 h2)
 clear h
 cases hv:Zat p with
 | false =>
  have HF:=qh (Zbd p=false) (by rw [Zgc,hv];rfl)
  rw [hv] at HV0
  go_enter Tryz.func124,Tryz.ntmps124
  go_wp2_with (first|(go_at_call 126;refine (HV0.out _ bll).mono ?_;rintro e w1 ⟨rfl,hb1⟩;have HB1:=bh w hb1;clear hb1)|fail)
  exact bodyPost_ret (v:=.tuple #[.int .i64 1,.int .i64 0]) (by simp [results,Tryz.results124,go_sem, *]) rfl ⟨⟨_,_,rfl,by rw [HF.out];rfl⟩,HB1.out⟩
 | true =>
  have HN0:=qh (∀ wx,Below w.heap.size w wx->Calls Tryz.prog 177 #[Zbs A p.1.length c A2 p.2.length c2] wx λe w'=>(∃ r:Int,e=.returned (.int .i64 r)/\decide (0<=r) = !(Zbv p p.1.length))/\Below wx.heap.size wx w') (λwx hb=>S_l14Names wx (H0.out.step hb) hv)
  have hl1:=Zb8 hv
  have hl2:=Zbw hv
  have HAS:=qh (∀ (name:List UInt8) (before:Int) wx,Below w.heap.size w wx->CB_ Tryz.prog 180 #[Zbs A p.1.length c A2 p.2.length c2,str name,.int .i64 before] wx (.int .i64 (lastTo p name before p.2.length))) (λname before wx hb=>S_l14Assigned wx ((H0.out.step hb).2) hl2)
  have HCD:=qh (Zbd p=(Zbv p p.1.length&&Zb2 p p.1.length&&Zfs p p.2.length&&has p Zet p.2.length)) (by rw [Zgc,hv];rfl)
  rw [hv] at HV0
  clear hv
  go_enter Tryz.func124,Tryz.ntmps124
  go_wp2_with (first|(go_at_call 126;refine (HV0.out _ bll).mono ?_;rintro e w1 ⟨rfl,hb1⟩;have hz1:=hb1.size;(try simp at hz1);have HB1:=bh w hb1;have HP1:=qh (Own w1 w.heap.size 62 [.slice A p.1.length c,.slice A2 p.2.length c2]) (Own.step hb1 (Own.new w _ #[_,_]));have r0:w1.cell? ⟨w.heap.size,0,none⟩=some (.slice A p.1.length c):=HP1.out.cell 0;have r1:w1.cell? ⟨w.heap.size,1,none⟩=some (.slice A2 p.2.length c2):=HP1.out.cell 1;clear hb1)|fail)
  refine (HN0.out _ HB1.out).mono ?_
  rintro e w2 ⟨⟨r,rfl,hr⟩,hb2⟩
  have hz2:=hb2.size
  have HB2:=qh (Below w.heap.size w w2) (Below.step hb2 HB1.out HB1.out.size)
  have HP2:=qh (Own w2 w.heap.size 62 [.slice A p.1.length c,.slice A2 p.2.length c2]) (Own.step hb2 HP1.out)
  have s0:w2.cell? ⟨w.heap.size,0,none⟩=some (.slice A p.1.length c):=HP2.out.cell 0
  have s1:w2.cell? ⟨w.heap.size,1,none⟩=some (.slice A2 p.2.length c2):=HP2.out.cell 1
  clear hb2 HV0 HN0 r0 r1 HP1
  by_cases h0:0<=r
  ·have HF:=qh (Zbd p=false) (by
    have hn:Zbv p p.1.length=false:=by
     rw [decide_eq_true h0] at hr
     cases hh:Zbv p p.1.length with
     | false=>rfl
     | true=>rw [hh] at hr;cases hr
    rw [HCD.out,hn];rfl)
   go_wp2_with fail
   exact bodyPost_ret (v:=.tuple #[.int .i64 2,.int .i64 r]) (by simp [results,Tryz.results124,go_sem, *]) rfl ⟨⟨_,_,rfl,by rw [HF.out];rfl⟩,HB2.out⟩
  have HNT:=qh (Zbv p p.1.length=true) (by
   rw [decide_eq_false h0] at hr
   cases hh:Zbv p p.1.length with
   | true=>rfl
   | false=>rw [hh] at hr;cases hr)
  clear hr
  go_wp2_with fail
  go_loopw [5,6,20] (λ_ _ i wr=>∃ k:Nat,k<=p.1.length/\i=.int .i64 k/\Zb2 p k=true/\Own wr w.heap.size 62 [.slice A p.1.length c,.slice A2 p.2.length c2]/\Below w.heap.size w wr) (λ_ _ i _=>p.1.length-(RowKit.intOf i).toNat)
  case atStart=>exact ⟨0,Nat.zero_le _,rfl,rfl,HP2.out,HB2.out⟩
  case round =>
   obtain ⟨k,hk,rfl,ht,hp,hb⟩:=hrel
   obtain ⟨wo,rfl⟩:=qe wr
   have hz:=hb.size
   have hl:=hp.lt
   have HT:=hdQ ht
   have HP:=hdQ hp
   have HB:=hdQ hb
   have p0:wo.cell? ⟨w.heap.size,0,none⟩=some (.slice A p.1.length c):=hp.cell 0
   have p1:wo.cell? ⟨w.heap.size,1,none⟩=some (.slice A2 p.2.length c2):=hp.cell 1
   clear hp hb ht s0 s1 HP2 HB2
   by_cases hlt:k<p.1.length
   ·obtain ⟨b,o,A',c',rfl,hbh,hs,hr,x0,x1,x2,x3⟩:=H0.out.1.2.2 k hlt
    have d0:=(HB.out.cell (p:=⟨b,o+k*4,none⟩) hbh).trans x0
    have d1:=(HB.out.cell (p:=⟨b,o+k*4+1,none⟩) hbh).trans x1
    have d2:=(HB.out.cell (p:=⟨b,o+k*4+2,none⟩) hbh).trans x2
    have d3:=(HB.out.cell (p:=⟨b,o+k*4+3,none⟩) hbh).trans x3
    have HTS:=hdQ (aritiesTo_succ hlt)
    obtain ⟨⟨op,name,num,args⟩,hx⟩:∃ x,p.1[k]=x:=⟨_,rfl⟩
    rw [hx] at d0 d1 d2 d3 HTS
    (try dsimp only at d0 d1 d2 d3)
    have HX:=hdQ hx
    have i0:(k:Int)<p.1.length:=qo
    have i00:(0:Int)<=k:=qo
    have FIN:=qh (∀ b,Zeu (op,name,num,args)=b->(b=false->Zbd p=false)/\(b=true->Zb2 p (k+1)=true)) (λb hb=>⟨λe=>by rw [HCD.out,aritiesTo_no hlt (by rw [HX.out,hb,e])];simp,λe=>by rw [HTS.out,HT.out,hb,e];rfl⟩)
    clear x0 x1 x2 x3 hs hr hx
    by_cases h8:op=8
    ·subst h8
     obtain ⟨an2,han⟩:∃ n,arityF name=n:=⟨_,rfl⟩
     have HAR:=hdQ han
     by_cases hal:an2=args.length
     ·have HK:=hdQ ((FIN.out true (by rw [arityOk8,han,hal];simp)).2 rfl)
      have ea:(an2 != (args.length:Int))=false:=by simpa using hal
      clear hal han
      go_wp2_with fail
      go_quiet ((first|(go_at_call 178;exact Zap (Zei HAR.out _))|fail))
      go_wp2_with fail
      go_roundw
      case rel=>exact ⟨k+1,qo,qg,HK.out,(owx HP.out),bll⟩
      case measure=>exact qn
     ·have HF:=hdQ ((FIN.out false (by rw [arityOk8,han];simpa using hal)).1 rfl)
      have ea:(an2 != (args.length:Int))=true:=by simpa using hal
      clear hal han
      go_wp2_with fail
      go_quiet ((first|(go_at_call 178;exact Zap (Zei HAR.out _))|fail))
      go_wp2_with fail
      exact bodyPost_ret (v:=.tuple #[.int .i64 3,.int .i64 k]) (by simp [results,Tryz.results124,go_sem, *]) rfl ⟨⟨_,_,rfl,by rw [HF.out];rfl⟩,bll⟩
    ·have HK:=hdQ ((FIN.out true (arityOk0 h8)).2 rfl)
     have e8':(op==8)=false:=by simpa using h8
     have e8d:decide (op=8)=false:=by simpa using h8
     go_wp2_with fail
     (try (go_quiet (fail);go_wp2_with fail))
     go_roundw
     case rel=>exact ⟨k+1,qo,qg,HK.out,(owx HP.out),bll⟩
     case measure=>exact qn
   ·obtain rfl:k=p.1.length:=by omega
    go_wp2_with fail
    go_loopw [7,8,42] (λ_ _ i wr=>∃ j:Nat,j<=p.2.length/\i=.int .i64 j/\Zfs p j=true/\Own wr w.heap.size 62 [.slice A p.1.length c,.slice A2 p.2.length c2]/\Below w.heap.size w wr) (λ_ _ i _=>p.2.length-(RowKit.intOf i).toNat)
    case atStart=>exact ⟨0,Nat.zero_le _,rfl,rfl,HP.out,HB.out⟩
    case round =>
     obtain ⟨j,hj,rfl,ha,hp2,hb2⟩:=hrel
     obtain ⟨wi,rfl⟩:=qe wr
     have hz3:=hb2.size
     have hl3:=hp2.lt
     have HA:=hdQ ha
     have HP3:=hdQ hp2
     have HB3:=hdQ hb2
     have q0:wi.cell? ⟨w.heap.size,0,none⟩=some (.slice A p.1.length c):=hp2.cell 0
     have q1:wi.cell? ⟨w.heap.size,1,none⟩=some (.slice A2 p.2.length c2):=hp2.cell 1
     clear hb2 hp2 ha p0 p1
     by_cases hlj:j<p.2.length
     ·obtain ⟨b,o,rfl,hbh,hs,x0,x1⟩:=H0.out.2.2.2 j hlj
      have d0:=(HB3.out.cell (p:=⟨b,o+j*2,none⟩) hbh).trans x0
      have d1:=(HB3.out.cell (p:=⟨b,o+j*2+1,none⟩) hbh).trans x1
      have HTS:=hdQ (asssTo_succ hlj)
      obtain ⟨⟨nm,rt⟩,hx⟩:∃ x,p.2[j]=x:=⟨_,rfl⟩
      rw [hx] at d0 d1 hs HTS
      (try dsimp only at d0 d1 hs)
      have HX:=hdQ hx
      have i1:(j:Int)<p.2.length:=qo
      have i2:(0:Int)<=j:=qo
      have FIN:=qh (∀ b,assOk p j (nm,rt)=b->(b=false->Zbd p=false)/\(b=true->Zfs p (j+1)=true)) (λb hb=>⟨λe=>by rw [HCD.out,asssTo_no hlj (by rw [HX.out,hb,e])];simp,λe=>by rw [HTS.out,HA.out,hb,e];rfl⟩)
      have HA1:=qh (∀ wx,Below w.heap.size w wx->CB_ Tryz.prog 180 #[Zbs A p.1.length c (some ⟨b,o,none⟩) p.2.length c2,str nm,.int .i64 j] wx (.int .i64 (lastTo p nm j p.2.length))) (λwx hb=>HAS.out nm j wx hb)
      have HLH:=hdQ (last_has p nm j)
      generalize lastTo p nm j p.2.length=lv at *
      clear x0 x1 hs hx
      cases hvr:isVar nm with
      | true =>
       have HF:=hdQ ((FIN.out false (by unfold assOk;rw [hvr];rfl)).1 rfl)
       have HIV:=qh (∀ wx,CB_ Tryz.prog 179 #[str nm] wx (.bool true)) (λwx=>by have:=Ze8 nm wx;rw [hvr] at this;exact this)
       go_wp2_with (first|(go_at_call 179;refine (HIV.out _).mono ?_;rintro e w' ⟨rfl,hbx⟩;have HBX:=bh w hbx;clear hbx)|fail)
       exact bodyPost_ret (v:=.tuple #[.int .i64 4,.int .i64 j]) (by simp [results,Tryz.results124,go_sem, *]) rfl ⟨⟨_,_,rfl,by rw [HF.out];rfl⟩,HBX.out⟩
      | false =>
       have HIV:=qh (∀ wx,CB_ Tryz.prog 179 #[str nm] wx (.bool false)) (λwx=>by have:=Ze8 nm wx;rw [hvr] at this;exact this)
       by_cases hlv:0<=lv
       ·have HF:=hdQ ((FIN.out false (by unfold assOk;rw [hvr,<- HLH.out,decide_eq_true hlv];rfl)).1 rfl)
        go_wp2_with (first|(go_at_call 179;refine (HIV.out _).mono ?_;rintro e w' ⟨rfl,hbx⟩;have hzx:=hbx.size;(try simp at hzx);have HBX:=bh w hbx;have HPX:=qh (Own w' w.heap.size 62 [.slice A p.1.length c,.slice (some ⟨b,o,none⟩) p.2.length c2]) (Own.step hbx (owx HP3.out));have v0:w'.cell? ⟨w.heap.size,0,none⟩=some (.slice A p.1.length c):=HPX.out.cell 0;have v1:w'.cell? ⟨w.heap.size,1,none⟩=some (.slice (some ⟨b,o,none⟩) p.2.length c2):=HPX.out.cell 1;have u0:=λo=>hbx.cell (p:=⟨wi.heap.size,o,none⟩) omm;clear hbx)|(go_at_call 180;refine (HA1.out _ HBX.out).mono ?_;rintro e w4 ⟨rfl,hby⟩;have HBY:=qh (Below w.heap.size w w4) (Below.step hby HBX.out HBX.out.size);clear hby)|fail)
        exact bodyPost_ret (v:=.tuple #[.int .i64 4,.int .i64 j]) (by simp [results,Tryz.results124,go_sem, *]) rfl ⟨⟨_,_,rfl,by rw [HF.out];rfl⟩,HBY.out⟩
       ·have HK:=hdQ ((FIN.out true (by unfold assOk;rw [hvr,<- HLH.out,decide_eq_false hlv];rfl)).2 rfl)
        go_wp2_with (first|(go_at_call 179;refine (HIV.out _).mono ?_;rintro e w' ⟨rfl,hbx⟩;have hzx:=hbx.size;(try simp at hzx);have HBX:=bh w hbx;have HPX:=qh (Own w' w.heap.size 62 [.slice A p.1.length c,.slice (some ⟨b,o,none⟩) p.2.length c2]) (Own.step hbx (owx HP3.out));have v0:w'.cell? ⟨w.heap.size,0,none⟩=some (.slice A p.1.length c):=HPX.out.cell 0;have v1:w'.cell? ⟨w.heap.size,1,none⟩=some (.slice (some ⟨b,o,none⟩) p.2.length c2):=HPX.out.cell 1;have u0:=λo=>hbx.cell (p:=⟨wi.heap.size,o,none⟩) omm;clear hbx)|(go_at_call 180;refine (HA1.out _ HBX.out).mono ?_;rintro e w4 ⟨rfl,hby⟩;have HBY:=qh (Below w.heap.size w w4) (Below.step hby HBX.out HBX.out.size);have HPY:=qh (Own w4 w.heap.size 62 [.slice A p.1.length c,.slice (some ⟨b,o,none⟩) p.2.length c2]) (Own.step hby HPX.out);clear hby)|fail)
        go_roundw
        case rel=>exact ⟨j+1,qo,qg,HK.out,HPY.out,HBY.out⟩
        case measure=>exact qn
     ·obtain rfl:j=p.2.length:=by omega
      have HA1:=qh (∀ wx,Below w.heap.size w wx->CB_ Tryz.prog 180 #[Zbs A p.1.length c A2 p.2.length c2,.string ⟨#[99,111,108,111,114]⟩,.int .i64 p.2.length] wx (.int .i64 (lastTo p Zet p.2.length p.2.length))) (λwx hb=>HAS.out Zet p.2.length wx hb)
      have HLH:=hdQ (last_has p Zet p.2.length)
      have HCE:=qh (Zbd p=has p Zet p.2.length) (by rw [HCD.out,HNT.out,HT.out,HA.out];rfl)
      generalize lastTo p Zet p.2.length p.2.length=lv at *
      by_cases hlv:0<=lv
      ·have HF:=qh (Zbd p=true) (by rw [HCE.out,<- HLH.out,decide_eq_true hlv])
       have hlv2:¬ lv<0:=qo
       go_wp2_with (first|(go_at_call 180;refine (HA1.out _ HB3.out).mono ?_;rintro e w4 ⟨rfl,hby⟩;have HBY:=qh (Below w.heap.size w w4) (Below.step hby HB3.out HB3.out.size);clear hby)|fail)
       exact bodyPost_ret (v:=.tuple #[.int .i64 0,.int .i64 0]) (by simp [results,Tryz.results124,go_sem, *]) rfl ⟨⟨_,_,rfl,by rw [HF.out];rfl⟩,HBY.out⟩
      ·have HF:=qh (Zbd p=false) (by rw [HCE.out,<- HLH.out,decide_eq_false hlv])
       have hlv2:lv<0:=qo
       go_wp2_with (first|(go_at_call 180;refine (HA1.out _ HB3.out).mono ?_;rintro e w4 ⟨rfl,hby⟩;have HBY:=qh (Below w.heap.size w w4) (Below.step hby HB3.out HB3.out.size);clear hby)|fail)
       exact bodyPost_ret (v:=.tuple #[.int .i64 5,.int .i64 0]) (by simp [results,Tryz.results124,go_sem, *]) rfl ⟨⟨_,_,rfl,by rw [HF.out];rfl⟩,HBY.out⟩
theorem I_notOne (n:Int) (w:World):Calls Tryz.prog 156 #[.int .i64 n] w λe w'=>e=.returned (.bool (n != 1))/\w=w':=by
 go_enter Tryz.func156,Tryz.ntmps156
 go_wp2_with fail
 go_ret
 exact ⟨rfl,rfl⟩
theorem I_notOne_is {n:Int} {b:Bool} (h:(n != 1)=b) (w:World):Calls Tryz.prog 156 #[.int .i64 n] w λe w'=>e=.returned (.bool b)/\w=w':=by
 subst h;exact I_notOne n w
theorem I_IndexFunc {g n:Nat} {us:List Nat} (w:World) (h:Own w g 3 (ints (Zgb n us))) (hn:n<=1048576) :
  Calls Tryz.prog 213 #[sl g n,.func (.func 156) #[] #[]] w λe w'=>(∃ r:Int,e=.returned (.int .i64 r)/\(decide (0<=r)) = !(Ze0 us n))/\w=w':=by
 have HO:=hdQ h
 have hgl:=h.lt
 clear h
 go_enter Tryz.func213,Tryz.ntmps213
 go_wp2_with fail
 go_loop [5,8] (λ_ i=>∃ m:Nat,m<=n/\i=.int .i64 m/\Ze0 us m=true) (λ_ i=>n-(RowKit.intOf i).toNat)
 case atStart=>exact ⟨0,Nat.zero_le _,rfl,rfl⟩
 case round =>
  obtain ⟨m,hm,rfl,hones⟩:=hrel
  have HON:=hdQ hones
  clear hones
  by_cases hlm:m<n
  ·have e2:w.cell? ⟨g,m,none⟩=some (.int .i64 (us.count m:Int)):=by rw [HO.out.cell,Zga hlm]
   have i1:(m:Int)<n:=qo
   have i2:(0:Int)<=m:=qo
   by_cases hone:us.count m=1
   ·have HK:=qh (Ze0 us (m+1)=true) (by rw [onesTo_succ,HON.out,hone];rfl)
    rw [hone] at e2
    go_wp2_with (first|(go_at_call 156;refine (I_notOne_is (b:=false) qr _).mono ?_;rintro e w' ⟨rfl,rfl⟩)|fail)
    go_round
    case rel=>exact ⟨m+1,qo,qg,HK.out⟩
    case measure=>exact qn
   ·have HF:=qh (Ze0 us n=false) (onesTo_no hlm hone)
    generalize us.count m=q at *
    have hq:((q:Int) != 1)=true:=by simp;omega
    go_wp2_with (first|(go_at_call 156;refine (I_notOne_is hq _).mono ?_;rintro e w' ⟨rfl,rfl⟩)|fail)
    go_ret
    exact ⟨⟨_,rfl,by rw [HF.out];simp⟩,rfl⟩
  ·obtain rfl:m=n:=by omega
   go_wp2_with fail
   go_ret
   exact ⟨⟨_,rfl,by rw [HON.out];rfl⟩,rfl⟩
theorem I_ContainsFunc {g n:Nat} {us:List Nat} (w:World) (h:Own w g 3 (ints (Zgb n us))) (hn:n<=1048576) :
  Calls Tryz.prog 155 #[sl g n,.func (.func 156) #[] #[]] w λe w'=>e=.returned (.bool (!(Ze0 us n)))/\w=w':=by
 have HO:=hdQ h
 clear h
 go_enter Tryz.func155,Tryz.ntmps155
 go_wp2_with fail
 refine (I_IndexFunc _ HO.out hn).mono ?_
 rintro e w' ⟨⟨r,rfl,hr⟩,rfl⟩
 have HR:=hdQ hr
 clear hr
 go_wp2_with fail
 go_ret
 exact ⟨Zad HR.out,rfl⟩
theorem I_IsValidProgram {A A2:Option Addr} {c c2:Nat} {p:Zae} (w:World) (h:Zdl w A c A2 c2 p) (h1:p.1.length<=1048576) (h2:p.2.length<=1048576) :
  Calls Tryz.prog 94 #[Zbs A p.1.length c A2 p.2.length c2] w λe w'=>e=.returned (.bool (Zat p))/\Below w.heap.size w w':=by
 have H0:=hdQ h
 clear h
 have hwn:IntKind.i64.wrap ((p.1.length:Int)-1)=(p.1.length:Int)-1:=IntWalk.i64_in _ qo
 have HBX:=qh (Below w.heap.size w (w.alloc (.cells #[.slice A p.1.length c,.slice A2 p.2.length c2] 62))) bll
 by_cases h60:p.1.length<=60
 rotate_left
 ·have h60':(60:Int)<p.1.length:=by omega
  have HF:=qh (Zat p=false) (by rw [Zc2];simp [h60])
  go_enter Tryz.func94,Tryz.ntmps94
  go_wp2_with fail
  go_ret
  exact ⟨Zad HF.out.symm,HBX.out⟩
 have hmk:∀ wx:World,(Instr.makeSlice 24 (.int .i64 p.1.length) (.int .i64 p.1.length)).run Tryz.prog wx=.ok (.slice (some ⟨wx.heap.size,0,none⟩) p.1.length p.1.length) (wx.alloc (.cells (madeCells #[Value.int .i64 0] p.1.length) 3)):=by
  intro wx
  have:=run_mk (P:=Tryz.prog) 24 3 _ 1 8 Tryz.underlying24 T.infoInt p.1.length qo qo wx
  simp only [Nat.mul_one] at this
  exact this
 have HP0:=qh (Own ((w.alloc (.cells #[.slice A p.1.length c,.slice A2 p.2.length c2] 62)).alloc (.cells (madeCells #[Value.int .i64 0] p.1.length) 3)) w.heap.size 62 [.slice A p.1.length c,.slice A2 p.2.length c2]) (Own.alloc (Own.new w _ #[_,_]) _)
 have HU0:=qh (Own ((w.alloc (.cells #[.slice A p.1.length c,.slice A2 p.2.length c2] 62)).alloc (.cells (madeCells #[Value.int .i64 0] p.1.length) 3)) (w.heap.size+1) 3 (ints (Zgb p.1.length (Zar p 0)))) (by rw [show Zar p 0=[] from rfl,cntL_nil,<- zeros_ints];exact Own.at_new qs)
 have n60:¬ (60:Int)<p.1.length:=qo
 go_enter Tryz.func94,Tryz.ntmps94
 go_wp2_with fail
 clear hmk
 go_loopw [4,5,7,21] (λ_ _ _ i wr=>∃ k:Nat,k<=p.1.length/\i=.int .i64 k/\Zbg p k=true/\Own wr w.heap.size 62 [.slice A p.1.length c,.slice A2 p.2.length c2]/\Own wr (w.heap.size+1) 3 (ints (Zgb p.1.length (Zar p k)))/\Below w.heap.size w wr) (λ_ _ _ i _=>p.1.length-(RowKit.intOf i).toNat)
 case atStart=>exact ⟨0,Nat.zero_le _,rfl,rfl,HP0.out,HU0.out,bll⟩
 case round =>
  obtain ⟨k,hk,rfl,ht,hp,hu,hb⟩:=hrel
  obtain ⟨wo,rfl⟩:=qe wr
  have hz:=hb.size
  have hl:=hu.lt
  have HT:=hdQ ht
  have HP:=hdQ hp
  have HU:=hdQ hu
  have HB:=hdQ hb
  have p0:wo.cell? ⟨w.heap.size,0,none⟩=some (.slice A p.1.length c):=hp.cell 0
  have p1:wo.cell? ⟨w.heap.size,1,none⟩=some (.slice A2 p.2.length c2):=hp.cell 1
  clear hp hu hb ht HP0 HU0 HBX
  by_cases hlt:k<p.1.length
  ·
   obtain ⟨b,o,A',c',rfl,hbh,hs,hr,x0,x1,x2,x3⟩:=H0.out.1.2.2 k hlt
   have d0:=(HB.out.cell (p:=⟨b,o+k*4,none⟩) hbh).trans x0
   have d1:=(HB.out.cell (p:=⟨b,o+k*4+1,none⟩) hbh).trans x1
   have d2:=(HB.out.cell (p:=⟨b,o+k*4+2,none⟩) hbh).trans x2
   have d3:=(HB.out.cell (p:=⟨b,o+k*4+3,none⟩) hbh).trans x3
   clear x0 x1 x2 x3
   obtain ⟨⟨op,name,num,args⟩,hx⟩:∃ x,p.1[k]=x:=⟨_,rfl⟩
   rw [hx] at d0 d1 d2 d3 hr hs
   (try dsimp only at d0 d1 d2 d3 hr hs)
   have HX:=hdQ hx
   have HR:=hdQ hr
   have HS:=hdQ hs
   have i0:(k:Int)<p.1.length:=qo
   have i00:(0:Int)<=k:=qo
   have HTS:=hdQ (Ze1 hlt)
   rw [HX.out] at HTS
   have hk1:IntKind.i64.wrap ((k:Int)-1)=(k:Int)-1:=IntWalk.i64_in _ qo
   have HCN:=qh (∀ wx,Below w.heap.size w wx->CB_ Tryz.prog 153 #[vNode op name num A' args.length c'] wx (.bool (Zdc (op,name,num,args)))) (λwx hbx=>I_validNode wx HS.out (RS.step hbx HR.out))
   have HCA:=qh (∀ wx,Below w.heap.size w wx->Calls Tryz.prog 138 #[.slice A' args.length c',.int .i64 0,.int .i64 ((k:Int)-1)] wx λe w'=>e=.returned (.bool (argsOk k args))/\wx=w') (λwx hbx=>I_allWithin A' c' args 0 ((k:Int)-1) wx (RS.step hbx HR.out))
   have FIN:=qh (∀ b,Zdb k (op,name,num,args)=b->(b=false->Zat p=false)/\(b=true->Zbg p (k+1)=true)) (λb hb=>⟨λe=>by rw [Zc2,nodesTo_no hlt (by rw [HX.out,hb,e])];simp,λe=>by rw [HTS.out,HT.out,hb,e];rfl⟩)
   cases hfd:Zdc (op,name,num,args) with
   | false =>
    have HF:=hdQ ((FIN.out false (by rw [Zfn,hfd];rfl)).1 rfl)
    rw [hfd] at HCN
    clear hx hr hs
    go_wp2_with (first|(go_at_call 153;refine (HCN.out _ bll).mono ?_;rintro e w' ⟨rfl,hbx⟩;have hzx:=hbx.size;(try simp at hzx);have HBX:=hdQ hbx;clear hbx)|fail)
    (try (go_region_held3 (λw'=>True) (first|go_keep|trivial) (first|(go_at_call 153;(with_reducible refine (HCN.out _ bll).mono ?_);rintro e w' ⟨rfl,hbx⟩;have hzx:=hbx.size;(try simp at hzx))|fail)))
    all_goals
     go_wp2_with fail
     go_ret
     exact ⟨Zad HF.out.symm,by first|exact Below.step HBX.out bll omm|exact bll⟩
   | true =>
    rw [hfd] at HCN
    cases hag:argsOk k args with
    | false =>
     have HF:=hdQ ((FIN.out false (by rw [Zfn,hfd,hag];rfl)).1 rfl)
     rw [hag] at HCA
     clear hx hr hs
     go_wp2_with (first|(go_at_call 153;refine (HCN.out _ bll).mono ?_;rintro e w' ⟨rfl,hbx⟩;have hzx:=hbx.size;(try simp at hzx);have u0:=λo=>hbx.cell (p:=⟨wo.heap.size,o,none⟩) omm;have HBX:=hdQ hbx;have HBY:=bh w hbx;clear hbx)|(go_at_call 138;refine (HCA.out _ HBY.out).mono ?_;rintro e w' ⟨rfl,rfl⟩)|fail)
     go_ret
     exact ⟨Zad HF.out.symm,HBY.out⟩
    | true =>
     have HK:=hdQ ((FIN.out true (by rw [Zfn,hfd,hag];rfl)).2 rfl)
     rw [hag] at HCA
     have HUL:=qh ((Zar p k).length<=3*k) (Ze2 k qo HT.out)
     have HOK:=qh (args.length<=3/\∀ a∈args,0<=a/\a<k) (Zeo (x:=(op,name,num,args)) (by rw [Zfn,hfd,hag];rfl))
     clear hx hr hs
     have ha3:=HOK.out.1
     go_wp2_with (first|(go_at_call 153;refine (HCN.out _ bll).mono ?_;rintro e w' ⟨rfl,hbx⟩;have hzx:=hbx.size;(try simp at hzx);have u0:=λo=>hbx.cell (p:=⟨wo.heap.size,o,none⟩) omm;have HBX:=hdQ hbx;have HBY:=bh w hbx;have HPY:=qh (Own w' w.heap.size 62 [.slice (some ⟨b,o,none⟩) p.1.length c,.slice A2 p.2.length c2]) (Own.step hbx (owx HP.out));have HUY:=qh (Own w' (w.heap.size+1) 3 (ints (Zgb p.1.length (Zar p k)))) (Own.step hbx (owx HU.out));clear hbx)|(go_at_call 138;refine (HCA.out _ HBY.out).mono ?_;rintro e w' ⟨rfl,rfl⟩)|fail)
     clear HP HU HB
     have HP:=HPY;have HU:=HUY;have HB:=HBY
     clear HPY HUY HBY
     go_loopw [7,40] (λ_ i wr=>∃ j:Nat,j<=args.length/\i=.int .i64 j/\Own wr w.heap.size 62 [.slice (some ⟨b,o,none⟩) p.1.length c,.slice A2 p.2.length c2]/\Own wr (w.heap.size+1) 3 (ints (Zgb p.1.length (Zar p k++(args.take j).map Int.toNat)))/\Below w.heap.size w wr) (λ_ i _=>args.length-(RowKit.intOf i).toNat)
     case atStart=>exact ⟨0,Nat.zero_le _,rfl,(owx HP.out),by rw [List.take_zero,List.map_nil,List.append_nil];exact (owx HU.out),bll⟩
     case round =>
      obtain ⟨j,hj,rfl,hp2,hu2,hb2⟩:=hrel
      obtain ⟨wi,rfl⟩:=qe wr
      have hz2:=hb2.size
      have hl2:=hu2.lt
      have HP2:=hdQ hp2
      have HU2:=hdQ hu2
      have HB2:=hdQ hb2
      have q0:wi.cell? ⟨w.heap.size,0,none⟩=some (.slice (some ⟨b,o,none⟩) p.1.length c):=hp2.cell 0
      have q1:wi.cell? ⟨w.heap.size,1,none⟩=some (.slice A2 p.2.length c2):=hp2.cell 1
      clear hp2 hb2
      by_cases hlj:j<args.length
      ·obtain ⟨b2,o2,rfl,hbh2,hcell2⟩:=(RS.step HB2.out HR.out).open_.2.2 qo
       have e1:wi.cell? ⟨b2,o2+j,none⟩=some (.int .i64 args[j]):=by rw [hcell2 j qo,Zdf hlj]
       have hin:=HOK.out.2 _ (List.getElem_mem hlj)
       obtain ⟨m,hm⟩:∃ m:Nat,args[j]=m:=⟨args[j].toNat,qo⟩
       have hmn:m<p.1.length:=qo
       rw [hm] at e1
       have e2:wi.cell? ⟨w.heap.size+1,m,none⟩=some (.int .i64 ((Zar p k++(args.take j).map Int.toNat).count m:Int)):=by rw [hu2.cell,Zga hmn]
       have e3:wi.frozen? ⟨w.heap.size+1,m,none⟩=false:=hu2.frozen _
       have hcl:(Zar p k++(args.take j).map Int.toNat).count m<=3*k+j:=by
        have h1:=count_le (l:=Zar p k++(args.take j).map Int.toNat) m
        have h2:=HUL.out
        rw [List.length_append,List.length_map] at h1
        have h3:(args.take j).length<=j:=by rw [List.length_take];omega
        omega
       have HNX:Hid ((ints (Zgb p.1.length (Zar p k++(args.take j).map Int.toNat))).set m (.int .i64 (((Zar p k++(args.take j).map Int.toNat).count m:Int)+1))=ints (Zgb p.1.length (Zar p k++(args.take (j+1)).map Int.toNat))):=hdQ (by
        rw [cntL_snoc hmn,List.take_succ_eq_append_getElem hlj,List.map_append,<- List.append_assoc]
        simp [hm])
       generalize (Zar p k++(args.take j).map Int.toNat).count m=q at *
       have hw1:IntKind.i64.wrap ((q:Int)+1)=q+1:=IntWalk.i64_in _ qo
       have i1:(j:Int)<args.length:=qo
       have i2:(m:Int)<p.1.length:=qo
       have i3:(0:Int)<=m:=qo
       clear hcell2 hu2 hin hm
       go_wp2_with fail
       go_roundw
       case rel=>exact ⟨j+1,qo,qg,(owx HP2.out),by rw [<- HNX.out];exact Own.set_ HU2.out m _,bll⟩
       case measure=>exact qn
      ·obtain rfl:j=args.length:=by omega
       have HUX:=qh (Own wi (w.heap.size+1) 3 (ints (Zgb p.1.length (Zar p (k+1))))) (by have:=HU2.out;rw [List.take_length] at this;rw [Zf3 hlt,HX.out];exact this)
       clear hu2
       go_wp2_with fail
       go_roundw
       case rel=>exact ⟨k+1,qo,qg,HK.out,(owx HP2.out),HUX.out,bll⟩
       case measure=>exact qn
  ·obtain rfl:k=p.1.length:=by omega
   have HUR:=qh (Own wo (w.heap.size+1) 3 (ints (Zgb p.1.length (Za3 p 0)))) (by unfold Za3;rw [List.take_zero,List.append_nil,<- nodeUses_all];exact HU.out)
   go_wp2_with fail
   go_loopw [9,55] (λ_ i wr=>∃ j:Nat,j<=p.2.length/\i=.int .i64 j/\Zbp p j=true/\Own wr w.heap.size 62 [.slice A p.1.length c,.slice A2 p.2.length c2]/\Own wr (w.heap.size+1) 3 (ints (Zgb p.1.length (Za3 p j)))/\Below w.heap.size w wr) (λ_ i _=>p.2.length-(RowKit.intOf i).toNat)
   case atStart=>exact ⟨0,Nat.zero_le _,rfl,rfl,HP.out,HUR.out,HB.out⟩
   case round =>
    obtain ⟨j,hj,rfl,ha,hp2,hu2,hb2⟩:=hrel
    obtain ⟨wi,rfl⟩:=qe wr
    have hz2:=hb2.size
    have hl2:=hu2.lt
    have HA:=hdQ ha
    have HP2:=hdQ hp2
    have HU2:=hdQ hu2
    have HB2:=hdQ hb2
    have q0:wi.cell? ⟨w.heap.size,0,none⟩=some (.slice A p.1.length c):=hp2.cell 0
    have q1:wi.cell? ⟨w.heap.size,1,none⟩=some (.slice A2 p.2.length c2):=hp2.cell 1
    clear hb2 hp2 ha hu2 HUR
    by_cases hlj:j<p.2.length
    ·obtain ⟨b,o,rfl,hbh,hs,x0,x1⟩:=H0.out.2.2.2 j hlj
     have d0:=(HB2.out.cell (p:=⟨b,o+j*2,none⟩) hbh).trans x0
     have d1:=(HB2.out.cell (p:=⟨b,o+j*2+1,none⟩) hbh).trans x1
     have HAS:=hdQ (assignsTo_succ hlj)
     obtain ⟨⟨nm,rt⟩,hx⟩:∃ x,p.2[j]=x:=⟨_,rfl⟩
     rw [hx] at d0 d1 hs HAS
     (try dsimp only at d0 d1 hs)
     have HX:=hdQ hx
     have i1:(j:Int)<p.2.length:=qo
     have i2:(0:Int)<=j:=qo
     have HQ:=qh (∀ wx,CB_ Tryz.prog 154 #[str nm] wx (.bool (Za9 nm))) (λwx=>I_IsIdentifier wx hs)
     clear x0 x1 hs hx
     have FIN:=qh (∀ b:Bool,Zbz p.1.length (nm,rt)=b->(b=false->Zat p=false)/\(b=true->Zbp p (j+1)=true)) (λb hb=>⟨λe=>by rw [Zc2,assignsTo_no hlj (by rw [HX.out,hb,e])];simp,λe=>by rw [HAS.out,HA.out,hb,e];rfl⟩)
     cases hid:Za9 nm with
     | false =>
      have HF:=hdQ ((FIN.out false (by unfold Zbz;rw [hid];rfl)).1 rfl)
      rw [hid] at HQ
      go_wp2_with (first|(go_at_call 154;refine (HQ.out _).mono ?_;rintro e w' ⟨rfl,hbx⟩;have hzx:=hbx.size;(try simp at hzx);have HBY:=bh w hbx;clear hbx)|fail)
      go_ret
      exact ⟨Zad HF.out.symm,HBY.out⟩
     | true =>
      rw [hid] at HQ
      cases hin:inB rt 0 ((p.1.length:Int)-1) with
      | false =>
       have HF:=hdQ ((FIN.out false (by unfold Zbz;rw [hid];exact hin)).1 rfl)
       go_wp2_with (first|(go_at_call 154;refine (HQ.out _).mono ?_;rintro e w' ⟨rfl,hbx⟩;have hzx:=hbx.size;(try simp at hzx);have u0:=λo=>hbx.cell (p:=⟨wi.heap.size,o,none⟩) omm;have HPY:=qh (Own w' w.heap.size 62 [.slice A p.1.length c,.slice (some ⟨b,o,none⟩) p.2.length c2]) (Own.step hbx (owx HP2.out));have v0:w'.cell? ⟨w.heap.size,0,none⟩=some (.slice A p.1.length c):=HPY.out.cell 0;have HBY:=bh w hbx;clear hbx)|(go_at_call 77;refine (Zbx hin _).mono ?_;rintro e w' ⟨rfl,rfl⟩)|fail)
       go_ret
       exact ⟨Zad HF.out.symm,HBY.out⟩
      | true =>
       have HK:=hdQ ((FIN.out true (by unfold Zbz;rw [hid];exact hin)).2 rfl)
       have hinB:=Zbk hin
       obtain ⟨m,hm⟩:∃ m:Nat,rt=m:=⟨rt.toNat,qo⟩
       have hmn:m<p.1.length:=qo
       have HNX:=qh ((ints (Zgb p.1.length (Za3 p j))).set m (.int .i64 (((Za3 p j).count m:Int)+1))=ints (Zgb p.1.length (Za3 p (j+1)))) (by rw [cntL_snoc hmn,rootUses_succ hlj,HX.out,hm];rfl)
       have hcl:(Za3 p j).count m<=3*p.1.length+j:=Nat.le_trans (count_le m) (rootUses_len HT.out j)
       have E2:=qh (∀ wx,Own wx (w.heap.size+1) 3 (ints (Zgb p.1.length (Za3 p j)))->wx.cell? ⟨w.heap.size+1,m,none⟩=some (.int .i64 ((Za3 p j).count m:Int))/\wx.frozen? ⟨w.heap.size+1,m,none⟩=false) (λwx h=>⟨by rw [h.cell,Zga hmn],h.frozen _⟩)
       generalize (Za3 p j).count m=q at *
       have hw1:IntKind.i64.wrap ((q:Int)+1)=q+1:=IntWalk.i64_in _ qo
       have i3:(m:Int)<p.1.length:=qo
       have i4:(0:Int)<=m:=qo
       subst hm
       clear hinB
       go_wp2_with (first|(go_at_call 154;refine (HQ.out _).mono ?_;rintro e w' ⟨rfl,hbx⟩;have hzx:=hbx.size;(try simp at hzx);have u0:=λo=>hbx.cell (p:=⟨wi.heap.size,o,none⟩) omm;have HPY:=qh (Own w' w.heap.size 62 [.slice A p.1.length c,.slice (some ⟨b,o,none⟩) p.2.length c2]) (Own.step hbx (owx HP2.out));have v0:w'.cell? ⟨w.heap.size,0,none⟩=some (.slice A p.1.length c):=HPY.out.cell 0;have HBY:=bh w hbx;have HUY:=qh (Own w' (w.heap.size+1) 3 (ints (Zgb p.1.length (Za3 p j)))) (Own.step hbx (owx HU2.out));obtain ⟨g2,g3⟩:=E2.out _ HUY.out;clear hbx)|(go_at_call 77;refine (Zbx hin _).mono ?_;rintro e w' ⟨rfl,rfl⟩)|fail)
       go_roundw
       case rel=>exact ⟨j+1,qo,qg,HK.out,(owx HPY.out),by rw [<- HNX.out];exact Own.set_ HUY.out m _,bll⟩
       case measure=>exact qn
    ·obtain rfl:j=p.2.length:=by omega
     have HUE:=qh (Own wi (w.heap.size+1) 3 (ints (Zgb p.1.length (usesP p)))) (by rw [<- rootUses_all];exact HU2.out)
     have HF:=qh (Zat p=Ze0 (usesP p) p.1.length) (by rw [Zc2,HT.out,HA.out];simp [h60])
     go_wp2_with (first|(go_at_call 155;refine (I_ContainsFunc _ HUE.out h1).mono ?_;rintro e w' ⟨rfl,rfl⟩)|fail)
     go_ret
     exact ⟨Zad (by rw [HF.out]),HB2.out⟩
end Go.Proofs.YticdknjoapdmeaaGreatDoor
namespace Go.Proofs.YticdknjoapdmeaaGreatDoor
set_option maxHeartbeats 32000000
set_option maxRecDepth 100000
open Go.RowKit Go.Lib Go.Maps Go.WideMaps
theorem first_in {p:Zae} {j:Nat} (hj:j<p.2.length):∃ f,Zbc p p.2[j].1 p.2.length=some f:=by
 cases h:Zbc p p.2[j].1 p.2.length with
 | some f=>exact ⟨f,rfl⟩
 | none=>exact absurd rfl (Ze5 (Nat.le_refl _) h j hj hj)
theorem first_color (p:Zae) (name:List UInt8):(Zbc p name p.2.length).isSome=has p name p.2.length:=by
 rw [<- first_has]
 cases h:Zbc p name p.2.length with
 | none=>rfl
 | some f =>
  obtain ⟨h1,_⟩:=firstTo_some (Nat.le_refl _) h
  simp;omega
theorem I_Check {A A2:Option Addr} {c c2:Nat} {p:Zae} (w:World) (h:Zdl w A c A2 c2 p) (h1:p.1.length<=1048576) (h2:p.2.length<=1048576) :
  Calls Tryz.prog 139 #[Zbs A p.1.length c A2 p.2.length c2] w (OutCheck (Zbd p) w):=by
 have H0:=hdQ h
 have HV0:=qh (∀ wx,Below w.heap.size w wx->CB_ Tryz.prog 94 #[Zbs A p.1.length c A2 p.2.length c2] wx (.bool (Zat p))) (λwx hb=>I_IsValidProgram wx (h.step hb) h1 h2)
 clear h
 cases hv:Zat p with
 | false =>
  have HF:=qh (Zbd p=false) (by rw [Zgc,hv];rfl)
  rw [hv] at HV0
  go_enter Tryz.func139,Tryz.ntmps139
  go_wp2_with (first|(go_at_call 94;refine (HV0.out _ bll).mono ?_;rintro e w1 ⟨rfl,hb1⟩;have HB1:=bh w hb1;clear hb1)|fail)
  exact bodyPost_ret (v:=.tuple #[.int .i64 1,.int .i64 0]) (by simp [results,Tryz.results139,go_sem, *]) rfl ⟨⟨_,_,rfl,by rw [HF.out];rfl⟩,HB1.out⟩
 | true =>
  have hl1:=Zb8 hv
  have hl2:=Zbw hv
  have HAS:=qh (∀ wx,Below w.heap.size w wx->Calls Tryz.prog 198 #[Zbs A p.1.length c A2 p.2.length c2] wx λe w'=>∃ B D,e=.returned (.map (some B))/\Zee w' B p.2.length D/\IsFirst p p.2.length D/\wx.heap.size<=B/\Below wx.heap.size wx w') (λwx hb=>I_assigned wx ((H0.out.step hb).2) hl2)
  have HOW:=qh (∀ wx,Below w.heap.size w wx->Calls Tryz.prog 199 #[Zbs A p.1.length c A2 p.2.length c2] wx λe w'=>∃ g,e=.returned (sl g p.1.length)/\Own w' g 3 (ints (ownP p))/\wx.heap.size<=g/\Below wx.heap.size wx w') (λwx hb=>I_owners wx (H0.out.step hb) hv)
  have HCD:=qh (Zbd p=(Zbv p p.1.length&&Zb2 p p.1.length&&Zfs p p.2.length&&has p Zet p.2.length)) (by rw [Zgc,hv];rfl)
  rw [hv] at HV0
  clear hv
  go_enter Tryz.func139,Tryz.ntmps139
  go_upto_region 3 with (first|(go_at_call 94;refine (HV0.out _ bll).mono ?_;rintro e w1 ⟨rfl,hb1⟩;have hz1:=hb1.size;(try simp at hz1);have HB1:=bh w hb1;have HP1:=qh (Own w1 w.heap.size 62 [.slice A p.1.length c,.slice A2 p.2.length c2]) (Own.step hb1 (Own.new w _ #[_,_]));have r0:w1.cell? ⟨w.heap.size,0,none⟩=some (.slice A p.1.length c):=HP1.out.cell 0;have r1:w1.cell? ⟨w.heap.size,1,none⟩=some (.slice A2 p.2.length c2):=HP1.out.cell 1;clear hb1)|fail)
  go_cut [4,5] (λs4 s5 wx=>∃ (B g:Nat) (D:DataW Unit),s4=.map (some B)/\s5=sl g p.1.length/\Zee wx B p.2.length D/\IsFirst p p.2.length D/\Own wx g 3 (ints (ownP p))/\Own wx w.heap.size 62 [.slice A p.1.length c,.slice A2 p.2.length c2]/\Below w.heap.size w wx/\w.heap.size<g/\w.heap.size<B)
  case first =>
   go_region_held3 (λw'=>w'.cell? ⟨w.heap.size,0,none⟩=some (.slice A p.1.length c)/\w'.cell? ⟨w.heap.size,1,none⟩=some (.slice A2 p.2.length c2))
    (first|go_keep|((try dsimp only);refine ⟨?_, ?_⟩<;>(go_simp;done)))
    (first|(go_at_call 198;(with_reducible refine (HAS.out _ bll).mono ?_);rintro e wA ⟨B,D,rfl,hmA,hfA,hgA,hbA⟩;have hzA:=hbA.size;(try simp at hzA hgA);(refine Zai hbA (w.heap.size) ?_ ?_;(first|omega|(simp<;>omega));intro n0 nf0 nz0))|(go_at_call 199;(with_reducible refine (HOW.out _ bll).mono ?_);rintro e wB ⟨g,rfl,hoB,hgB,hbB⟩;have hzB:=hbB.size;(try simp at hzB hgB);(refine Zai hbB (w.heap.size) ?_ ?_;(first|omega|(simp<;>omega));intro m0 mf0 mz0))|fail)
   all_goals
    go_wp2_with fail
    go_meet
    refine ⟨B,g,D,rfl,rfl, ?_,hfA, ?_,(owx HP1.out),bll, ?_, ?_⟩
    ·first|exact hmA|exact Zee.step hmA hbB
    ·first|exact hoB|exact Own.step hbA hoB
    ·omega
    ·omega
  case rest =>
  obtain ⟨B,g,D,rfl,rfl,hm2,hf2,ho2,hp2,hb2,hg2,hB2⟩:=hcut
  obtain ⟨w2,rfl⟩:=qe wc
  have HB2:=hdQ hb2
  have HP2:=hdQ hp2
  have HM2:=hdQ hm2
  have HO2:=hdQ ho2
  have HFI:=hdQ hf2
  have s0:w2.cell? ⟨w.heap.size,0,none⟩=some (.slice A p.1.length c):=HP2.out.cell 0
  have s1:w2.cell? ⟨w.heap.size,1,none⟩=some (.slice A2 p.2.length c2):=HP2.out.cell 1
  clear hb2 hp2 hm2 ho2 hf2 HV0 HAS HOW r0 r1 HP1 HB1
  go_wp2_with fail
  go_loopw [6,7,24] (λ_ _ i wr=>∃ k:Nat,k<=p.1.length/\i=.int .i64 k/\Zbv p k=true/\Zee wr B p.2.length D/\Own wr w.heap.size 62 [.slice A p.1.length c,.slice A2 p.2.length c2]/\Own wr g 3 (ints (ownP p))/\Below w.heap.size w wr) (λ_ _ i _=>p.1.length-(RowKit.intOf i).toNat)
  case atStart=>exact ⟨0,Nat.zero_le _,rfl,rfl,HM2.out,HP2.out,HO2.out,HB2.out⟩
  case round =>
   obtain ⟨k,hk,rfl,ht,hm,hp,hu,hb⟩:=hrel
   obtain ⟨wo,rfl⟩:=qe wr
   have hz:=hb.size
   have hl:=hp.lt
   have hgl:=hu.lt
   have hml:=World.ownsMap.lt hm
   have HT:=hdQ ht
   have HM:=hdQ hm
   have HP:=hdQ hp
   have HU:=hdQ hu
   have HB:=hdQ hb
   have p0:wo.cell? ⟨w.heap.size,0,none⟩=some (.slice A p.1.length c):=hp.cell 0
   have p1:wo.cell? ⟨w.heap.size,1,none⟩=some (.slice A2 p.2.length c2):=hp.cell 1
   clear hp hb ht hm s0 s1 HP2 HM2 HO2 HB2
   by_cases hlt:k<p.1.length
   ·obtain ⟨b,o,A',c',rfl,hbh,hs,hr,x0,x1,x2,x3⟩:=H0.out.1.2.2 k hlt
    have d0:=(HB.out.cell (p:=⟨b,o+k*4,none⟩) hbh).trans x0
    have d1:=(HB.out.cell (p:=⟨b,o+k*4+1,none⟩) hbh).trans x1
    have d2:=(HB.out.cell (p:=⟨b,o+k*4+2,none⟩) hbh).trans x2
    have d3:=(HB.out.cell (p:=⟨b,o+k*4+3,none⟩) hbh).trans x3
    have HTS:=hdQ (namesTo_succ hlt)
    obtain ⟨⟨op,name,num,args⟩,hx⟩:∃ x,p.1[k]=x:=⟨_,rfl⟩
    rw [hx] at d0 d1 d2 d3 HTS hs
    (try dsimp only at d0 d1 d2 d3 hs)
    have HX:=hdQ hx
    have HSN:=hdQ hs
    have e1:wo.cell? ⟨g,k,none⟩=some (.int .i64 ((ownP p).getD k 0)):=by rw [hu.cell,Zfp (by rw [ownP_len];exact hlt)]
    have i0:(k:Int)<p.1.length:=qo
    have i00:(0:Int)<=k:=qo
    have FIN:=qh (∀ b,nameOk p k (op,name,num,args)=b->(b=false->Zbv p p.1.length=false)/\(b=true->Zbv p (k+1)=true)) (λb hb=>⟨λe=>namesTo_no hlt (by rw [HX.out,hb,e]),λe=>by rw [HTS.out,HT.out,hb,e];rfl⟩)
    have HKN:=qh (∀ bb,nameOk p k (op,name,num,args)=bb->∀ wx,Zee wx B p.2.length D->CB_ Tryz.prog 200 #[.iface (exT op) (vNode op name num A' args.length c'),.int .i64 ((ownP p).getD k 0),.map (some B)] wx (.bool bb)) (λbb hbb wx hmx=>by subst hbb;exact I_known wx hmx HFI.out HSN.out)
    generalize hov:(ownP p).getD k 0=ov at *
    generalize args.length=an at *
    clear x0 x1 x2 x3 hs hr hx hu
    have ng:¬ g=wo.heap.size:=qo
    have nw:¬ w.heap.size=wo.heap.size:=qo
    cases hnk:nameOk p k (op,name,num,args) with
    | true =>
     have HK:=hdQ ((FIN.out true hnk).2 rfl)
     have HKT:=hdQ (HKN.out true hnk)
     go_wp2_with fail
     go_region_held3 (λw'=>w'.cell? ⟨wo.heap.size,0,none⟩=some (.int .i64 op)/\w'.cell? ⟨wo.heap.size,1,none⟩=some (str name)/\w'.cell? ⟨wo.heap.size,2,none⟩=some (.int .i64 num)/\w'.cell? ⟨wo.heap.size,3,none⟩=some (.slice A' an c')/\w'.cell? ⟨g,k,none⟩=some (.int .i64 ov))
      (first|go_keep|((try dsimp only);refine ⟨?_, ?_, ?_, ?_, ?_⟩<;>(go_simp;done)))
      (first|(go_at_call 201;(with_reducible refine (I_exprOf _).mono ?_);rintro e wA ⟨rfl,hbA⟩;have hzA:=hbA.size;(try simp at hzA);(refine Zai hbA (wo.heap.size) ?_ ?_;(first|omega|(simp<;>omega));intro n0 nf0 nz0);(refine Zai hbA (w.heap.size) ?_ ?_;(first|omega|(simp<;>omega));intro m0 mf0 mz0);(refine Zai hbA (g) ?_ ?_;(first|omega|(simp<;>omega));intro q0 qf0 qz0))|(go_at_call 200;(with_reducible refine (HKT.out _ (Zee.step HM.out bll)).mono ?_);rintro e wB ⟨rfl,hbB⟩;have hzB:=hbB.size;(try simp at hzB);(refine Zai hbB (wo.heap.size) ?_ ?_;(first|omega|(simp<;>omega));intro a0 af0 az0);(refine Zai hbB (w.heap.size) ?_ ?_;(first|omega|(simp<;>omega));intro b0 bf0 bz0);(refine Zai hbB (g) ?_ ?_;(first|omega|(simp<;>omega));intro c0 cf0 cz0))|fail)
     all_goals
      go_wp2_with fail
      go_roundw
      case rel=>exact ⟨k+1,qo,qg,HK.out,Zee.step HM.out bll,(owx HP.out),(owx HU.out),bll⟩
      case measure=>exact qn
    | false =>
     have HF:=hdQ ((FIN.out false hnk).1 rfl)
     have HKT:=hdQ (HKN.out false hnk)
     have HFF:=qh (Zbd p=false) (by rw [HCD.out,HF.out];rfl)
     go_wp2_with fail
     go_region_held3 (λw'=>w'.cell? ⟨wo.heap.size,0,none⟩=some (.int .i64 op)/\w'.cell? ⟨wo.heap.size,1,none⟩=some (str name)/\w'.cell? ⟨wo.heap.size,2,none⟩=some (.int .i64 num)/\w'.cell? ⟨wo.heap.size,3,none⟩=some (.slice A' an c')/\w'.cell? ⟨g,k,none⟩=some (.int .i64 ov))
      (first|go_keep|((try dsimp only);refine ⟨?_, ?_, ?_, ?_, ?_⟩<;>(go_simp;done)))
      (first|(go_at_call 201;(with_reducible refine (I_exprOf _).mono ?_);rintro e wA ⟨rfl,hbA⟩;have hzA:=hbA.size;(try simp at hzA);(refine Zai hbA (wo.heap.size) ?_ ?_;(first|omega|(simp<;>omega));intro n0 nf0 nz0);(refine Zai hbA (w.heap.size) ?_ ?_;(first|omega|(simp<;>omega));intro m0 mf0 mz0);(refine Zai hbA (g) ?_ ?_;(first|omega|(simp<;>omega));intro q0 qf0 qz0))|(go_at_call 200;(with_reducible refine (HKT.out _ (Zee.step HM.out bll)).mono ?_);rintro e wB ⟨rfl,hbB⟩;have hzB:=hbB.size;(try simp at hzB);(refine Zai hbB (wo.heap.size) ?_ ?_;(first|omega|(simp<;>omega));intro a0 af0 az0);(refine Zai hbB (w.heap.size) ?_ ?_;(first|omega|(simp<;>omega));intro b0 bf0 bz0);(refine Zai hbB (g) ?_ ?_;(first|omega|(simp<;>omega));intro c0 cf0 cz0))|fail)
     all_goals
      go_wp2_with fail
      exact bodyPost_ret (v:=.tuple #[.int .i64 2,.int .i64 k]) (by simp [results,Tryz.results139,go_sem, *]) rfl ⟨⟨_,_,rfl,by rw [HFF.out];rfl⟩,bll⟩
   ·obtain rfl:k=p.1.length:=by omega
    have HNT:=HT
    clear HT hu hz hl hgl hml
    have hz:=HB.out.size
    have hl:=HP.out.lt
    have hml:=World.ownsMap.lt HM.out
    go_wp2_with fail
    go_loopw [8,9,43] (λ_ _ i wr=>∃ k:Nat,k<=p.1.length/\i=.int .i64 k/\Zb2 p k=true/\Zee wr B p.2.length D/\Own wr w.heap.size 62 [.slice A p.1.length c,.slice A2 p.2.length c2]/\Below w.heap.size w wr) (λ_ _ i _=>p.1.length-(RowKit.intOf i).toNat)
    case atStart=>exact ⟨0,Nat.zero_le _,rfl,rfl,HM.out,HP.out,HB.out⟩
    case round =>
     clear hz hl hml
     obtain ⟨k,hk2,rfl,ht,hm,hp,hb⟩:=hrel
     obtain ⟨wi,rfl⟩:=qe wr
     have hz:=hb.size
     have hl:=hp.lt
     have hml:=World.ownsMap.lt hm
     have HT:=hdQ ht
     have HM3:=hdQ hm
     have HP3:=hdQ hp
     have HB3:=hdQ hb
     have q0:wi.cell? ⟨w.heap.size,0,none⟩=some (.slice A p.1.length c):=hp.cell 0
     have q1:wi.cell? ⟨w.heap.size,1,none⟩=some (.slice A2 p.2.length c2):=hp.cell 1
     clear hp hb ht hm p0 p1
     by_cases hlt:k<p.1.length
     ·obtain ⟨b,o,A',c',rfl,hbh,hs,hr,x0,x1,x2,x3⟩:=H0.out.1.2.2 k hlt
      have d0:=(HB3.out.cell (p:=⟨b,o+k*4,none⟩) hbh).trans x0
      have d1:=(HB3.out.cell (p:=⟨b,o+k*4+1,none⟩) hbh).trans x1
      have d2:=(HB3.out.cell (p:=⟨b,o+k*4+2,none⟩) hbh).trans x2
      have d3:=(HB3.out.cell (p:=⟨b,o+k*4+3,none⟩) hbh).trans x3
      have HTS:=hdQ (aritiesTo_succ hlt)
      obtain ⟨⟨op,name,num,args⟩,hx⟩:∃ x,p.1[k]=x:=⟨_,rfl⟩
      rw [hx] at d0 d1 d2 d3 HTS
      (try dsimp only at d0 d1 d2 d3)
      have HX:=hdQ hx
      have i0:(k:Int)<p.1.length:=qo
      have i00:(0:Int)<=k:=qo
      have FIN:=qh (∀ b,Zeu (op,name,num,args)=b->(b=false->Zbd p=false)/\(b=true->Zb2 p (k+1)=true)) (λb hb=>⟨λe=>by rw [HCD.out,aritiesTo_no hlt (by rw [HX.out,hb,e])];simp,λe=>by rw [HTS.out,HT.out,hb,e];rfl⟩)
      have HFT:=qh (∀ bb,Zeu (op,name,num,args)=bb->∀ wx,CB_ Tryz.prog 202 #[.iface (exT op) (vNode op name num A' args.length c')] wx (.bool bb)) (λbb hbb wx=>by subst hbb;exact I_fitting wx)
      generalize args.length=an at *
      clear x0 x1 x2 x3 hs hr hx
      cases hnk:Zeu (op,name,num,args) with
      | true =>
       have HK:=hdQ ((FIN.out true hnk).2 rfl)
       have HKT:=hdQ (HFT.out true hnk)
       go_wp2_with (first|(go_at_call 201;(with_reducible refine (I_exprOf _).mono ?_);rintro e wA ⟨rfl,hbA⟩;have hzA:=hbA.size;(try simp at hzA);have HBA:=bh w hbA;have HPA:=qh (Own wA w.heap.size 62 [.slice (some ⟨b,o,none⟩) p.1.length c,.slice A2 p.2.length c2]) (Own.step hbA (owx HP3.out));have HMA:=qh (Zee wA B p.2.length D) (Zee.step HM3.out bll);clear hbA)|(go_at_call 202;(with_reducible refine (HKT.out _).mono ?_);rintro e wB ⟨rfl,hbB⟩;have hzB:=hbB.size;have HBB:=qh (Below w.heap.size w wB) (Below.step hbB HBA.out HBA.out.size);have HPB:=qh (Own wB w.heap.size 62 [.slice (some ⟨b,o,none⟩) p.1.length c,.slice A2 p.2.length c2]) (Own.step hbB HPA.out);have HMB:=qh (Zee wB B p.2.length D) (Zee.step HMA.out hbB);clear hbB)|fail)
       go_roundw
       case rel=>exact ⟨k+1,qo,qg,HK.out,HMB.out,HPB.out,HBB.out⟩
       case measure=>exact qn
      | false =>
       have HF:=hdQ ((FIN.out false hnk).1 rfl)
       have HKT:=hdQ (HFT.out false hnk)
       go_wp2_with (first|(go_at_call 201;(with_reducible refine (I_exprOf _).mono ?_);rintro e wA ⟨rfl,hbA⟩;have hzA:=hbA.size;(try simp at hzA);have HBA:=bh w hbA;clear hbA)|(go_at_call 202;(with_reducible refine (HKT.out _).mono ?_);rintro e wB ⟨rfl,hbB⟩;have hzB:=hbB.size;have HBB:=qh (Below w.heap.size w wB) (Below.step hbB HBA.out HBA.out.size);clear hbB)|fail)
       exact bodyPost_ret (v:=.tuple #[.int .i64 3,.int .i64 k]) (by simp [results,Tryz.results139,go_sem, *]) rfl ⟨⟨_,_,rfl,by rw [HF.out];rfl⟩,HBB.out⟩
     ·obtain rfl:k=p.1.length:=by omega
      have HAT:=HT
      clear HT
      go_wp2_with fail
      go_loopw [10,11,57] (λ_ _ i wr=>∃ j:Nat,j<=p.2.length/\i=.int .i64 j/\Zfs p j=true/\Zee wr B p.2.length D/\Own wr w.heap.size 62 [.slice A p.1.length c,.slice A2 p.2.length c2]/\Below w.heap.size w wr) (λ_ _ i _=>p.2.length-(RowKit.intOf i).toNat)
      case atStart=>exact ⟨0,Nat.zero_le _,rfl,rfl,HM3.out,HP3.out,HB3.out⟩
      case round =>
       clear hz hl hml
       obtain ⟨j,hj,rfl,ha,hm,hp,hb⟩:=hrel
       obtain ⟨wu,rfl⟩:=qe wr
       have hz:=hb.size
       have hl:=hp.lt
       have hml:=World.ownsMap.lt hm
       have HA:=hdQ ha
       have HM4:=hdQ hm
       have HP4:=hdQ hp
       have HB4:=hdQ hb
       clear hp hb ha hm q0 q1
       by_cases hlj:j<p.2.length
       ·obtain ⟨b,o,rfl,hbh,hs,x0,x1⟩:=H0.out.2.2.2 j hlj
        have d0:=(HB4.out.cell (p:=⟨b,o+j*2,none⟩) hbh).trans x0
        have d1:=(HB4.out.cell (p:=⟨b,o+j*2+1,none⟩) hbh).trans x1
        have HTS:=hdQ (asssTo_succ hlj)
        obtain ⟨f,hf⟩:=first_in hlj
        obtain ⟨⟨nm,rt⟩,hx⟩:∃ x,p.2[j]=x:=⟨_,rfl⟩
        rw [hx] at d0 d1 hs HTS hf
        (try dsimp only at d0 d1 hs hf)
        have HX:=hdQ hx
        have i1:(j:Int)<p.2.length:=qo
        have i2:(0:Int)<=j:=qo
        have FIN:=qh (∀ b,assOk p j (nm,rt)=b->(b=false->Zbd p=false)/\(b=true->Zfs p (j+1)=true)) (λb hb=>⟨λe=>by rw [HCD.out,asssTo_no hlj (by rw [HX.out,hb,e])];simp,λe=>by rw [HTS.out,HA.out,hb,e];rfl⟩)
        have HHS:=qh (has p nm j=decide ((f:Int)<(j:Int))) (by rw [<- first_has,hf])
        have HIV:=qh (∀ wx,Calls Tryz.prog 203 #[str nm] wx λe w'=>e=.returned (.bool (isVar nm))/\wx=w') (λwx=>I_IsVariable nm wx)
        have hlk:(Instr.lookup 217 (.map (some B)) (str nm) false).run Tryz.prog (wu.alloc (.cells #[str nm,.int .i64 rt] 106))=.ok (.int .i64 f) (wu.alloc (.cells #[str nm,.int .i64 rt] 106)):=by
         obtain ⟨cc,hrun,hat,hwc⟩:=World.ownsMap.lookup_int (World.ownsMap.alloc HM4.out (.cells #[str nm,.int .i64 rt] 106)) keyS Tryz.underlying217 Tryz.underlying3 (zeroI _) (key_str hs)
         rw [HFI.out.at_ nm f hf] at hat
         injection hat with hat
         injection hat with _ hat
         rw [hat];exact hrun
        clear x0 x1 hs hx hf
        cases hvr:isVar nm with
        | true =>
         have HF:=hdQ ((FIN.out false (by unfold assOk;rw [hvr];rfl)).1 rfl)
         rw [hvr] at HIV
         go_wp2_with (first|(go_at_call 203;refine (HIV.out _).mono ?_;rintro e w' ⟨rfl,rfl⟩)|fail)
         exact bodyPost_ret (v:=.tuple #[.int .i64 4,.int .i64 j]) (by simp [results,Tryz.results139,go_sem, *]) rfl ⟨⟨_,_,rfl,by rw [HF.out];rfl⟩,bll⟩
        | false =>
         rw [hvr] at HIV
         by_cases hfj:(f:Int)<(j:Int)
         ·have HF:=hdQ ((FIN.out false (by unfold assOk;rw [hvr,HHS.out,decide_eq_true hfj];rfl)).1 rfl)
          go_wp2_with (first|(go_at_call 203;refine (HIV.out _).mono ?_;rintro e w' ⟨rfl,rfl⟩)|fail)
          exact bodyPost_ret (v:=.tuple #[.int .i64 4,.int .i64 j]) (by simp [results,Tryz.results139,go_sem, *]) rfl ⟨⟨_,_,rfl,by rw [HF.out];rfl⟩,bll⟩
         ·have HK:=hdQ ((FIN.out true (by unfold assOk;rw [hvr,HHS.out,decide_eq_false hfj];rfl)).2 rfl)
          go_wp2_with (first|(go_at_call 203;refine (HIV.out _).mono ?_;rintro e w' ⟨rfl,rfl⟩)|fail)
          go_roundw
          case rel=>exact ⟨j+1,qo,qg,HK.out,Zee.step HM4.out bll,(owx HP4.out),bll⟩
          case measure=>exact qn
       ·obtain rfl:j=p.2.length:=by omega
        have HCE:=qh (Zbd p=has p Zet p.2.length) (by rw [HCD.out,HNT.out,HAT.out,HA.out];rfl)
        have hkey:keyOf Tryz.prog 9 (.string ⟨#[99,111,108,111,114]⟩)=some (.string Zet):=key_str (l:=Zet) qd
        have HHC:=qh (Maps.has D (.string Zet)=has p Zet p.2.length) (by rw [HFI.out.has,first_color])
        cases hhc:has p Zet p.2.length with
        | true =>
         rw [hhc] at HHC HCE
         go_wp2_with (first|(at_lookup;refine wpList_lookup_own_ok_int _ rfl _ _ 217 rfl 9 3 .i64 keyS Tryz.underlying217 Tryz.underlying3 (zeroI _) B p.2.length D rfl HM4.out _ _ rfl hkey ?_;intro cc hat hwc;rw [HHC.out];clear hat hwc)|fail)
         exact bodyPost_ret (v:=.tuple #[.int .i64 0,.int .i64 0]) (by simp [results,Tryz.results139,go_sem, *]) rfl ⟨⟨_,_,rfl,by rw [HCE.out];rfl⟩,bll⟩
        | false =>
         rw [hhc] at HHC HCE
         go_wp2_with (first|(at_lookup;refine wpList_lookup_own_ok_int _ rfl _ _ 217 rfl 9 3 .i64 keyS Tryz.underlying217 Tryz.underlying3 (zeroI _) B p.2.length D rfl HM4.out _ _ rfl hkey ?_;intro cc hat hwc;rw [HHC.out];clear hat hwc)|fail)
         exact bodyPost_ret (v:=.tuple #[.int .i64 5,.int .i64 0]) (by simp [results,Tryz.results139,go_sem, *]) rfl ⟨⟨_,_,rfl,by rw [HCE.out];rfl⟩,bll⟩
theorem I_isOk {A A2:Option Addr} {c c2:Nat} {p:Zae} (w:World) (h:Zdl w A c A2 c2 p) (h1:p.1.length<=1048576) (h2:p.2.length<=1048576) :
  Calls Tryz.prog 79 #[Zbs A p.1.length c A2 p.2.length c2] w λe w'=>e=.returned (.bool (Zbd p))/\Below w.heap.size w w':=by
 have HC:=qh (∀ wx,Below w.heap.size w wx->Calls Tryz.prog 139 #[Zbs A p.1.length c A2 p.2.length c2] wx (OutCheck (Zbd p) wx)) (λwx hb=>I_Check wx (h.step hb) h1 h2)
 clear h
 go_enter Tryz.func79,Tryz.ntmps79
 go_wp2_with (first|(go_at_call 139;refine (HC.out _ bll).mono ?_;rintro e w1 ⟨⟨x,y,rfl,hxy⟩,hb1⟩;have HXY:=hdQ hxy;have HB1:=bh w hb1;clear hb1 hxy)|fail)
 go_ret
 exact ⟨Zad (by rw [<- HXY.out];rw [Bool.eq_iff_iff];simp),HB1.out⟩
end Go.Proofs.YticdknjoapdmeaaGreatDoor
namespace Go.Proofs.YticdknjoapdmeaaGreatDoor
set_option maxHeartbeats 32000000
set_option maxRecDepth 100000
open Go.RowKit Go.Lib
theorem sceneOk_def (s:EScene):Za0 s=(Zaz s.a s.b s.c s.d s.f s.g&&(Zak s.log s.tex&&(inB s.ps.length 1 3&&(decide (s.ss.length<=5)&&(sideB s.side&&(Zel s.ps s.ps.length&&Zcy s.ps.length s.ss s.ss.length)))))):=rfl
theorem side4 (r:Int):(r=1/\sideB r=true)∨(r=2/\sideB r=true)∨(r=4/\sideB r=true)∨((r==1)=false/\(r==2)=false/\(r==4)=false/\sideB r=false):=by
 by_cases h1:r=1
 ·subst h1;left;exact ⟨rfl,rfl⟩
 ·by_cases h2:r=2
  ·subst h2;right;left;exact ⟨rfl,rfl⟩
  ·by_cases h4:r=4
   ·subst h4;right;right;left;exact ⟨rfl,rfl⟩
   ·right;right;right
    refine ⟨by simpa using h1,by simpa using h2,by simpa using h4, ?_⟩
    unfold sideB;simp [h1,h2,h4]
theorem S_IsValidScene {s:EScene} {T P Q:Option Addr} {tc pc qc:Nat} (w:World) (h:SceneIn w s T tc P pc Q qc) :
  Calls Tryz.prog 64 #[vScene s T tc P pc Q qc] w λe w'=>e=.returned (.bool (Za0 s))/\Below w.heap.size w w':=by
 have H0:=hdQ h
 have HD:=hdQ (sceneOk_def s)
 have hpl:s.ps.length<=9223372036854775807:=by have h1:=h.ps.1;have h2:=h.ps.2.1;unfold maxLen at h2;omega
 have hsl:s.ss.length<=9223372036854775807:=by have h1:=h.ss.1;have h2:=h.ss.2.1;unfold maxLen at h2;omega
 have HCAM:=qh (∀ b,Zaz s.a s.b s.c s.d s.f s.g=b->∀ wx,CB_ Tryz.prog 116 #[Zbl s.a s.b s.c s.d s.e s.f s.g] wx (.bool b)) (λb hb wx=>by subst hb;exact Zdj wx)
 have HTEX:=qh (∀ b,Zak s.log s.tex=b->∀ wx,Below w.heap.size w wx->CB_ Tryz.prog 118 #[Zcc s.log (.slice T s.tex.length tc)] wx (.bool b)) (λb hb wx hbx=>by subst hb;exact S_IsValidTexture wx (RS.step hbx h.tex))
 have HPZ:=qh (Own (w.alloc (.cells #[.int .i64 s.a,.int .i64 s.b,.int .i64 s.c,.int .i64 s.d,.bool s.e,.int .i64 s.f,.int .i64 s.g,.int .i64 s.log,.slice T s.tex.length tc,.slice P s.ps.length pc,.slice Q s.ss.length qc,.int .i64 s.side] 30)) w.heap.size 30 [.int .i64 s.a,.int .i64 s.b,.int .i64 s.c,.int .i64 s.d,.bool s.e,.int .i64 s.f,.int .i64 s.g,.int .i64 s.log,.slice T s.tex.length tc,.slice P s.ps.length pc,.slice Q s.ss.length qc,.int .i64 s.side]) (Own.new w _ #[_,_,_,_,_,_,_,_,_,_,_,_])
 clear h
 go_enter Tryz.func64,Tryz.ntmps64
 go_wp2_with fail
 go_loopw [4,5,6,13] (λ_ _ _ i wr=>∃ k:Nat,k<=s.ps.length/\i=.int .i64 k/\Zel s.ps k=true/\Own wr w.heap.size 30 [.int .i64 s.a,.int .i64 s.b,.int .i64 s.c,.int .i64 s.d,.bool s.e,.int .i64 s.f,.int .i64 s.g,.int .i64 s.log,.slice T s.tex.length tc,.slice P s.ps.length pc,.slice Q s.ss.length qc,.int .i64 s.side]/\Below w.heap.size w wr) (λ_ _ _ i _=>s.ps.length-(RowKit.intOf i).toNat)
 case atStart=>exact ⟨0,Nat.zero_le _,rfl,rfl,HPZ.out,bll⟩
 case round =>
  obtain ⟨k,hk,rfl,hsh,hp,hb⟩:=hrel
  obtain ⟨wo,rfl⟩:=qe wr
  have hz:=hb.size
  have hl:=hp.lt
  have HSH:=hdQ hsh
  have HP:=hdQ hp
  have HB:=hdQ hb
  have u0:wo.cell? ⟨w.heap.size,0,none⟩=some (.int .i64 s.a):=hp.cell 0
  have u1:wo.cell? ⟨w.heap.size,1,none⟩=some (.int .i64 s.b):=hp.cell 1
  have u2:wo.cell? ⟨w.heap.size,2,none⟩=some (.int .i64 s.c):=hp.cell 2
  have u3:wo.cell? ⟨w.heap.size,3,none⟩=some (.int .i64 s.d):=hp.cell 3
  have u4:wo.cell? ⟨w.heap.size,4,none⟩=some (.bool s.e):=hp.cell 4
  have u5:wo.cell? ⟨w.heap.size,5,none⟩=some (.int .i64 s.f):=hp.cell 5
  have u6:wo.cell? ⟨w.heap.size,6,none⟩=some (.int .i64 s.g):=hp.cell 6
  have u7:wo.cell? ⟨w.heap.size,7,none⟩=some (.int .i64 s.log):=hp.cell 7
  have u8:wo.cell? ⟨w.heap.size,8,none⟩=some (.slice T s.tex.length tc):=hp.cell 8
  have u9:wo.cell? ⟨w.heap.size,9,none⟩=some (.slice P s.ps.length pc):=hp.cell 9
  have u10:wo.cell? ⟨w.heap.size,10,none⟩=some (.slice Q s.ss.length qc):=hp.cell 10
  have u11:wo.cell? ⟨w.heap.size,11,none⟩=some (.int .i64 s.side):=hp.cell 11
  clear hp hb hsh
  by_cases hlt:k<s.ps.length
  ·obtain ⟨b,o,A1,c1,A2,c2,rfl,hbh,hpi,hn1,hn2,x0,x1⟩:=H0.out.ps.2.2 k hlt
   have y0:=(HB.out.cell (p:=⟨b,o+k*2,none⟩) hbh).trans x0
   have y1:=(HB.out.cell (p:=⟨b,o+k*2+1,none⟩) hbh).trans x1
   have HSU:=hdQ (shadTo_succ hlt)
   have HNO:=hdQ (shadTo_no hlt)
   obtain ⟨x,hx⟩:=qv (s.ps[k])
   rw [hx] at y0 y1 HSU HNO hpi hn1 hn2
   have HC:=qh (∀ wx,Below w.heap.size w wx->Calls Tryz.prog 124 #[Zbs A1 x.1.length c1 A2 x.2.length c2] wx (OutCheck (Zbd x) wx)) (λwx hbx=>S_Check wx (hpi.step hbx) hn1 hn2)
   have hwn:¬ wo.heap.size=w.heap.size:=qo
   have hwn2:¬ w.heap.size=wo.heap.size:=qo
   have j1:(k:Int)<s.ps.length:=qo
   have j2:(0:Int)<=k:=qo
   clear hpi hx x0 x1
   cases hok:Zbd x with
   | false =>
    have HF:=qh (Za0 s=false) (by rw [HD.out,HNO.out hok];simp)
    go_wp2_with (first|(go_at_call 124;(with_reducible refine (HC.out _ bll).mono ?_);rintro e wK ⟨⟨xk,yk,rfl,hxk⟩,hbK⟩;rw [hok] at hxk;have hxk2:=of_decide_eq_false hxk;have hne:(xk != 0)=true:=(by simpa using hxk2);have HBK:=bh w hbK;have HPK:=qh (Own wK w.heap.size 30 [.int .i64 s.a,.int .i64 s.b,.int .i64 s.c,.int .i64 s.d,.bool s.e,.int .i64 s.f,.int .i64 s.g,.int .i64 s.log,.slice T s.tex.length tc,.slice (some ⟨b,o,none⟩) s.ps.length pc,.slice Q s.ss.length qc,.int .i64 s.side]) (Own.step hbK (owx HP.out));clear hbK hxk)|fail)
    go_ret
    exact ⟨Zad HF.out.symm,HBK.out⟩
   | true =>
    have HK:=qh (Zel s.ps (k+1)=true) (by rw [HSU.out,HSH.out,hok];rfl)
    go_wp2_with (first|(go_at_call 124;(with_reducible refine (HC.out _ bll).mono ?_);rintro e wK ⟨⟨xk,yk,rfl,hxk⟩,hbK⟩;rw [hok] at hxk;have hxk2:=of_decide_eq_true hxk;subst hxk2;have HBK:=bh w hbK;have HPK:=qh (Own wK w.heap.size 30 [.int .i64 s.a,.int .i64 s.b,.int .i64 s.c,.int .i64 s.d,.bool s.e,.int .i64 s.f,.int .i64 s.g,.int .i64 s.log,.slice T s.tex.length tc,.slice (some ⟨b,o,none⟩) s.ps.length pc,.slice Q s.ss.length qc,.int .i64 s.side]) (Own.step hbK (owx HP.out));clear hbK hxk)|fail)
    go_roundw
    case rel=>exact ⟨k+1,qo,qg,HK.out,HPK.out,HBK.out⟩
    case measure=>exact qn
  ·obtain rfl:k=s.ps.length:=by omega
   go_wp2_with fail
   go_loopw [8,28] (λ_ i wr=>∃ k:Nat,k<=s.ss.length/\i=.int .i64 k/\Zcy s.ps.length s.ss k=true/\Own wr w.heap.size 30 [.int .i64 s.a,.int .i64 s.b,.int .i64 s.c,.int .i64 s.d,.bool s.e,.int .i64 s.f,.int .i64 s.g,.int .i64 s.log,.slice T s.tex.length tc,.slice P s.ps.length pc,.slice Q s.ss.length qc,.int .i64 s.side]/\Below w.heap.size w wr) (λ_ i _=>s.ss.length-(RowKit.intOf i).toNat)
   case atStart=>exact ⟨0,Nat.zero_le _,rfl,rfl,HP.out,HB.out⟩
   case round =>
    obtain ⟨k2,hk2,rfl,hss,hp2,hb2⟩:=hrel
    obtain ⟨wi,rfl⟩:=qe wr
    have hz2:=hb2.size
    have hl2:=hp2.lt
    have HSS:=hdQ hss
    have HP2:=hdQ hp2
    have HB2:=hdQ hb2
    have v0:wi.cell? ⟨w.heap.size,0,none⟩=some (.int .i64 s.a):=hp2.cell 0
    have v1:wi.cell? ⟨w.heap.size,1,none⟩=some (.int .i64 s.b):=hp2.cell 1
    have v2:wi.cell? ⟨w.heap.size,2,none⟩=some (.int .i64 s.c):=hp2.cell 2
    have v3:wi.cell? ⟨w.heap.size,3,none⟩=some (.int .i64 s.d):=hp2.cell 3
    have v4:wi.cell? ⟨w.heap.size,4,none⟩=some (.bool s.e):=hp2.cell 4
    have v5:wi.cell? ⟨w.heap.size,5,none⟩=some (.int .i64 s.f):=hp2.cell 5
    have v6:wi.cell? ⟨w.heap.size,6,none⟩=some (.int .i64 s.g):=hp2.cell 6
    have v7:wi.cell? ⟨w.heap.size,7,none⟩=some (.int .i64 s.log):=hp2.cell 7
    have v8:wi.cell? ⟨w.heap.size,8,none⟩=some (.slice T s.tex.length tc):=hp2.cell 8
    have v9:wi.cell? ⟨w.heap.size,9,none⟩=some (.slice P s.ps.length pc):=hp2.cell 9
    have v10:wi.cell? ⟨w.heap.size,10,none⟩=some (.slice Q s.ss.length qc):=hp2.cell 10
    have v11:wi.cell? ⟨w.heap.size,11,none⟩=some (.int .i64 s.side):=hp2.cell 11
    clear hp2 hb2 hss
    by_cases hlt2:k2<s.ss.length
    ·obtain ⟨b,o,rfl,hbh,hsf⟩:=H0.out.ss.2.2 k2 hlt2
     have hsw:=hsf.below HB2.out hbh
     have HSU:=hdQ (surfsTo_succ (n:=s.ps.length) hlt2)
     have HNO:=hdQ (surfsTo_no (n:=s.ps.length) hlt2)
     obtain ⟨⟨p,q,sh,rt⟩,hx⟩:∃ x,s.ss[k2]=x:=⟨_,rfl⟩
     rw [hx] at hsw HSU HNO
     (try dsimp only at hsw)
     obtain ⟨w1,w2,V,hV,hld,hal,hst,hlv,hz3,hbw,_⟩:=surf_box hsw
     have HLD:=hdQ hld
     have HAL:=hdQ hal
     have HST:=hdQ hst
     have HLV:=hdQ hlv
     have HV:=hdQ hV
     have HBW:=qh (Below w.heap.size w w2) (Below.step hbw HB2.out HB2.out.size)
     have HPW:=qh (Own w2 w.heap.size 30 [.int .i64 s.a,.int .i64 s.b,.int .i64 s.c,.int .i64 s.d,.bool s.e,.int .i64 s.f,.int .i64 s.g,.int .i64 s.log,.slice T s.tex.length tc,.slice P s.ps.length pc,.slice (some ⟨b,o,none⟩) s.ss.length qc,.int .i64 s.side]) (Own.step hbw HP2.out)
     have x9:w2.cell? ⟨w.heap.size,9,none⟩=some (.slice P s.ps.length pc):=HPW.out.cell 9
     clear hsw hV hld hal hst hlv hbw
     have hwn:¬ wi.heap.size=w.heap.size:=qo
     have hwn2:¬ w.heap.size=wi.heap.size:=qo
     have j1:(k2:Int)<s.ss.length:=qo
     have j2:(0:Int)<=k2:=qo
     clear hsf hx
     cases hok:surfOk s.ps.length (p,q,sh,rt) with
     | false =>
      have HF:=qh (Za0 s=false) (by rw [HD.out,HNO.out hok];simp)
      have HC:=qh (∀ wx,CB_ Tryz.prog 125 #[V,.int .i64 s.ps.length] wx (.bool false)) (λwx=>by rw [HV.out];have:=S_IsValidSurface p q sh rt s.ps.length wx;rw [hok] at this;exact this)
      go_wp2_with (first|(refine Zaj rfl 45 (.tmp 30) rfl rfl HLD.out ?_)|(refine Zao rfl 45 rfl HAL.out ?_)|(refine Zaf rfl 45 (.tmp 8) (.tmp 31) rfl rfl rfl HST.out ?_)|(refine Zaj rfl 45 (.tmp 8) rfl rfl HLV.out ?_)|(go_at_call 125;(with_reducible refine (HC.out _).mono ?_);rintro e wS ⟨rfl,hbwS⟩;have hzwS:=hbwS.size;(try simp at hzwS);have HBwS:=bh w hbwS;clear hbwS)|fail)
      go_ret
      exact ⟨Zad HF.out.symm,HBwS.out⟩
     | true =>
      have HK:=qh (Zcy s.ps.length s.ss (k2+1)=true) (by rw [HSU.out,HSS.out,hok];rfl)
      have HC:=qh (∀ wx,CB_ Tryz.prog 125 #[V,.int .i64 s.ps.length] wx (.bool true)) (λwx=>by rw [HV.out];have:=S_IsValidSurface p q sh rt s.ps.length wx;rw [hok] at this;exact this)
      go_wp2_with (first|(refine Zaj rfl 45 (.tmp 30) rfl rfl HLD.out ?_)|(refine Zao rfl 45 rfl HAL.out ?_)|(refine Zaf rfl 45 (.tmp 8) (.tmp 31) rfl rfl rfl HST.out ?_)|(refine Zaj rfl 45 (.tmp 8) rfl rfl HLV.out ?_)|(go_at_call 125;(with_reducible refine (HC.out _).mono ?_);rintro e wS ⟨rfl,hbS⟩;have HPS:=qh (Own wS w.heap.size 30 [.int .i64 s.a,.int .i64 s.b,.int .i64 s.c,.int .i64 s.d,.bool s.e,.int .i64 s.f,.int .i64 s.g,.int .i64 s.log,.slice T s.tex.length tc,.slice P s.ps.length pc,.slice (some ⟨b,o,none⟩) s.ss.length qc,.int .i64 s.side]) (Own.step hbS HPW.out);have HBS:=qh (Below w.heap.size w wS) (Below.step hbS HBW.out HBW.out.size);clear hbS)|fail)
      go_roundw
      case rel=>exact ⟨k2+1,qo,qg,HK.out,HPS.out,HBS.out⟩
      case measure=>exact qn
    ·obtain rfl:k2=s.ss.length:=by omega
     have HD2:Hid (Za0 s=(Zaz s.a s.b s.c s.d s.f s.g&&(Zak s.log s.tex&&(inB s.ps.length 1 3&&(decide (s.ss.length<=5)&&sideB s.side))))):=hdQ (by rw [HD.out,HSH.out,HSS.out];simp)
     have HIN:=qh (∀ b,inB s.ps.length 1 3=b->∀ wx,Calls Tryz.prog 119 #[.int .i64 s.ps.length,.int .i64 1,.int .i64 3] wx λe w'=>e=.returned (.bool b)/\wx=w') (λb hb wx=>Zca hb wx)
     go_upto_region 14 with fail
     go_cut [9] (λs9 wx=>s9=.bool (sideB s.side)/\wx=wi)
     case first =>
      rcases side4 s.side with ⟨hsd,hsb⟩|⟨hsd,hsb⟩|⟨hsd,hsb⟩|⟨hs1,hs2,hs4,hsb⟩
      ·rw [hsd] at v11
       go_wp2_with fail
       go_meet
       exact ⟨by rw [hsb],rfl⟩
      ·rw [hsd] at v11
       go_wp2_with fail
       go_meet
       exact ⟨by rw [hsb],rfl⟩
      ·rw [hsd] at v11
       go_wp2_with fail
       go_meet
       exact ⟨by rw [hsb],rfl⟩
      ·go_wp2_with fail
       go_meet
       exact ⟨by rw [hsb],rfl⟩
     case rest =>
     obtain ⟨rfl,rfl⟩:=hcut
     cases hsb:sideB s.side with
     | false =>
      have HF:=qh (Za0 s=false) (by rw [HD2.out,hsb];simp)
      go_wp2_with fail
      go_ret
      exact ⟨Zad HF.out.symm,HB2.out⟩
     | true =>
      cases hcam:Zaz s.a s.b s.c s.d s.f s.g with
      | false =>
       have HF:=qh (Za0 s=false) (by rw [HD2.out,hcam];rfl)
       go_wp2_with (first|(go_at_call 116;(with_reducible refine (HCAM.out false hcam _).mono ?_);rintro e wC ⟨rfl,hbwC⟩;have hzwC:=hbwC.size;(try simp at hzwC);have HBwC:=bh w hbwC;have dwC:=λo=>hbwC.cell (p:=⟨w.heap.size,o,none⟩) omm;clear hbwC)|fail)
       go_ret
       exact ⟨Zad HF.out.symm,HBwC.out⟩
      | true =>
       cases htex:Zak s.log s.tex with
       | false =>
        have HF:=qh (Za0 s=false) (by rw [HD2.out,htex];simp)
        go_wp2_with (first|(go_at_call 116;(with_reducible refine (HCAM.out true hcam _).mono ?_);rintro e wC ⟨rfl,hbwC⟩;have hzwC:=hbwC.size;(try simp at hzwC);have HBwC:=bh w hbwC;have dwC:=λo=>hbwC.cell (p:=⟨w.heap.size,o,none⟩) omm;clear hbwC)|(go_at_call 118;(with_reducible refine (HTEX.out false htex _ HBwC.out).mono ?_);rintro e wX ⟨rfl,hbwX⟩;have hzwX:=hbwX.size;(try simp at hzwX);have HBwX:=bh w hbwX;have dwX:=λo=>hbwX.cell (p:=⟨w.heap.size,o,none⟩) omm;clear hbwX)|fail)
        go_ret
        exact ⟨Zad HF.out.symm,HBwX.out⟩
       | true =>
        cases hin:inB s.ps.length 1 3 with
        | false =>
         have HF:=qh (Za0 s=false) (by rw [HD2.out,hin];simp)
         go_wp2_with (first|(go_at_call 116;(with_reducible refine (HCAM.out true hcam _).mono ?_);rintro e wC ⟨rfl,hbwC⟩;have hzwC:=hbwC.size;(try simp at hzwC);have HBwC:=bh w hbwC;have dwC:=λo=>hbwC.cell (p:=⟨w.heap.size,o,none⟩) omm;clear hbwC)|(go_at_call 118;(with_reducible refine (HTEX.out true htex _ HBwC.out).mono ?_);rintro e wX ⟨rfl,hbwX⟩;have hzwX:=hbwX.size;(try simp at hzwX);have HBwX:=bh w hbwX;have dwX:=λo=>hbwX.cell (p:=⟨w.heap.size,o,none⟩) omm;clear hbwX)|(go_at_call 119;(with_reducible refine (HIN.out false hin _).mono ?_);rintro e w' ⟨rfl,rfl⟩)|fail)
         go_ret
         exact ⟨Zad HF.out.symm,HBwX.out⟩
        | true =>
         have HF:=qh (Za0 s=decide (s.ss.length<=5)) (by rw [HD2.out,hcam,htex,hin,hsb];simp)
         go_wp2_with (first|(go_at_call 116;(with_reducible refine (HCAM.out true hcam _).mono ?_);rintro e wC ⟨rfl,hbwC⟩;have hzwC:=hbwC.size;(try simp at hzwC);have HBwC:=bh w hbwC;have dwC:=λo=>hbwC.cell (p:=⟨w.heap.size,o,none⟩) omm;clear hbwC)|(go_at_call 118;(with_reducible refine (HTEX.out true htex _ HBwC.out).mono ?_);rintro e wX ⟨rfl,hbwX⟩;have hzwX:=hbwX.size;(try simp at hzwX);have HBwX:=bh w hbwX;have dwX:=λo=>hbwX.cell (p:=⟨w.heap.size,o,none⟩) omm;clear hbwX)|(go_at_call 119;(with_reducible refine (HIN.out true hin _).mono ?_);rintro e w' ⟨rfl,rfl⟩)|fail)
         all_goals go_ret
         all_goals exact ⟨Zad (by rw [HF.out];rw [Bool.eq_iff_iff];simp<;>omega),HBwX.out⟩
theorem I_IsValidScene {s:EScene} {T P Q:Option Addr} {tc pc qc:Nat} (w:World) (h:SceneIn w s T tc P pc Q qc) :
  Calls Tryz.prog 27 #[vScene s T tc P pc Q qc] w λe w'=>e=.returned (.bool (Za0 s))/\Below w.heap.size w w':=by
 have H0:=hdQ h
 have HD:=hdQ (sceneOk_def s)
 have hpl:s.ps.length<=9223372036854775807:=by have h1:=h.ps.1;have h2:=h.ps.2.1;unfold maxLen at h2;omega
 have hsl:s.ss.length<=9223372036854775807:=by have h1:=h.ss.1;have h2:=h.ss.2.1;unfold maxLen at h2;omega
 have HCAM:=qh (∀ b,Zaz s.a s.b s.c s.d s.f s.g=b->∀ wx,CB_ Tryz.prog 75 #[Zbl s.a s.b s.c s.d s.e s.f s.g] wx (.bool b)) (λb hb wx=>by subst hb;exact Zdn wx)
 have HTEX:=qh (∀ b,Zak s.log s.tex=b->∀ wx,Below w.heap.size w wx->CB_ Tryz.prog 76 #[Zcc s.log (.slice T s.tex.length tc)] wx (.bool b)) (λb hb wx hbx=>by subst hb;exact Zcv wx (RS.step hbx h.tex))
 have HIN:=qh (∀ b,inB s.ps.length 1 3=b->∀ wx,Calls Tryz.prog 77 #[.int .i64 s.ps.length,.int .i64 1,.int .i64 3] wx λe w'=>e=.returned (.bool b)/\wx=w') (λb hb wx=>Zbx hb wx)
 have HSD:=qh (∀ b,sideB s.side=b->∀ wx,Calls Tryz.prog 78 #[.int .i64 s.side] wx λe w'=>e=.returned (.bool b)/\wx=w') (λb hb wx=>by subst hb;exact I_sideOk s.side wx)
 have HBZ:=qh (Below w.heap.size w w) (Below.refl _ _)
 have HPZ:=qh (Own (w.alloc (.cells #[.int .i64 s.a,.int .i64 s.b,.int .i64 s.c,.int .i64 s.d,.bool s.e,.int .i64 s.f,.int .i64 s.g,.int .i64 s.log,.slice T s.tex.length tc,.slice P s.ps.length pc,.slice Q s.ss.length qc,.int .i64 s.side] 30)) w.heap.size 30 [.int .i64 s.a,.int .i64 s.b,.int .i64 s.c,.int .i64 s.d,.bool s.e,.int .i64 s.f,.int .i64 s.g,.int .i64 s.log,.slice T s.tex.length tc,.slice P s.ps.length pc,.slice Q s.ss.length qc,.int .i64 s.side]) (Own.new w _ #[_,_,_,_,_,_,_,_,_,_,_,_])
 clear h
 cases hcam:Zaz s.a s.b s.c s.d s.f s.g with
 | false =>
  have HF:=qh (Za0 s=false) (by rw [HD.out,hcam];rfl)
  go_enter Tryz.func27,Tryz.ntmps27
  go_wp2_with (first|(go_at_call 75;(with_reducible refine (HCAM.out false hcam _).mono ?_);rintro e wC ⟨rfl,hbwC⟩;have hzwC:=hbwC.size;(try simp at hzwC);have HBwC:=bh w hbwC;have dwC:=λo=>hbwC.cell (p:=⟨w.heap.size,o,none⟩) omm;clear hbwC)|fail)
  go_ret
  exact ⟨Zad HF.out.symm,HBwC.out⟩
 | true =>
 cases htex:Zak s.log s.tex with
 | false =>
  have HF:=qh (Za0 s=false) (by rw [HD.out,htex];simp)
  go_enter Tryz.func27,Tryz.ntmps27
  go_wp2_with (first|(go_at_call 75;(with_reducible refine (HCAM.out true hcam _).mono ?_);rintro e wC ⟨rfl,hbwC⟩;have hzwC:=hbwC.size;(try simp at hzwC);have HBwC:=bh w hbwC;have dwC:=λo=>hbwC.cell (p:=⟨w.heap.size,o,none⟩) omm;clear hbwC)|(go_at_call 76;(with_reducible refine (HTEX.out false htex _ HBwC.out).mono ?_);rintro e wX ⟨rfl,hbwX⟩;have hzwX:=hbwX.size;(try simp at hzwX);have HBwX:=bh w hbwX;have dwX:=λo=>hbwX.cell (p:=⟨w.heap.size,o,none⟩) omm;clear hbwX)|fail)
  go_ret
  exact ⟨Zad HF.out.symm,HBwX.out⟩
 | true =>
 cases hin:inB s.ps.length 1 3 with
 | false =>
  have HF:=qh (Za0 s=false) (by rw [HD.out,hin];simp)
  go_enter Tryz.func27,Tryz.ntmps27
  go_wp2_with (first|(go_at_call 75;(with_reducible refine (HCAM.out true hcam _).mono ?_);rintro e wC ⟨rfl,hbwC⟩;have hzwC:=hbwC.size;(try simp at hzwC);have HBwC:=bh w hbwC;have dwC:=λo=>hbwC.cell (p:=⟨w.heap.size,o,none⟩) omm;clear hbwC)|(go_at_call 76;(with_reducible refine (HTEX.out true htex _ HBwC.out).mono ?_);rintro e wX ⟨rfl,hbwX⟩;have hzwX:=hbwX.size;(try simp at hzwX);have HBwX:=bh w hbwX;have dwX:=λo=>hbwX.cell (p:=⟨w.heap.size,o,none⟩) omm;clear hbwX)|(go_at_call 77;(with_reducible refine (HIN.out false hin _).mono ?_);rintro e w' ⟨rfl,rfl⟩)|fail)
  go_ret
  exact ⟨Zad HF.out.symm,HBwX.out⟩
 | true =>
 by_cases hle:s.ss.length<=5
 rotate_left
 ·have HF:=qh (Za0 s=false) (by rw [HD.out];simp [hle])
  have hgt:(5:Int)<s.ss.length:=qo
  go_enter Tryz.func27,Tryz.ntmps27
  go_wp2_with (first|(go_at_call 75;(with_reducible refine (HCAM.out true hcam _).mono ?_);rintro e wC ⟨rfl,hbwC⟩;have hzwC:=hbwC.size;(try simp at hzwC);have HBwC:=bh w hbwC;have dwC:=λo=>hbwC.cell (p:=⟨w.heap.size,o,none⟩) omm;clear hbwC)|(go_at_call 76;(with_reducible refine (HTEX.out true htex _ HBwC.out).mono ?_);rintro e wX ⟨rfl,hbwX⟩;have hzwX:=hbwX.size;(try simp at hzwX);have HBwX:=bh w hbwX;have dwX:=λo=>hbwX.cell (p:=⟨w.heap.size,o,none⟩) omm;clear hbwX)|(go_at_call 77;(with_reducible refine (HIN.out true hin _).mono ?_);rintro e w' ⟨rfl,rfl⟩)|fail)
  go_ret
  exact ⟨Zad HF.out.symm,HBwX.out⟩
 have hgt:¬ (5:Int)<s.ss.length:=qo
 cases hsd:sideB s.side with
 | false =>
  have HF:=qh (Za0 s=false) (by rw [HD.out,hsd];simp)
  go_enter Tryz.func27,Tryz.ntmps27
  go_wp2_with (first|(go_at_call 75;(with_reducible refine (HCAM.out true hcam _).mono ?_);rintro e wC ⟨rfl,hbwC⟩;have hzwC:=hbwC.size;(try simp at hzwC);have HBwC:=bh w hbwC;have dwC:=λo=>hbwC.cell (p:=⟨w.heap.size,o,none⟩) omm;clear hbwC)|(go_at_call 76;(with_reducible refine (HTEX.out true htex _ HBwC.out).mono ?_);rintro e wX ⟨rfl,hbwX⟩;have hzwX:=hbwX.size;(try simp at hzwX);have HBwX:=bh w hbwX;have dwX:=λo=>hbwX.cell (p:=⟨w.heap.size,o,none⟩) omm;clear hbwX)|(go_at_call 77;(with_reducible refine (HIN.out true hin _).mono ?_);rintro e w' ⟨rfl,rfl⟩)|(go_at_call 78;(with_reducible refine (HSD.out false hsd _).mono ?_);rintro e w' ⟨rfl,rfl⟩)|fail)
  go_ret
  exact ⟨Zad HF.out.symm,HBwX.out⟩
 | true =>
 have HT:=qh (Zel s.ps s.ps.length=true->Zcy s.ps.length s.ss s.ss.length=true->Za0 s=true) (λh1 h2=>by rw [HD.out,hcam,htex,hin,hsd,h1,h2];simp [hle])
 go_enter Tryz.func27,Tryz.ntmps27
 go_upto_region 3 with (first|(go_at_call 75;(with_reducible refine (HCAM.out true hcam _).mono ?_);rintro e wC ⟨rfl,hbwC⟩;have hzwC:=hbwC.size;(try simp at hzwC);have HBwC:=bh w hbwC;have dwC:=λo=>hbwC.cell (p:=⟨w.heap.size,o,none⟩) omm;have HPwC:=qh (Own wC w.heap.size 30 [.int .i64 s.a,.int .i64 s.b,.int .i64 s.c,.int .i64 s.d,.bool s.e,.int .i64 s.f,.int .i64 s.g,.int .i64 s.log,.slice T s.tex.length tc,.slice P s.ps.length pc,.slice Q s.ss.length qc,.int .i64 s.side]) (Own.step hbwC HPZ.out);clear hbwC)|(go_at_call 76;(with_reducible refine (HTEX.out true htex _ HBwC.out).mono ?_);rintro e wX ⟨rfl,hbwX⟩;have hzwX:=hbwX.size;(try simp at hzwX);have HBwX:=bh w hbwX;have dwX:=λo=>hbwX.cell (p:=⟨w.heap.size,o,none⟩) omm;have HPwX:=qh (Own wX w.heap.size 30 [.int .i64 s.a,.int .i64 s.b,.int .i64 s.c,.int .i64 s.d,.bool s.e,.int .i64 s.f,.int .i64 s.g,.int .i64 s.log,.slice T s.tex.length tc,.slice P s.ps.length pc,.slice Q s.ss.length qc,.int .i64 s.side]) (Own.step hbwX HPwC.out);clear hbwX)|(go_at_call 77;(with_reducible refine (HIN.out true hin _).mono ?_);rintro e w' ⟨rfl,rfl⟩)|(go_at_call 78;(with_reducible refine (HSD.out true hsd _).mono ?_);rintro e w' ⟨rfl,rfl⟩)|fail)
 have t0:wX.cell? ⟨w.heap.size,0,none⟩=some (.int .i64 s.a):=HPwX.out.cell 0
 have t1:wX.cell? ⟨w.heap.size,1,none⟩=some (.int .i64 s.b):=HPwX.out.cell 1
 have t2:wX.cell? ⟨w.heap.size,2,none⟩=some (.int .i64 s.c):=HPwX.out.cell 2
 have t3:wX.cell? ⟨w.heap.size,3,none⟩=some (.int .i64 s.d):=HPwX.out.cell 3
 have t4:wX.cell? ⟨w.heap.size,4,none⟩=some (.bool s.e):=HPwX.out.cell 4
 have t5:wX.cell? ⟨w.heap.size,5,none⟩=some (.int .i64 s.f):=HPwX.out.cell 5
 have t6:wX.cell? ⟨w.heap.size,6,none⟩=some (.int .i64 s.g):=HPwX.out.cell 6
 have t7:wX.cell? ⟨w.heap.size,7,none⟩=some (.int .i64 s.log):=HPwX.out.cell 7
 have t8:wX.cell? ⟨w.heap.size,8,none⟩=some (.slice T s.tex.length tc):=HPwX.out.cell 8
 have t9:wX.cell? ⟨w.heap.size,9,none⟩=some (.slice P s.ps.length pc):=HPwX.out.cell 9
 have t10:wX.cell? ⟨w.heap.size,10,none⟩=some (.slice Q s.ss.length qc):=HPwX.out.cell 10
 have t11:wX.cell? ⟨w.heap.size,11,none⟩=some (.int .i64 s.side):=HPwX.out.cell 11
 have hlX:=HPwX.out.lt
 go_wp2_with fail
 go_loopw [4,39] (λ_ i wr=>∃ k:Nat,k<=s.ps.length/\i=.int .i64 k/\Zel s.ps k=true/\Own wr w.heap.size 30 [.int .i64 s.a,.int .i64 s.b,.int .i64 s.c,.int .i64 s.d,.bool s.e,.int .i64 s.f,.int .i64 s.g,.int .i64 s.log,.slice T s.tex.length tc,.slice P s.ps.length pc,.slice Q s.ss.length qc,.int .i64 s.side]/\Below w.heap.size w wr) (λ_ i _=>s.ps.length-(RowKit.intOf i).toNat)
 case atStart=>exact ⟨0,Nat.zero_le _,rfl,rfl,HPwX.out,HBwX.out⟩
 case round =>
  obtain ⟨k,hk,rfl,hsh,hp,hb⟩:=hrel
  obtain ⟨wo,rfl⟩:=qe wr
  have hz:=hb.size
  have hl:=hp.lt
  have HSH:=hdQ hsh
  have HP:=hdQ hp
  have HB:=hdQ hb
  have u0:wo.cell? ⟨w.heap.size,0,none⟩=some (.int .i64 s.a):=hp.cell 0
  have u1:wo.cell? ⟨w.heap.size,1,none⟩=some (.int .i64 s.b):=hp.cell 1
  have u2:wo.cell? ⟨w.heap.size,2,none⟩=some (.int .i64 s.c):=hp.cell 2
  have u3:wo.cell? ⟨w.heap.size,3,none⟩=some (.int .i64 s.d):=hp.cell 3
  have u4:wo.cell? ⟨w.heap.size,4,none⟩=some (.bool s.e):=hp.cell 4
  have u5:wo.cell? ⟨w.heap.size,5,none⟩=some (.int .i64 s.f):=hp.cell 5
  have u6:wo.cell? ⟨w.heap.size,6,none⟩=some (.int .i64 s.g):=hp.cell 6
  have u7:wo.cell? ⟨w.heap.size,7,none⟩=some (.int .i64 s.log):=hp.cell 7
  have u8:wo.cell? ⟨w.heap.size,8,none⟩=some (.slice T s.tex.length tc):=hp.cell 8
  have u9:wo.cell? ⟨w.heap.size,9,none⟩=some (.slice P s.ps.length pc):=hp.cell 9
  have u10:wo.cell? ⟨w.heap.size,10,none⟩=some (.slice Q s.ss.length qc):=hp.cell 10
  have u11:wo.cell? ⟨w.heap.size,11,none⟩=some (.int .i64 s.side):=hp.cell 11
  clear hp hb hsh
  by_cases hlt:k<s.ps.length
  ·obtain ⟨b,o,A1,c1,A2,c2,rfl,hbh,hpi,hn1,hn2,x0,x1⟩:=H0.out.ps.2.2 k hlt
   have y0:=(HB.out.cell (p:=⟨b,o+k*2,none⟩) hbh).trans x0
   have y1:=(HB.out.cell (p:=⟨b,o+k*2+1,none⟩) hbh).trans x1
   have HSU:=hdQ (shadTo_succ hlt)
   have HNO:=hdQ (shadTo_no hlt)
   obtain ⟨x,hx⟩:=qv (s.ps[k])
   rw [hx] at y0 y1 HSU HNO hpi hn1 hn2
   have HC:=qh (∀ wx,Below w.heap.size w wx->CB_ Tryz.prog 79 #[Zbs A1 x.1.length c1 A2 x.2.length c2] wx (.bool (Zbd x))) (λwx hbx=>I_isOk wx (hpi.step hbx) hn1 hn2)
   have hwn:¬ wo.heap.size=w.heap.size:=qo
   have hwn2:¬ w.heap.size=wo.heap.size:=qo
   have j1:(k:Int)<s.ps.length:=qo
   have j2:(0:Int)<=k:=qo
   clear hpi hx x0 x1
   cases hok:Zbd x with
   | false =>
    have HF:=qh (Za0 s=false) (by rw [HD.out,HNO.out hok];simp)
    rw [hok] at HC
    go_wp2_with (first|(go_at_call 79;(with_reducible refine (HC.out _ bll).mono ?_);rintro e wK ⟨rfl,hbK⟩;have HBK:=bh w hbK;have HPK:=qh (Own wK w.heap.size 30 [.int .i64 s.a,.int .i64 s.b,.int .i64 s.c,.int .i64 s.d,.bool s.e,.int .i64 s.f,.int .i64 s.g,.int .i64 s.log,.slice T s.tex.length tc,.slice (some ⟨b,o,none⟩) s.ps.length pc,.slice Q s.ss.length qc,.int .i64 s.side]) (Own.step hbK (owx HP.out));clear hbK)|fail)
    go_ret
    exact ⟨Zad HF.out.symm,HBK.out⟩
   | true =>
    have HK:=qh (Zel s.ps (k+1)=true) (by rw [HSU.out,HSH.out,hok];rfl)
    rw [hok] at HC
    go_wp2_with (first|(go_at_call 79;(with_reducible refine (HC.out _ bll).mono ?_);rintro e wK ⟨rfl,hbK⟩;have HBK:=bh w hbK;have HPK:=qh (Own wK w.heap.size 30 [.int .i64 s.a,.int .i64 s.b,.int .i64 s.c,.int .i64 s.d,.bool s.e,.int .i64 s.f,.int .i64 s.g,.int .i64 s.log,.slice T s.tex.length tc,.slice (some ⟨b,o,none⟩) s.ps.length pc,.slice Q s.ss.length qc,.int .i64 s.side]) (Own.step hbK (owx HP.out));clear hbK)|fail)
    go_roundw
    case rel=>exact ⟨k+1,qo,qg,HK.out,HPK.out,HBK.out⟩
    case measure=>exact qn
  ·obtain rfl:k=s.ps.length:=by omega
   go_wp2_with fail
   go_loopw [6,50] (λ_ i wr=>∃ k:Nat,k<=s.ss.length/\i=.int .i64 k/\Zcy s.ps.length s.ss k=true/\Own wr w.heap.size 30 [.int .i64 s.a,.int .i64 s.b,.int .i64 s.c,.int .i64 s.d,.bool s.e,.int .i64 s.f,.int .i64 s.g,.int .i64 s.log,.slice T s.tex.length tc,.slice P s.ps.length pc,.slice Q s.ss.length qc,.int .i64 s.side]/\Below w.heap.size w wr) (λ_ i _=>s.ss.length-(RowKit.intOf i).toNat)
   case atStart=>exact ⟨0,Nat.zero_le _,rfl,rfl,HP.out,HB.out⟩
   case round =>
    obtain ⟨k2,hk2,rfl,hss,hp2,hb2⟩:=hrel
    obtain ⟨wi,rfl⟩:=qe wr
    have hz2:=hb2.size
    have hl2:=hp2.lt
    have HSS:=hdQ hss
    have HP2:=hdQ hp2
    have HB2:=hdQ hb2
    have v0:wi.cell? ⟨w.heap.size,0,none⟩=some (.int .i64 s.a):=hp2.cell 0
    have v1:wi.cell? ⟨w.heap.size,1,none⟩=some (.int .i64 s.b):=hp2.cell 1
    have v2:wi.cell? ⟨w.heap.size,2,none⟩=some (.int .i64 s.c):=hp2.cell 2
    have v3:wi.cell? ⟨w.heap.size,3,none⟩=some (.int .i64 s.d):=hp2.cell 3
    have v4:wi.cell? ⟨w.heap.size,4,none⟩=some (.bool s.e):=hp2.cell 4
    have v5:wi.cell? ⟨w.heap.size,5,none⟩=some (.int .i64 s.f):=hp2.cell 5
    have v6:wi.cell? ⟨w.heap.size,6,none⟩=some (.int .i64 s.g):=hp2.cell 6
    have v7:wi.cell? ⟨w.heap.size,7,none⟩=some (.int .i64 s.log):=hp2.cell 7
    have v8:wi.cell? ⟨w.heap.size,8,none⟩=some (.slice T s.tex.length tc):=hp2.cell 8
    have v9:wi.cell? ⟨w.heap.size,9,none⟩=some (.slice P s.ps.length pc):=hp2.cell 9
    have v10:wi.cell? ⟨w.heap.size,10,none⟩=some (.slice Q s.ss.length qc):=hp2.cell 10
    have v11:wi.cell? ⟨w.heap.size,11,none⟩=some (.int .i64 s.side):=hp2.cell 11
    clear hp2 hb2 hss
    by_cases hlt2:k2<s.ss.length
    ·obtain ⟨b,o,rfl,hbh,hsf⟩:=H0.out.ss.2.2 k2 hlt2
     have hsw:=hsf.below HB2.out hbh
     have HSU:=hdQ (surfsTo_succ (n:=s.ps.length) hlt2)
     have HNO:=hdQ (surfsTo_no (n:=s.ps.length) hlt2)
     obtain ⟨⟨p,q,sh,rt⟩,hx⟩:∃ x,s.ss[k2]=x:=⟨_,rfl⟩
     rw [hx] at hsw HSU HNO
     (try dsimp only at hsw)
     obtain ⟨w1,w2,V,hV,hld,hal,hst,hlv,hz3,hbw,_⟩:=surf_box hsw
     have HLD:=hdQ hld
     have HAL:=hdQ hal
     have HST:=hdQ hst
     have HLV:=hdQ hlv
     have HV:=hdQ hV
     have HBW:=qh (Below w.heap.size w w2) (Below.step hbw HB2.out HB2.out.size)
     have HPW:=qh (Own w2 w.heap.size 30 [.int .i64 s.a,.int .i64 s.b,.int .i64 s.c,.int .i64 s.d,.bool s.e,.int .i64 s.f,.int .i64 s.g,.int .i64 s.log,.slice T s.tex.length tc,.slice P s.ps.length pc,.slice (some ⟨b,o,none⟩) s.ss.length qc,.int .i64 s.side]) (Own.step hbw HP2.out)
     have x9:w2.cell? ⟨w.heap.size,9,none⟩=some (.slice P s.ps.length pc):=HPW.out.cell 9
     clear hsw hV hld hal hst hlv hbw
     have hwn:¬ wi.heap.size=w.heap.size:=qo
     have hwn2:¬ w.heap.size=wi.heap.size:=qo
     have j1:(k2:Int)<s.ss.length:=qo
     have j2:(0:Int)<=k2:=qo
     clear hsf hx
     cases hok:surfOk s.ps.length (p,q,sh,rt) with
     | false =>
      have HF:=qh (Za0 s=false) (by rw [HD.out,HNO.out hok];simp)
      have HC:=qh (∀ wx,CB_ Tryz.prog 80 #[V,.int .i64 s.ps.length] wx (.bool false)) (λwx=>by rw [HV.out];have:=I_IsValidSurface p q sh rt s.ps.length wx;rw [hok] at this;exact this)
      go_wp2_with (first|(refine Zaj rfl 45 (.tmp 52) rfl rfl HLD.out ?_)|(refine Zao rfl 45 rfl HAL.out ?_)|(refine Zaf rfl 45 (.tmp 6) (.tmp 53) rfl rfl rfl HST.out ?_)|(refine Zaj rfl 45 (.tmp 6) rfl rfl HLV.out ?_)|(go_at_call 80;(with_reducible refine (HC.out _).mono ?_);rintro e wS ⟨rfl,hbwS⟩;have hzwS:=hbwS.size;(try simp at hzwS);have HBwS:=bh w hbwS;clear hbwS)|fail)
      go_ret
      exact ⟨Zad HF.out.symm,HBwS.out⟩
     | true =>
      have HK:=qh (Zcy s.ps.length s.ss (k2+1)=true) (by rw [HSU.out,HSS.out,hok];rfl)
      have HC:=qh (∀ wx,CB_ Tryz.prog 80 #[V,.int .i64 s.ps.length] wx (.bool true)) (λwx=>by rw [HV.out];have:=I_IsValidSurface p q sh rt s.ps.length wx;rw [hok] at this;exact this)
      go_wp2_with (first|(refine Zaj rfl 45 (.tmp 52) rfl rfl HLD.out ?_)|(refine Zao rfl 45 rfl HAL.out ?_)|(refine Zaf rfl 45 (.tmp 6) (.tmp 53) rfl rfl rfl HST.out ?_)|(refine Zaj rfl 45 (.tmp 6) rfl rfl HLV.out ?_)|(go_at_call 80;(with_reducible refine (HC.out _).mono ?_);rintro e wS ⟨rfl,hbS⟩;have HPS:=qh (Own wS w.heap.size 30 [.int .i64 s.a,.int .i64 s.b,.int .i64 s.c,.int .i64 s.d,.bool s.e,.int .i64 s.f,.int .i64 s.g,.int .i64 s.log,.slice T s.tex.length tc,.slice P s.ps.length pc,.slice (some ⟨b,o,none⟩) s.ss.length qc,.int .i64 s.side]) (Own.step hbS HPW.out);have HBS:=qh (Below w.heap.size w wS) (Below.step hbS HBW.out HBW.out.size);clear hbS)|fail)
      go_roundw
      case rel=>exact ⟨k2+1,qo,qg,HK.out,HPS.out,HBS.out⟩
      case measure=>exact qn
    ·obtain rfl:k2=s.ss.length:=by omega
     have HF:=hdQ (HT.out HSH.out HSS.out)
     go_wp2_with fail
     go_ret
     exact ⟨Zad HF.out.symm,HB2.out⟩
theorem numF_nat (m:Nat) (h:m<=2559999):numF (m:Int)=if m % 256=0 then decDigits (m / 256) else decDigits (m / 256)++46::fracT (m % 256):=by
 unfold numF
 rw [if_pos qo]
 have e1:((m:Int) / 256).toNat=m / 256:=qo
 have e2:((m:Int) % 256).toNat=m % 256:=qo
 rw [e1,e2]
 by_cases h0:m % 256=0
 ·rw [if_pos h0,if_pos qo]
 ·rw [if_neg h0,if_neg qo]
theorem repeatL_one (b:UInt8) (c:Nat):Lib.repeatL [b] c=List.replicate c b:=by
 induction c with
 | zero=>rfl
 | succ c ih=>first|(rw [Lib.repeatL,ih,List.replicate_succ];rfl)|(simp [Lib.repeatL,List.replicate_succ])
def p10 (k:Nat):Nat:=10 ^ k
theorem frac_at {r d:Nat} (h:Zd4 r d=true):(r*10 ^ d+255) / 256<10 ^ d/\(r*10 ^ d+255) / 256*256 / 10 ^ d=r:=by
 unfold Zd4 at h
 simpa [Bool.and_eq_true] using h
theorem S_l12Pad {n k:Nat} (w:World) (hn:n<=1000000000) (hk:k<=4) :
  Calls Tryz.prog 229 #[.int .i64 n,.int .i64 k] w λe w'=>e=.returned (str (List.replicate (k-(decDigits n).length) 48++decDigits n))/\Below w.heap.size w w':=by
 have hD:(decDigits n).length<=10:=by rw [decDigits_length];have:=Zef 9 n qo;omega
 have HC:=qh (∀ wx,CB_ Tryz.prog 58 #[.int .i64 n] wx (str (decDigits n))) (λwx=>Zdk n hn wx)
 generalize decDigits n=D at *
 go_enter Tryz.func229,Tryz.ntmps229
 go_wp2_with fail
 refine (HC.out _).mono ?_
 rintro e w1 ⟨rfl,hb1⟩
 have HB1:=hdQ hb1
 clear hb1
 go_wp2_with fail
 go_loop [5] (λs=>∃ j:Nat,s=str (List.replicate j 48++D)/\(j=0∨j+D.length<=k)) (λs=>k-(match s with | .string b=>b.size|_=>0))
 case atStart=>exact ⟨0,qs,.inl rfl⟩
 case round =>
  obtain ⟨j,rfl,hj⟩:=hrel
  have hlen:(List.replicate j (48:UInt8)++D).length=j+D.length:=qs
  have HS:=qh ([48]++(List.replicate j (48:UInt8)++D)=List.replicate (j+1) 48++D) (by rw [List.replicate_succ];rfl)
  generalize hX:List.replicate j (48:UInt8)++D=X at *
  by_cases hlt:X.length<k
  ·have i1:(X.length:Int)<k:=by omega
   have hsl:¬ 9223372036854775807<1+X.length:=qo
   go_wp2_with fail
   go_round
   case rel=>exact ⟨j+1,by rw [<- HS.out];show Value.string (({ data:=[48].toArray }:ByteArray)++{ data:=X.toArray })=_;rw [Zab],.inr qo⟩
   case measure=>first|omega|(simp;omega)|(simp [ByteArray.size];omega)
  ·have i1:¬ (X.length:Int)<k:=by omega
   have HE:=qh (List.replicate (k-D.length) (48:UInt8)++D=X) (by rw [show k-D.length=j by omega];exact hX)
   go_wp2_with fail
   go_ret
   exact ⟨by rw [HE.out];rfl,HB1.out⟩
theorem I_powerN {k:Nat} (w:World) (hk:k<=4) :
  Calls Tryz.prog 215 #[.int .i64 k] w λe w'=>e=.returned (.int .i64 (p10 k:Int))/\w=w':=by
 go_enter Tryz.func215,Tryz.ntmps215
 go_wp2_with fail
 go_loop [3,5] (λn i=>∃ j:Nat,j<=k/\i=.int .i64 j/\n=.int .i64 (p10 j:Int)) (λ_ i=>k-(RowKit.intOf i).toNat)
 case atStart=>exact ⟨0,Nat.zero_le _,rfl,rfl⟩
 case round =>
  obtain ⟨j,hj,rfl,rfl⟩:=hrel
  have hp:p10 j<=10 ^ 4:=Nat.pow_le_pow_right qo qo
  have HS:=qh (p10 (j+1)=p10 j*10) (Nat.pow_succ 10 j)
  generalize hq:p10 j=q at *
  have HQ:=hdQ hq
  clear hq
  by_cases hlt:j<k
  ·have i1:(j:Int)<k:=by omega
   have hw:IntKind.i64.wrap ((q:Int)*10)=(q:Int)*10:=IntWalk.i64_in _ qo
   go_wp2_with fail
   go_round
   case rel=>exact ⟨j+1,qo,qg,by rw [HS.out];first|rfl|exact congrArg (Value.int .i64) (by push_cast;rfl)|exact congrArg (Value.int .i64) qo⟩
   case measure=>exact qn
  ·obtain rfl:j=k:=by omega
   go_wp2_with fail
   go_ret
   exact ⟨ret_int (by rw [HQ.out]),rfl⟩
theorem I_power_is {k:Nat} {u:Nat} (h:p10 k=u) (hk:k<=4) (w:World):Calls Tryz.prog 215 #[.int .i64 k] w λe w'=>e=.returned (.int .i64 u)/\w=w':=by subst h;exact I_powerN w hk
theorem Zdo (n:Nat) (hn:n<=1000000000) (w:World) (ht:Tab w):Calls Tryz.prog 42 #[.int .i64 n] w λe w'=>e=.returned (str (decDigits n))/\Below w.heap.size w w':=by
 have h:=Zdy (n:Int) w ht
 have e:fmtI (n:Int)=decDigits n:=by
  rw [fmtI_in (by unfold Zcg;omega)];unfold itoa;rw [if_neg qo];rfl
 rw [e] at h
 exact h
theorem S_FormatNumber {m:Nat} (w:World) (hm:m<=2559999) :
  Calls Tryz.prog 185 #[.int .i64 m] w λe w'=>e=.returned (str (numF (m:Int)))/\Below w.heap.size w w':=by
 have HN:=hdQ (numF_nat m hm)
 have hin:inB (m:Int) 0 2559999=true:=inB_mk qo qo
 have t1:(m:Int).tdiv 256=((m / 256:Nat):Int):=by rw [Int.tdiv_eq_ediv_of_nonneg qo];omega
 have t2:(m:Int).tmod 256=((m % 256:Nat):Int):=by rw [Int.tmod_eq_emod_of_nonneg qo];omega
 have hr:m % 256<256:=Nat.mod_lt _ qo
 have hq:m / 256<=9999:=qo
 obtain ⟨q,eq⟩:=qv (m / 256)
 obtain ⟨r,er⟩:=qv (m % 256)
 rw [eq,er] at HN
 rw [eq] at t1 hq
 rw [er] at t2 hr
 have HW:=qh (∀ wx,Below w.heap.size w wx->CB_ Tryz.prog 58 #[.int .i64 q] wx (str (decDigits q))) (λwx hb=>Zdk q qo wx)
 have hwl:(decDigits q).length<=4:=Zax 4 q qo qo
 generalize decDigits q=W at *
 have IN:=qh (∀ wx,Calls Tryz.prog 119 #[.int .i64 m,.int .i64 0,.int .i64 2559999] wx λe w'=>e=.returned (.bool true)/\wx=w') (λwx=>Zca hin wx)
 clear eq er
 by_cases h0:r=0
 ·have HE:=qh (numF (m:Int)=W) (by rw [HN.out,if_pos h0])
  subst h0
  go_enter Tryz.func185,Tryz.ntmps185
  go_wp2_with (first|(go_at_call 119;refine (IN.out _).mono ?_;rintro e w' ⟨rfl,rfl⟩)|(go_at_call 58;refine (HW.out _ bll).mono ?_;rintro e w1 ⟨rfl,hb1⟩;have HB1:=hdQ hb1;clear hb1)|fail)
  go_ret
  exact ⟨by rw [HE.out];rfl,HB1.out⟩
 have hne:((r:Int)==0)=false:=by simp;omega
 have hne':¬ (r:Int)=0:=qo
 have HE:=qh (numF (m:Int)=W++46::fracT r) (by rw [HN.out,if_neg h0])
 have hfl:=Zf8 r
 have HOK:=hdQ (fracLen_ok hr)
 have HLE:=qh (∀ k,1<=k->k<fracLen r->Zd4 r k=false) (λk h1 h2=>fracLen_least h1 h2)
 have HFT:=qh (fracT r=List.replicate (fracLen r-(decDigits (Zcr r)).length) 48++decDigits (Zcr r)) rfl
 have HFN:=qh (Zcr r=(r*10 ^ fracLen r+255) / 256) rfl
 generalize fracLen r=L at *
 clear HN h0
 go_enter Tryz.func185,Tryz.ntmps185
 go_wp2_with (first|(go_at_call 119;refine (IN.out _).mono ?_;rintro e w' ⟨rfl,rfl⟩)|(go_at_call 58;refine (HW.out _ bll).mono ?_;rintro e w1 ⟨rfl,hb1⟩;have HB1:=hdQ hb1;clear hb1)|fail)
 go_loop [5,6,7] (λu d _=>∃ k:Nat,1<=k/\k<=L/\d=.int .i64 k/\u=.int .i64 (p10 (k-1):Int)) (λ_ d _=>5-(RowKit.intOf d).toNat)
 case atStart=>exact ⟨1,qo,qo,rfl,rfl⟩
 case round =>
  obtain ⟨k,hk1,hkL,rfl,rfl⟩:=hrel
  rcases (show k=1∨k=2∨k=3 by omega) with rfl|rfl|rfl
  ·rw [show ((1:Nat):Int)=1 from rfl,show (p10 (1-1):Int)=1 from rfl]
   have f1:(((r:Int)*10)+255).tdiv 256=(((r*10+255) / 256:Nat):Int):=by rw [Int.tdiv_eq_ediv_of_nonneg qo];omega
   have f0:IntKind.i64.wrap ((r:Int)*10)=(r:Int)*10:=IntWalk.i64_in _ qo
   have f00:IntKind.i64.wrap ((r:Int)*10+255)=(r:Int)*10+255:=IntWalk.i64_in _ qo
   have hF:(r*10+255) / 256<=1000:=qo
   have g1:(((((r*10+255) / 256:Nat):Int))*256).tdiv 10=(((r*10+255) / 256*256 / 10:Nat):Int):=by rw [Int.tdiv_eq_ediv_of_nonneg qo];omega
   have HF:=qh (1=L->(r*10+255) / 256<10/\(r*10+255) / 256*256 / 10=r/\Zcr r=(r*10+255) / 256) (λe=>by have h1:=frac_at HOK.out;have h2:=HFN.out;rw [<- e] at h1 h2;exact ⟨h1.1,h1.2,h2⟩)
   have HG:=qh (1<L->¬ ((r*10+255) / 256<10/\(r*10+255) / 256*256 / 10=r)) (λe hh=>by have h1:=HLE.out 1 qo e;unfold Zd4 at h1;simp only [Nat.reducePow,Nat.pow_one] at h1;simp [hh.1,hh.2] at h1)
   have HFX:=qh (∀ x,(r*10+255) / 256=x->x=(r*10+255) / 256) (λx h=>h.symm)
   generalize hX:(r*10+255) / 256=X at *
   have g0:IntKind.i64.wrap ((X:Int)*256)=(X:Int)*256:=IntWalk.i64_in _ qo
   have hY:X*256 / 10<=256000:=qo
   generalize X*256 / 10=Y at *
   have yw:IntKind.i64.wrap (Y:Int)=Y:=IntWalk.i64_in _ qo
   clear hX HFX
   by_cases hd:1=L
   ·obtain ⟨a1,a2,a3⟩:=HF.out hd
    have i1:(X:Int)<10:=qo
    have e1:((Y:Int)==r)=true:=by simp;omega
    have e2:(Y:Int)=r:=qo
    subst a2
    have hdl:(decDigits X).length<=1:=Zax 1 X qo qo
    have HR:=qh (numF (m:Int)=W++[46]++(List.replicate (1-(decDigits X).length) 48++decDigits X)) (by rw [HE.out,HFT.out,a3,<- hd];simp)
    have HP:=qh (∀ wx,CB_ Tryz.prog 229 #[.int .i64 X,.int .i64 1] wx (str (List.replicate (1-(decDigits X).length) 48++decDigits X))) (λwx=>S_l12Pad (k:=1) wx qo qo)
    have hpl:(List.replicate (1-(decDigits X).length) (48:UInt8)++decDigits X).length<=3:=by rw [List.length_append,List.length_replicate];omega
    generalize List.replicate (1-(decDigits X).length) (48:UInt8)++decDigits X=Z at *
    have l1:¬ 9223372036854775807<W.length+1:=qo
    have l2:¬ 9223372036854775807<W.length+1+Z.length:=qo
    clear a3 HF HG HE HOK HLE HFT HFN
    go_wp2_with (first|(go_at_call 229;refine (HP.out _).mono ?_;rintro e w2 ⟨rfl,hb2⟩;have HB2:=qh (Below w.heap.size w w2) (Below.step hb2 HB1.out HB1.out.size);clear hb2)|fail)
    go_ret
    exact ⟨by rw [HR.out];show Ending.returned (Value.string (({ data:=W.toArray }:ByteArray)++{ data:=[46].toArray }++{ data:=Z.toArray }))=_;rw [Zab,Zab],HB2.out⟩
   ·have hng:=HG.out qo
    by_cases a1:X<10
    ·have i1:(X:Int)<10:=by omega
     have a2:Y≠r:=λh=>hng ⟨a1,h⟩
     have e1:((Y:Int)==r)=false:=by simp;omega
     have e2:(Y==r)=false:=by simpa using a2
     have e3:¬ (Y:Int)=r:=qo
     have e4:decide (Y=r)=false:=by simpa using a2
     have e5:decide ((Y:Int)=r)=false:=by simpa using e3
     clear HF HG HE HOK HLE HFT HFN hng
     go_wp2_with fail
     go_round
     case rel=>exact ⟨2,qo,qo,qg,by first|rfl|go_num⟩
     case measure=>exact qn
    ·have i1:¬ (X:Int)<10:=by omega
     clear HF HG HE HOK HLE HFT HFN hng
     go_wp2_with fail
     go_round
     case rel=>exact ⟨2,qo,qo,qg,by first|rfl|go_num⟩
     case measure=>exact qn
  ·rw [show ((2:Nat):Int)=2 from rfl,show (p10 (2-1):Int)=10 from rfl]
   have f1:(((r:Int)*100)+255).tdiv 256=(((r*100+255) / 256:Nat):Int):=by rw [Int.tdiv_eq_ediv_of_nonneg qo];omega
   have f0:IntKind.i64.wrap ((r:Int)*100)=(r:Int)*100:=IntWalk.i64_in _ qo
   have f00:IntKind.i64.wrap ((r:Int)*100+255)=(r:Int)*100+255:=IntWalk.i64_in _ qo
   have hF:(r*100+255) / 256<=1000:=qo
   have g1:(((((r*100+255) / 256:Nat):Int))*256).tdiv 100=(((r*100+255) / 256*256 / 100:Nat):Int):=by rw [Int.tdiv_eq_ediv_of_nonneg qo];omega
   have HF:=qh (2=L->(r*100+255) / 256<100/\(r*100+255) / 256*256 / 100=r/\Zcr r=(r*100+255) / 256) (λe=>by have h1:=frac_at HOK.out;have h2:=HFN.out;rw [<- e] at h1 h2;exact ⟨h1.1,h1.2,h2⟩)
   have HG:=qh (2<L->¬ ((r*100+255) / 256<100/\(r*100+255) / 256*256 / 100=r)) (λe hh=>by have h1:=HLE.out 2 qo e;unfold Zd4 at h1;simp only [Nat.reducePow,Nat.pow_one] at h1;simp [hh.1,hh.2] at h1)
   have HFX:=qh (∀ x,(r*100+255) / 256=x->x=(r*100+255) / 256) (λx h=>h.symm)
   generalize hX:(r*100+255) / 256=X at *
   have g0:IntKind.i64.wrap ((X:Int)*256)=(X:Int)*256:=IntWalk.i64_in _ qo
   have hY:X*256 / 100<=256000:=qo
   generalize X*256 / 100=Y at *
   have yw:IntKind.i64.wrap (Y:Int)=Y:=IntWalk.i64_in _ qo
   clear hX HFX
   by_cases hd:2=L
   ·obtain ⟨a1,a2,a3⟩:=HF.out hd
    have i1:(X:Int)<100:=qo
    have e1:((Y:Int)==r)=true:=by simp;omega
    have e2:(Y:Int)=r:=qo
    subst a2
    have hdl:(decDigits X).length<=2:=Zax 2 X qo qo
    have HR:=qh (numF (m:Int)=W++[46]++(List.replicate (2-(decDigits X).length) 48++decDigits X)) (by rw [HE.out,HFT.out,a3,<- hd];simp)
    have HP:=qh (∀ wx,CB_ Tryz.prog 229 #[.int .i64 X,.int .i64 2] wx (str (List.replicate (2-(decDigits X).length) 48++decDigits X))) (λwx=>S_l12Pad (k:=2) wx qo qo)
    have hpl:(List.replicate (2-(decDigits X).length) (48:UInt8)++decDigits X).length<=3:=by rw [List.length_append,List.length_replicate];omega
    generalize List.replicate (2-(decDigits X).length) (48:UInt8)++decDigits X=Z at *
    have l1:¬ 9223372036854775807<W.length+1:=qo
    have l2:¬ 9223372036854775807<W.length+1+Z.length:=qo
    clear a3 HF HG HE HOK HLE HFT HFN
    go_wp2_with (first|(go_at_call 229;refine (HP.out _).mono ?_;rintro e w2 ⟨rfl,hb2⟩;have HB2:=qh (Below w.heap.size w w2) (Below.step hb2 HB1.out HB1.out.size);clear hb2)|fail)
    go_ret
    exact ⟨by rw [HR.out];show Ending.returned (Value.string (({ data:=W.toArray }:ByteArray)++{ data:=[46].toArray }++{ data:=Z.toArray }))=_;rw [Zab,Zab],HB2.out⟩
   ·have hng:=HG.out qo
    by_cases a1:X<100
    ·have i1:(X:Int)<100:=by omega
     have a2:Y≠r:=λh=>hng ⟨a1,h⟩
     have e1:((Y:Int)==r)=false:=by simp;omega
     have e2:(Y==r)=false:=by simpa using a2
     have e3:¬ (Y:Int)=r:=qo
     have e4:decide (Y=r)=false:=by simpa using a2
     have e5:decide ((Y:Int)=r)=false:=by simpa using e3
     clear HF HG HE HOK HLE HFT HFN hng
     go_wp2_with fail
     go_round
     case rel=>exact ⟨3,qo,qo,qg,by first|rfl|go_num⟩
     case measure=>exact qn
    ·have i1:¬ (X:Int)<100:=by omega
     clear HF HG HE HOK HLE HFT HFN hng
     go_wp2_with fail
     go_round
     case rel=>exact ⟨3,qo,qo,qg,by first|rfl|go_num⟩
     case measure=>exact qn
  ·rw [show ((3:Nat):Int)=3 from rfl,show (p10 (3-1):Int)=100 from rfl]
   have f1:(((r:Int)*1000)+255).tdiv 256=(((r*1000+255) / 256:Nat):Int):=by rw [Int.tdiv_eq_ediv_of_nonneg qo];omega
   have f0:IntKind.i64.wrap ((r:Int)*1000)=(r:Int)*1000:=IntWalk.i64_in _ qo
   have f00:IntKind.i64.wrap ((r:Int)*1000+255)=(r:Int)*1000+255:=IntWalk.i64_in _ qo
   have hF:(r*1000+255) / 256<=1000:=qo
   have g1:(((((r*1000+255) / 256:Nat):Int))*256).tdiv 1000=(((r*1000+255) / 256*256 / 1000:Nat):Int):=by rw [Int.tdiv_eq_ediv_of_nonneg qo];omega
   have HF:=qh (3=L->(r*1000+255) / 256<1000/\(r*1000+255) / 256*256 / 1000=r/\Zcr r=(r*1000+255) / 256) (λe=>by have h1:=frac_at HOK.out;have h2:=HFN.out;rw [<- e] at h1 h2;exact ⟨h1.1,h1.2,h2⟩)
   have HG:=qh (3<L->¬ ((r*1000+255) / 256<1000/\(r*1000+255) / 256*256 / 1000=r)) (λe hh=>by have h1:=HLE.out 3 qo e;unfold Zd4 at h1;simp only [Nat.reducePow,Nat.pow_one] at h1;simp [hh.1,hh.2] at h1)
   have HFX:=qh (∀ x,(r*1000+255) / 256=x->x=(r*1000+255) / 256) (λx h=>h.symm)
   generalize hX:(r*1000+255) / 256=X at *
   have g0:IntKind.i64.wrap ((X:Int)*256)=(X:Int)*256:=IntWalk.i64_in _ qo
   have hY:X*256 / 1000<=256000:=qo
   generalize X*256 / 1000=Y at *
   have yw:IntKind.i64.wrap (Y:Int)=Y:=IntWalk.i64_in _ qo
   clear hX HFX
   by_cases hd:3=L
   ·obtain ⟨a1,a2,a3⟩:=HF.out hd
    have i1:(X:Int)<1000:=qo
    have e1:((Y:Int)==r)=true:=by simp;omega
    have e2:(Y:Int)=r:=qo
    subst a2
    have hdl:(decDigits X).length<=3:=Zax 3 X qo qo
    have HR:=qh (numF (m:Int)=W++[46]++(List.replicate (3-(decDigits X).length) 48++decDigits X)) (by rw [HE.out,HFT.out,a3,<- hd];simp)
    have HP:=qh (∀ wx,CB_ Tryz.prog 229 #[.int .i64 X,.int .i64 3] wx (str (List.replicate (3-(decDigits X).length) 48++decDigits X))) (λwx=>S_l12Pad (k:=3) wx qo qo)
    have hpl:(List.replicate (3-(decDigits X).length) (48:UInt8)++decDigits X).length<=3:=by rw [List.length_append,List.length_replicate];omega
    generalize List.replicate (3-(decDigits X).length) (48:UInt8)++decDigits X=Z at *
    have l1:¬ 9223372036854775807<W.length+1:=qo
    have l2:¬ 9223372036854775807<W.length+1+Z.length:=qo
    clear a3 HF HG HE HOK HLE HFT HFN
    go_wp2_with (first|(go_at_call 229;refine (HP.out _).mono ?_;rintro e w2 ⟨rfl,hb2⟩;have HB2:=qh (Below w.heap.size w w2) (Below.step hb2 HB1.out HB1.out.size);clear hb2)|fail)
    go_ret
    exact ⟨by rw [HR.out];show Ending.returned (Value.string (({ data:=W.toArray }:ByteArray)++{ data:=[46].toArray }++{ data:=Z.toArray }))=_;rw [Zab,Zab],HB2.out⟩
   ·exact absurd qo hd
theorem I_FormatNumber {m:Nat} (w:World) (hm:m<=2559999) (ht:Tab w) :
  Calls Tryz.prog 158 #[.int .i64 m] w λe w'=>e=.returned (str (numF (m:Int)))/\Below w.heap.size w w':=by
 have HN:=hdQ (numF_nat m hm)
 have hin:inB (m:Int) 0 2559999=true:=inB_mk qo qo
 have t1:(m:Int).tdiv 256=((m / 256:Nat):Int):=by rw [Int.tdiv_eq_ediv_of_nonneg qo];omega
 have t2:(m:Int).tmod 256=((m % 256:Nat):Int):=by rw [Int.tmod_eq_emod_of_nonneg qo];omega
 have hr:m % 256<256:=Nat.mod_lt _ qo
 have hq:m / 256<=9999:=qo
 obtain ⟨q,eq⟩:=qv (m / 256)
 obtain ⟨r,er⟩:=qv (m % 256)
 rw [eq,er] at HN
 rw [eq] at t1 hq
 rw [er] at t2 hr
 have HW:=qh (∀ wx,Below w.heap.size w wx->CB_ Tryz.prog 42 #[.int .i64 q] wx (str (decDigits q))) (λwx hb=>Zdo q qo wx (ht.step hb))
 have hwl:(decDigits q).length<=4:=Zax 4 q qo qo
 have HT:=hdQ ht
 generalize decDigits q=W at *
 have IN:=qh (∀ wx,Calls Tryz.prog 77 #[.int .i64 m,.int .i64 0,.int .i64 2559999] wx λe w'=>e=.returned (.bool true)/\wx=w') (λwx=>Zbx hin wx)
 clear ht eq er
 by_cases h0:r=0
 ·have HE:=qh (numF (m:Int)=W) (by rw [HN.out,if_pos h0])
  subst h0
  go_enter Tryz.func158,Tryz.ntmps158
  go_wp2_with (first|(go_at_call 77;refine (IN.out _).mono ?_;rintro e w' ⟨rfl,rfl⟩)|(go_at_call 42;refine (HW.out _ bll).mono ?_;rintro e w1 ⟨rfl,hb1⟩;have HB1:=hdQ hb1;clear hb1)|fail)
  go_ret
  exact ⟨by rw [HE.out];rfl,HB1.out⟩
 have hne:((r:Int)==0)=false:=by simp;omega
 have hne':¬ (r:Int)=0:=qo
 have HE:=qh (numF (m:Int)=W++46::fracT r) (by rw [HN.out,if_neg h0])
 have hfl:=Zf8 r
 have HOK:=hdQ (fracLen_ok hr)
 have HLE:=qh (∀ k,1<=k->k<fracLen r->Zd4 r k=false) (λk h1 h2=>fracLen_least h1 h2)
 have HFT:=qh (fracT r=List.replicate (fracLen r-(decDigits (Zcr r)).length) 48++decDigits (Zcr r)) rfl
 have HFN:=qh (Zcr r=(r*10 ^ fracLen r+255) / 256) rfl
 generalize fracLen r=L at *
 clear HN h0
 go_enter Tryz.func158,Tryz.ntmps158
 go_wp2_with (first|(go_at_call 77;refine (IN.out _).mono ?_;rintro e w' ⟨rfl,rfl⟩)|(go_at_call 42;refine (HW.out _ bll).mono ?_;rintro e w1 ⟨rfl,hb1⟩;have HB1:=hdQ hb1;clear hb1)|fail)
 go_loop [5,6,7] (λd _ _=>∃ k:Nat,1<=k/\k<=L/\d=.int .i64 k) (λd _ _=>5-(RowKit.intOf d).toNat)
 case atStart=>exact ⟨1,qo,qo,rfl⟩
 case round =>
  obtain ⟨k,hk1,hkL,rfl⟩:=hrel
  rcases (show k=1∨k=2∨k=3 by omega) with rfl|rfl|rfl
  ·rw [show ((1:Nat):Int)=1 from rfl]
   have f1:(((r:Int)*10)+255).tdiv 256=(((r*10+255) / 256:Nat):Int):=by rw [Int.tdiv_eq_ediv_of_nonneg qo];omega
   have f0:IntKind.i64.wrap ((r:Int)*10)=(r:Int)*10:=IntWalk.i64_in _ qo
   have f00:IntKind.i64.wrap ((r:Int)*10+255)=(r:Int)*10+255:=IntWalk.i64_in _ qo
   have hF:(r*10+255) / 256<=1000:=qo
   have g1:(((((r*10+255) / 256:Nat):Int))*256).tdiv 10=(((r*10+255) / 256*256 / 10:Nat):Int):=by rw [Int.tdiv_eq_ediv_of_nonneg qo];omega
   have HF:=qh (1=L->(r*10+255) / 256<10/\(r*10+255) / 256*256 / 10=r/\Zcr r=(r*10+255) / 256) (λe=>by have h1:=frac_at HOK.out;have h2:=HFN.out;rw [<- e] at h1 h2;exact ⟨h1.1,h1.2,h2⟩)
   have HG:=qh (1<L->¬ ((r*10+255) / 256<10/\(r*10+255) / 256*256 / 10=r)) (λe hh=>by have h1:=HLE.out 1 qo e;unfold Zd4 at h1;simp only [Nat.reducePow,Nat.pow_one] at h1;simp [hh.1,hh.2] at h1)
   have HFX:=qh (∀ x,(r*10+255) / 256=x->x=(r*10+255) / 256) (λx h=>h.symm)
   generalize hX:(r*10+255) / 256=X at *
   have g0:IntKind.i64.wrap ((X:Int)*256)=(X:Int)*256:=IntWalk.i64_in _ qo
   have hY:X*256 / 10<=256000:=qo
   generalize X*256 / 10=Y at *
   have yw:IntKind.i64.wrap (Y:Int)=Y:=IntWalk.i64_in _ qo
   clear hX HFX
   have POW:=qh (∀ wx,Calls Tryz.prog 215 #[.int .i64 1] wx λe w'=>e=.returned (.int .i64 10)/\wx=w') (λwx=>I_power_is (k:=1) (u:=10) qr qo wx)
   by_cases hd:1=L
   ·obtain ⟨a1,a2,a3⟩:=HF.out hd
    have i1:(X:Int)<10:=qo
    have e1:((Y:Int)==r)=true:=by simp;omega
    have e2:(Y:Int)=r:=qo
    subst a2
    have hdl:(decDigits X).length<=1:=Zax 1 X qo qo
    have HR:=qh (numF (m:Int)=W++[46]++(List.replicate (1-(decDigits X).length) 48++decDigits X)) (by rw [HE.out,HFT.out,a3,<- hd];simp)
    have HP:=qh (∀ wx,Below w.heap.size w wx->CB_ Tryz.prog 42 #[.int .i64 X] wx (str (decDigits X))) (λwx hb=>Zdo X qo wx (HT.out.step hb))
    have HRP:=qh (∀ wx,CB_ Tryz.prog 216 #[.string ⟨#[48]⟩,.int .i64 ((1-(decDigits X).length:Nat):Int)] wx (str (List.replicate (1-(decDigits X).length) 48))) (λwx=>by
     have:=Tryz.strings_Repeat ⟨#[48]⟩ (1-(decDigits X).length) wx qo (by show 1*_<=_;omega)
     rw [show (⟨#[48]⟩:ByteArray).data.toList=[48] from rfl,repeatL_one] at this
     exact this)
    generalize decDigits X=D at *
    have hsub:(1:Int)-(D.length:Int)=((1-D.length:Nat):Int):=qo
    have hsw:IntKind.i64.wrap ((1:Int)-(D.length:Int))=((1-D.length:Nat):Int):=by rw [hsub];exact IntWalk.i64_in _ qo
    have hrl:(List.replicate (1-D.length) (48:UInt8)).length<=3:=by rw [List.length_replicate];omega
    generalize List.replicate (1-D.length) (48:UInt8)=Z at *
    generalize (1-D.length:Nat)=zc at *
    have l1:¬ 9223372036854775807<W.length+1:=qo
    have l2:¬ 9223372036854775807<W.length+1+Z.length:=qo
    have l3:¬ 9223372036854775807<W.length+1+Z.length+D.length:=qo
    clear a3 HF HG HE HOK HLE HFT HFN hsub
    go_wp2_with (first|(go_at_call 215;refine (POW.out _).mono ?_;rintro e w' ⟨rfl,rfl⟩)|(go_at_call 42;refine (HP.out _ HB1.out).mono ?_;rintro e w2 ⟨rfl,hb2⟩;have HB2:=qh (Below w.heap.size w w2) (Below.step hb2 HB1.out HB1.out.size);clear hb2)|(go_at_call 216;refine (HRP.out _).mono ?_;rintro e w3 ⟨rfl,hb3⟩;have HB3:=qh (Below w.heap.size w w3) (Below.step hb3 HB2.out HB2.out.size);clear hb3)|fail)
    go_ret
    exact ⟨by rw [HR.out];show Ending.returned (Value.string (({ data:=W.toArray }:ByteArray)++{ data:=[46].toArray }++{ data:=Z.toArray }++{ data:=D.toArray }))=_;rw [Zab,Zab,Zab];simp,HB3.out⟩
   ·have hng:=HG.out qo
    by_cases a1:X<10
    ·have i1:(X:Int)<10:=by omega
     have a2:Y≠r:=λh=>hng ⟨a1,h⟩
     have e1:((Y:Int)==r)=false:=by simp;omega
     have e2:(Y==r)=false:=by simpa using a2
     have e3:¬ (Y:Int)=r:=qo
     have e4:decide (Y=r)=false:=by simpa using a2
     have e5:decide ((Y:Int)=r)=false:=by simpa using e3
     clear HF HG HE HOK HLE HFT HFN hng
     go_wp2_with (first|(go_at_call 215;refine (POW.out _).mono ?_;rintro e w' ⟨rfl,rfl⟩)|fail)
     go_round
     case rel=>exact ⟨2,qo,qo,qg⟩
     case measure=>exact qn
    ·have i1:¬ (X:Int)<10:=by omega
     clear HF HG HE HOK HLE HFT HFN hng
     go_wp2_with (first|(go_at_call 215;refine (POW.out _).mono ?_;rintro e w' ⟨rfl,rfl⟩)|fail)
     go_round
     case rel=>exact ⟨2,qo,qo,qg⟩
     case measure=>exact qn
  ·rw [show ((2:Nat):Int)=2 from rfl]
   have f1:(((r:Int)*100)+255).tdiv 256=(((r*100+255) / 256:Nat):Int):=by rw [Int.tdiv_eq_ediv_of_nonneg qo];omega
   have f0:IntKind.i64.wrap ((r:Int)*100)=(r:Int)*100:=IntWalk.i64_in _ qo
   have f00:IntKind.i64.wrap ((r:Int)*100+255)=(r:Int)*100+255:=IntWalk.i64_in _ qo
   have hF:(r*100+255) / 256<=1000:=qo
   have g1:(((((r*100+255) / 256:Nat):Int))*256).tdiv 100=(((r*100+255) / 256*256 / 100:Nat):Int):=by rw [Int.tdiv_eq_ediv_of_nonneg qo];omega
   have HF:=qh (2=L->(r*100+255) / 256<100/\(r*100+255) / 256*256 / 100=r/\Zcr r=(r*100+255) / 256) (λe=>by have h1:=frac_at HOK.out;have h2:=HFN.out;rw [<- e] at h1 h2;exact ⟨h1.1,h1.2,h2⟩)
   have HG:=qh (2<L->¬ ((r*100+255) / 256<100/\(r*100+255) / 256*256 / 100=r)) (λe hh=>by have h1:=HLE.out 2 qo e;unfold Zd4 at h1;simp only [Nat.reducePow,Nat.pow_one] at h1;simp [hh.1,hh.2] at h1)
   have HFX:=qh (∀ x,(r*100+255) / 256=x->x=(r*100+255) / 256) (λx h=>h.symm)
   generalize hX:(r*100+255) / 256=X at *
   have g0:IntKind.i64.wrap ((X:Int)*256)=(X:Int)*256:=IntWalk.i64_in _ qo
   have hY:X*256 / 100<=256000:=qo
   generalize X*256 / 100=Y at *
   have yw:IntKind.i64.wrap (Y:Int)=Y:=IntWalk.i64_in _ qo
   clear hX HFX
   have POW:=qh (∀ wx,Calls Tryz.prog 215 #[.int .i64 2] wx λe w'=>e=.returned (.int .i64 100)/\wx=w') (λwx=>I_power_is (k:=2) (u:=100) qr qo wx)
   by_cases hd:2=L
   ·obtain ⟨a1,a2,a3⟩:=HF.out hd
    have i1:(X:Int)<100:=qo
    have e1:((Y:Int)==r)=true:=by simp;omega
    have e2:(Y:Int)=r:=qo
    subst a2
    have hdl:(decDigits X).length<=2:=Zax 2 X qo qo
    have HR:=qh (numF (m:Int)=W++[46]++(List.replicate (2-(decDigits X).length) 48++decDigits X)) (by rw [HE.out,HFT.out,a3,<- hd];simp)
    have HP:=qh (∀ wx,Below w.heap.size w wx->CB_ Tryz.prog 42 #[.int .i64 X] wx (str (decDigits X))) (λwx hb=>Zdo X qo wx (HT.out.step hb))
    have HRP:=qh (∀ wx,CB_ Tryz.prog 216 #[.string ⟨#[48]⟩,.int .i64 ((2-(decDigits X).length:Nat):Int)] wx (str (List.replicate (2-(decDigits X).length) 48))) (λwx=>by
     have:=Tryz.strings_Repeat ⟨#[48]⟩ (2-(decDigits X).length) wx qo (by show 1*_<=_;omega)
     rw [show (⟨#[48]⟩:ByteArray).data.toList=[48] from rfl,repeatL_one] at this
     exact this)
    generalize decDigits X=D at *
    have hsub:(2:Int)-(D.length:Int)=((2-D.length:Nat):Int):=qo
    have hsw:IntKind.i64.wrap ((2:Int)-(D.length:Int))=((2-D.length:Nat):Int):=by rw [hsub];exact IntWalk.i64_in _ qo
    have hrl:(List.replicate (2-D.length) (48:UInt8)).length<=3:=by rw [List.length_replicate];omega
    generalize List.replicate (2-D.length) (48:UInt8)=Z at *
    generalize (2-D.length:Nat)=zc at *
    have l1:¬ 9223372036854775807<W.length+1:=qo
    have l2:¬ 9223372036854775807<W.length+1+Z.length:=qo
    have l3:¬ 9223372036854775807<W.length+1+Z.length+D.length:=qo
    clear a3 HF HG HE HOK HLE HFT HFN hsub
    go_wp2_with (first|(go_at_call 215;refine (POW.out _).mono ?_;rintro e w' ⟨rfl,rfl⟩)|(go_at_call 42;refine (HP.out _ HB1.out).mono ?_;rintro e w2 ⟨rfl,hb2⟩;have HB2:=qh (Below w.heap.size w w2) (Below.step hb2 HB1.out HB1.out.size);clear hb2)|(go_at_call 216;refine (HRP.out _).mono ?_;rintro e w3 ⟨rfl,hb3⟩;have HB3:=qh (Below w.heap.size w w3) (Below.step hb3 HB2.out HB2.out.size);clear hb3)|fail)
    go_ret
    exact ⟨by rw [HR.out];show Ending.returned (Value.string (({ data:=W.toArray }:ByteArray)++{ data:=[46].toArray }++{ data:=Z.toArray }++{ data:=D.toArray }))=_;rw [Zab,Zab,Zab];simp,HB3.out⟩
   ·have hng:=HG.out qo
    by_cases a1:X<100
    ·have i1:(X:Int)<100:=by omega
     have a2:Y≠r:=λh=>hng ⟨a1,h⟩
     have e1:((Y:Int)==r)=false:=by simp;omega
     have e2:(Y==r)=false:=by simpa using a2
     have e3:¬ (Y:Int)=r:=qo
     have e4:decide (Y=r)=false:=by simpa using a2
     have e5:decide ((Y:Int)=r)=false:=by simpa using e3
     clear HF HG HE HOK HLE HFT HFN hng
     go_wp2_with (first|(go_at_call 215;refine (POW.out _).mono ?_;rintro e w' ⟨rfl,rfl⟩)|fail)
     go_round
     case rel=>exact ⟨3,qo,qo,qg⟩
     case measure=>exact qn
    ·have i1:¬ (X:Int)<100:=by omega
     clear HF HG HE HOK HLE HFT HFN hng
     go_wp2_with (first|(go_at_call 215;refine (POW.out _).mono ?_;rintro e w' ⟨rfl,rfl⟩)|fail)
     go_round
     case rel=>exact ⟨3,qo,qo,qg⟩
     case measure=>exact qn
  ·rw [show ((3:Nat):Int)=3 from rfl]
   have f1:(((r:Int)*1000)+255).tdiv 256=(((r*1000+255) / 256:Nat):Int):=by rw [Int.tdiv_eq_ediv_of_nonneg qo];omega
   have f0:IntKind.i64.wrap ((r:Int)*1000)=(r:Int)*1000:=IntWalk.i64_in _ qo
   have f00:IntKind.i64.wrap ((r:Int)*1000+255)=(r:Int)*1000+255:=IntWalk.i64_in _ qo
   have hF:(r*1000+255) / 256<=1000:=qo
   have g1:(((((r*1000+255) / 256:Nat):Int))*256).tdiv 1000=(((r*1000+255) / 256*256 / 1000:Nat):Int):=by rw [Int.tdiv_eq_ediv_of_nonneg qo];omega
   have HF:=qh (3=L->(r*1000+255) / 256<1000/\(r*1000+255) / 256*256 / 1000=r/\Zcr r=(r*1000+255) / 256) (λe=>by have h1:=frac_at HOK.out;have h2:=HFN.out;rw [<- e] at h1 h2;exact ⟨h1.1,h1.2,h2⟩)
   have HG:=qh (3<L->¬ ((r*1000+255) / 256<1000/\(r*1000+255) / 256*256 / 1000=r)) (λe hh=>by have h1:=HLE.out 3 qo e;unfold Zd4 at h1;simp only [Nat.reducePow,Nat.pow_one] at h1;simp [hh.1,hh.2] at h1)
   have HFX:=qh (∀ x,(r*1000+255) / 256=x->x=(r*1000+255) / 256) (λx h=>h.symm)
   generalize hX:(r*1000+255) / 256=X at *
   have g0:IntKind.i64.wrap ((X:Int)*256)=(X:Int)*256:=IntWalk.i64_in _ qo
   have hY:X*256 / 1000<=256000:=qo
   generalize X*256 / 1000=Y at *
   have yw:IntKind.i64.wrap (Y:Int)=Y:=IntWalk.i64_in _ qo
   clear hX HFX
   have POW:=qh (∀ wx,Calls Tryz.prog 215 #[.int .i64 3] wx λe w'=>e=.returned (.int .i64 1000)/\wx=w') (λwx=>I_power_is (k:=3) (u:=1000) qr qo wx)
   by_cases hd:3=L
   ·obtain ⟨a1,a2,a3⟩:=HF.out hd
    have i1:(X:Int)<1000:=qo
    have e1:((Y:Int)==r)=true:=by simp;omega
    have e2:(Y:Int)=r:=qo
    subst a2
    have hdl:(decDigits X).length<=3:=Zax 3 X qo qo
    have HR:=qh (numF (m:Int)=W++[46]++(List.replicate (3-(decDigits X).length) 48++decDigits X)) (by rw [HE.out,HFT.out,a3,<- hd];simp)
    have HP:=qh (∀ wx,Below w.heap.size w wx->CB_ Tryz.prog 42 #[.int .i64 X] wx (str (decDigits X))) (λwx hb=>Zdo X qo wx (HT.out.step hb))
    have HRP:=qh (∀ wx,CB_ Tryz.prog 216 #[.string ⟨#[48]⟩,.int .i64 ((3-(decDigits X).length:Nat):Int)] wx (str (List.replicate (3-(decDigits X).length) 48))) (λwx=>by
     have:=Tryz.strings_Repeat ⟨#[48]⟩ (3-(decDigits X).length) wx qo (by show 1*_<=_;omega)
     rw [show (⟨#[48]⟩:ByteArray).data.toList=[48] from rfl,repeatL_one] at this
     exact this)
    generalize decDigits X=D at *
    have hsub:(3:Int)-(D.length:Int)=((3-D.length:Nat):Int):=qo
    have hsw:IntKind.i64.wrap ((3:Int)-(D.length:Int))=((3-D.length:Nat):Int):=by rw [hsub];exact IntWalk.i64_in _ qo
    have hrl:(List.replicate (3-D.length) (48:UInt8)).length<=3:=by rw [List.length_replicate];omega
    generalize List.replicate (3-D.length) (48:UInt8)=Z at *
    generalize (3-D.length:Nat)=zc at *
    have l1:¬ 9223372036854775807<W.length+1:=qo
    have l2:¬ 9223372036854775807<W.length+1+Z.length:=qo
    have l3:¬ 9223372036854775807<W.length+1+Z.length+D.length:=qo
    clear a3 HF HG HE HOK HLE HFT HFN hsub
    go_wp2_with (first|(go_at_call 215;refine (POW.out _).mono ?_;rintro e w' ⟨rfl,rfl⟩)|(go_at_call 42;refine (HP.out _ HB1.out).mono ?_;rintro e w2 ⟨rfl,hb2⟩;have HB2:=qh (Below w.heap.size w w2) (Below.step hb2 HB1.out HB1.out.size);clear hb2)|(go_at_call 216;refine (HRP.out _).mono ?_;rintro e w3 ⟨rfl,hb3⟩;have HB3:=qh (Below w.heap.size w w3) (Below.step hb3 HB2.out HB2.out.size);clear hb3)|fail)
    go_ret
    exact ⟨by rw [HR.out];show Ending.returned (Value.string (({ data:=W.toArray }:ByteArray)++{ data:=[46].toArray }++{ data:=Z.toArray }++{ data:=D.toArray }))=_;rw [Zab,Zab,Zab];simp,HB3.out⟩
   ·exact absurd qo hd
end Go.Proofs.YticdknjoapdmeaaGreatDoor
