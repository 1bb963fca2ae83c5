/- Several texts in one: CheckS, UsesI, CheckI, ScnW, NumW, TextW, BuilderW, ProgT, FlatW, FmtScnS, FmtScnI. -/
import Derived.Test.YticdknjoapdmeaaGreatDoorMa
import Derived.Test.YticdknjoapdmeaaGreatDoorMh
import Derived.Test.YticdknjoapdmeaaGreatDoorMd
import Derived.Test.YticdknjoapdmeaaGreatDoorMc
import Derived.BigQuiet
import Derived.Deep.QuietTactic
import Derived.Deep.RegionHeld3
import Derived.Lib.Builder
import Derived.Lib.AppendStr
import Derived.Laws.IdiomStrings
import Derived.Lib.Replace
import Derived.Test.YticdknjoapdmeaaGreatDoorMe
set_option linter.unusedVariables false
set_option linter.unusedSimpArgs false
set_option linter.unnecessarySimpa false
namespace Go.Proofs.YticdknjoapdmeaaGreatDoor
set_option maxHeartbeats 32000000
section
set_option maxRecDepth 100000
open Go.RowKit Go.Lib
theorem Zf1 (p:Zag):Za3 p=(Zas p&&Zb3 p p.1.length&&Zb8 p p.1.length&&Zfr p p.2.length&&has p Zem p.2.length):=rfl
def Zjz (b:Bool) (w:World) (e:Ending) (w':World):Prop:=(∃ x y:Int,e=.returned (.tuple #[.int .i64 x,.int .i64 y])/\decide (x=0)=b)/\Bw w w'
set_option maxHeartbeats 16000000 in
theorem S_Check {A A2:OA} {c c2:Nat} {p:Zag} (w:World) (h:Zcd w A c A2 c2 p) (h1:p.1.length<=1048576) (h2:p.2.length<=1048576) :
  CL 124 #[Zbz A p.1.length c A2 p.2.length c2] w (Zjz (Za3 p) w):=by
 have H0:=hdQ h
 have HV0:=qh (∀ wx,Bw w wx->CR 126 #[Zbz A p.1.length c A2 p.2.length c2] wx (.bool (Zas p))) (λwx hb=>Zjq wx (h.step hb) h1 h2)
 clear h
 cases hv:Zas p with
 | false =>
  have HF:=qh (Za3 p=false) (by rw [Zf1,hv];rfl)
  rw [hv] at HV0
  go_enter Tryz.func124,Tryz.ntmps124
  go_wp2_with (first|(go_at_call 126;refine (HV0.out _ bll).mono ?_;rintro e w1 ⟨rfl,hb1⟩;have HB1:=bh w hb1;clear hb1)|fail)
  exact bodyPost_ret (v:=.tuple #[.int .i64 1,.int .i64 0]) (by simp [results,Tryz.results124,go_sem, *]) rfl ⟨⟨_,_,rfl,by rw [HF.out];rfl⟩,HB1.out⟩
 | true =>
  have HN0:=qh (∀ wx,Bw w wx->CL 177 #[Zbz A p.1.length c A2 p.2.length c2] wx λe w'=>(∃ r:Int,e=.returned (.int .i64 r)/\decide (0<=r) = !(Zb3 p p.1.length))/\Bw wx w') (λwx hb=>Zu7 wx (H0.out.step hb) hv)
  have hl1:=Zdi hv
  have hl2:=Zda hv
  have HAS:=qh (∀ (name:List UInt8) (before:Int) wx,Bw w wx->CR 180 #[Zbz A p.1.length c A2 p.2.length c2,str name,.int .i64 before] wx (.int .i64 (lastTo p name before p.2.length))) (λname before wx hb=>Zig wx ((H0.out.step hb).2) hl2)
  have HCD:=qh (Za3 p=(Zb3 p p.1.length&&Zb8 p p.1.length&&Zfr p p.2.length&&has p Zem p.2.length)) (by rw [Zf1,hv];rfl)
  rw [hv] at HV0
  clear hv
  go_enter Tryz.func124,Tryz.ntmps124
  go_wp2_with (first|(go_at_call 126;refine (HV0.out _ bll).mono ?_;rintro e w1 ⟨rfl,hb1⟩;have hz1:=hb1.size;(try simp at hz1);have HB1:=bh w hb1;have HP1:=qh (Own w1 w.heap.size 62 [.slice A p.1.length c,.slice A2 p.2.length c2]) (Own.step hb1 (Own.new w _ #[_,_]));have r0:w1.cell? ⟨w.heap.size,0,none⟩=some (.slice A p.1.length c):=HP1.out.cell 0;have r1:w1.cell? ⟨w.heap.size,1,none⟩=some (.slice A2 p.2.length c2):=HP1.out.cell 1;clear hb1)|fail)
  refine (HN0.out _ HB1.out).mono ?_
  rintro e w2 ⟨⟨r,rfl,hr⟩,hb2⟩
  have hz2:=hb2.size
  have HB2:=qh (Bw w w2) (Below.step hb2 HB1.out HB1.out.size)
  have HP2:=qh (Own w2 w.heap.size 62 [.slice A p.1.length c,.slice A2 p.2.length c2]) (Own.step hb2 HP1.out)
  have s0:w2.cell? ⟨w.heap.size,0,none⟩=some (.slice A p.1.length c):=HP2.out.cell 0
  have s1:w2.cell? ⟨w.heap.size,1,none⟩=some (.slice A2 p.2.length c2):=HP2.out.cell 1
  clear hb2 HV0 HN0 r0 r1 HP1
  by_cases h0:0<=r
  ·have HF:=qh (Za3 p=false) (by
    have hn:Zb3 p p.1.length=false:=by
     rw [decide_eq_true h0] at hr
     cases hh:Zb3 p p.1.length with
     | false=>rfl
     | true=>rw [hh] at hr;cases hr
    rw [HCD.out,hn];rfl)
   go_wp2_with fail
   exact bodyPost_ret (v:=.tuple #[.int .i64 2,.int .i64 r]) (by simp [results,Tryz.results124,go_sem, *]) rfl ⟨⟨_,_,rfl,by rw [HF.out];rfl⟩,HB2.out⟩
  have HNT:=qh (Zb3 p p.1.length=true) (by
   rw [decide_eq_false h0] at hr
   cases hh:Zb3 p p.1.length with
   | true=>rfl
   | false=>rw [hh] at hr;cases hr)
  clear hr
  go_wp2_with fail
  go_loopw [5,6,20] (λ_ _ i wr=>∃ k:Nat,k<=p.1.length/\i=.int .i64 k/\Zb8 p k=true/\Own wr w.heap.size 62 [.slice A p.1.length c,.slice A2 p.2.length c2]/\Bw w wr) (λ_ _ i _=>p.1.length-(RowKit.intOf i).toNat)
  case atStart=>exact ⟨0,Nat.zero_le _,rfl,rfl,HP2.out,HB2.out⟩
  case round =>
   obtain ⟨k,hk,rfl,ht,hp,hb⟩:=hrel
   obtain ⟨wo,rfl⟩:=qe wr
   have hz:=hb.size
   have hl:=hp.lt
   have HT:=hdQ ht
   have HP:=hdQ hp
   have HB:=hdQ hb
   have p0:wo.cell? ⟨w.heap.size,0,none⟩=some (.slice A p.1.length c):=hp.cell 0
   have p1:wo.cell? ⟨w.heap.size,1,none⟩=some (.slice A2 p.2.length c2):=hp.cell 1
   clear hp hb ht s0 s1 HP2 HB2
   by_cases hlt:k<p.1.length
   ·obtain ⟨b,o,A',c',rfl,hbh,hs,hr,x0,x1,x2,x3⟩:=H0.out.1.2.2 k hlt
    have d0:=(HB.out.cell (p:=⟨b,o+k*4,none⟩) hbh).trans x0
    have d1:=(HB.out.cell (p:=⟨b,o+k*4+1,none⟩) hbh).trans x1
    have d2:=(HB.out.cell (p:=⟨b,o+k*4+2,none⟩) hbh).trans x2
    have d3:=(HB.out.cell (p:=⟨b,o+k*4+3,none⟩) hbh).trans x3
    have HTS:=hdQ (Zhe hlt)
    obtain ⟨⟨op,name,num,args⟩,hx⟩:∃ x,p.1[k]=x:=⟨_,rfl⟩
    rw [hx] at d0 d1 d2 d3 HTS
    (try dsimp only at d0 d1 d2 d3)
    have HX:=hdQ hx
    have i0:(k:Int)<p.1.length:=qo
    have i00:(0:Int)<=k:=qo
    have FIN:=qh (∀ b,Zeo (op,name,num,args)=b->(b=false->Za3 p=false)/\(b=true->Zb8 p (k+1)=true)) (λb hb=>⟨λe=>by rw [HCD.out,Zjg hlt (by rw [HX.out,hb,e])];simp,λe=>by rw [HTS.out,HT.out,hb,e];rfl⟩)
    clear x0 x1 x2 x3 hs hr hx
    by_cases h8:op=8
    ·subst h8
     obtain ⟨an2,han⟩:∃ n,arityF name=n:=⟨_,rfl⟩
     have HAR:=hdQ han
     by_cases hal:an2=args.length
     ·have HK:=hdQ ((FIN.out true (by rw [Zn8,han,hal];simp)).2 rfl)
      have ea:(an2 != (args.length:Int))=false:=by simpa using hal
      clear hal han
      go_wp2_with fail
      go_quiet ((first|(go_at_call 178;exact Zat (Zee HAR.out _))|fail))
      go_wp2_with fail
      go_roundw
      case rel=>exact ⟨k+1,qo,qg,HK.out,(owx HP.out),bll⟩
      case measure=>exact qn
     ·have HF:=hdQ ((FIN.out false (by rw [Zn8,han];simpa using hal)).1 rfl)
      have ea:(an2 != (args.length:Int))=true:=by simpa using hal
      clear hal han
      go_wp2_with fail
      go_quiet ((first|(go_at_call 178;exact Zat (Zee HAR.out _))|fail))
      go_wp2_with fail
      exact bodyPost_ret (v:=.tuple #[.int .i64 3,.int .i64 k]) (by simp [results,Tryz.results124,go_sem, *]) rfl ⟨⟨_,_,rfl,by rw [HF.out];rfl⟩,bll⟩
    ·have HK:=hdQ ((FIN.out true (Ztm h8)).2 rfl)
     have e8':(op==8)=false:=by simpa using h8
     have e8d:decide (op=8)=false:=by simpa using h8
     go_wp2_with fail
     (try (go_quiet (fail);go_wp2_with fail))
     go_roundw
     case rel=>exact ⟨k+1,qo,qg,HK.out,(owx HP.out),bll⟩
     case measure=>exact qn
   ·obtain rfl:k=p.1.length:=by omega
    go_wp2_with fail
    go_loopw [7,8,42] (λ_ _ i wr=>∃ j:Nat,j<=p.2.length/\i=.int .i64 j/\Zfr p j=true/\Own wr w.heap.size 62 [.slice A p.1.length c,.slice A2 p.2.length c2]/\Bw w wr) (λ_ _ i _=>p.2.length-(RowKit.intOf i).toNat)
    case atStart=>exact ⟨0,Nat.zero_le _,rfl,rfl,HP.out,HB.out⟩
    case round =>
     obtain ⟨j,hj,rfl,ha,hp2,hb2⟩:=hrel
     obtain ⟨wi,rfl⟩:=qe wr
     have hz3:=hb2.size
     have hl3:=hp2.lt
     have HA:=hdQ ha
     have HP3:=hdQ hp2
     have HB3:=hdQ hb2
     have q0:wi.cell? ⟨w.heap.size,0,none⟩=some (.slice A p.1.length c):=hp2.cell 0
     have q1:wi.cell? ⟨w.heap.size,1,none⟩=some (.slice A2 p.2.length c2):=hp2.cell 1
     clear hb2 hp2 ha p0 p1
     by_cases hlj:j<p.2.length
     ·obtain ⟨b,o,rfl,hbh,hs,x0,x1⟩:=H0.out.2.2.2 j hlj
      have d0:=(HB3.out.cell (p:=⟨b,o+j*2,none⟩) hbh).trans x0
      have d1:=(HB3.out.cell (p:=⟨b,o+j*2+1,none⟩) hbh).trans x1
      have HTS:=hdQ (Zk3 hlj)
      obtain ⟨⟨nm,rt⟩,hx⟩:∃ x,p.2[j]=x:=⟨_,rfl⟩
      rw [hx] at d0 d1 hs HTS
      (try dsimp only at d0 d1 hs)
      have HX:=hdQ hx
      have i1:(j:Int)<p.2.length:=qo
      have i2:(0:Int)<=j:=qo
      have FIN:=qh (∀ b,Zk4 p j (nm,rt)=b->(b=false->Za3 p=false)/\(b=true->Zfr p (j+1)=true)) (λb hb=>⟨λe=>by rw [HCD.out,Zqc hlj (by rw [HX.out,hb,e])];simp,λe=>by rw [HTS.out,HA.out,hb,e];rfl⟩)
      have HA1:=qh (∀ wx,Bw w wx->CR 180 #[Zbz A p.1.length c (some ⟨b,o,none⟩) p.2.length c2,str nm,.int .i64 j] wx (.int .i64 (lastTo p nm j p.2.length))) (λwx hb=>HAS.out nm j wx hb)
      have HLH:=hdQ (Znx p nm j)
      generalize lastTo p nm j p.2.length=lv at *
      clear x0 x1 hs hx
      cases hvr:Zg6 nm with
      | true =>
       have HF:=hdQ ((FIN.out false (by unfold Zk4;rw [hvr];rfl)).1 rfl)
       have HIV:=qh (∀ wx,CR 179 #[str nm] wx (.bool true)) (λwx=>by have:=Ze6 nm wx;rw [hvr] at this;exact this)
       go_wp2_with (first|(go_at_call 179;refine (HIV.out _).mono ?_;rintro e w' ⟨rfl,hbx⟩;have HBX:=bh w hbx;clear hbx)|fail)
       exact bodyPost_ret (v:=.tuple #[.int .i64 4,.int .i64 j]) (by simp [results,Tryz.results124,go_sem, *]) rfl ⟨⟨_,_,rfl,by rw [HF.out];rfl⟩,HBX.out⟩
      | false =>
       have HIV:=qh (∀ wx,CR 179 #[str nm] wx (.bool false)) (λwx=>by have:=Ze6 nm wx;rw [hvr] at this;exact this)
       by_cases hlv:0<=lv
       ·have HF:=hdQ ((FIN.out false (by unfold Zk4;rw [hvr,<- HLH.out,decide_eq_true hlv];rfl)).1 rfl)
        go_wp2_with (first|(go_at_call 179;refine (HIV.out _).mono ?_;rintro e w' ⟨rfl,hbx⟩;have hzx:=hbx.size;(try simp at hzx);have HBX:=bh w hbx;have HPX:=qh (Own w' w.heap.size 62 [.slice A p.1.length c,.slice (some ⟨b,o,none⟩) p.2.length c2]) (Own.step hbx (owx HP3.out));have v0:w'.cell? ⟨w.heap.size,0,none⟩=some (.slice A p.1.length c):=HPX.out.cell 0;have v1:w'.cell? ⟨w.heap.size,1,none⟩=some (.slice (some ⟨b,o,none⟩) p.2.length c2):=HPX.out.cell 1;have u0:=λo=>hbx.cell (p:=⟨wi.heap.size,o,none⟩) omm;clear hbx)|(go_at_call 180;refine (HA1.out _ HBX.out).mono ?_;rintro e w4 ⟨rfl,hby⟩;have HBY:=qh (Bw w w4) (Below.step hby HBX.out HBX.out.size);clear hby)|fail)
        exact bodyPost_ret (v:=.tuple #[.int .i64 4,.int .i64 j]) (by simp [results,Tryz.results124,go_sem, *]) rfl ⟨⟨_,_,rfl,by rw [HF.out];rfl⟩,HBY.out⟩
       ·have HK:=hdQ ((FIN.out true (by unfold Zk4;rw [hvr,<- HLH.out,decide_eq_false hlv];rfl)).2 rfl)
        go_wp2_with (first|(go_at_call 179;refine (HIV.out _).mono ?_;rintro e w' ⟨rfl,hbx⟩;have hzx:=hbx.size;(try simp at hzx);have HBX:=bh w hbx;have HPX:=qh (Own w' w.heap.size 62 [.slice A p.1.length c,.slice (some ⟨b,o,none⟩) p.2.length c2]) (Own.step hbx (owx HP3.out));have v0:w'.cell? ⟨w.heap.size,0,none⟩=some (.slice A p.1.length c):=HPX.out.cell 0;have v1:w'.cell? ⟨w.heap.size,1,none⟩=some (.slice (some ⟨b,o,none⟩) p.2.length c2):=HPX.out.cell 1;have u0:=λo=>hbx.cell (p:=⟨wi.heap.size,o,none⟩) omm;clear hbx)|(go_at_call 180;refine (HA1.out _ HBX.out).mono ?_;rintro e w4 ⟨rfl,hby⟩;have HBY:=qh (Bw w w4) (Below.step hby HBX.out HBX.out.size);have HPY:=qh (Own w4 w.heap.size 62 [.slice A p.1.length c,.slice (some ⟨b,o,none⟩) p.2.length c2]) (Own.step hby HPX.out);clear hby)|fail)
        go_roundw
        case rel=>exact ⟨j+1,qo,qg,HK.out,HPY.out,HBY.out⟩
        case measure=>exact qn
     ·obtain rfl:j=p.2.length:=by omega
      have HA1:=qh (∀ wx,Bw w wx->CR 180 #[Zbz A p.1.length c A2 p.2.length c2,.string ⟨#[99,111,108,111,114]⟩,.int .i64 p.2.length] wx (.int .i64 (lastTo p Zem p.2.length p.2.length))) (λwx hb=>HAS.out Zem p.2.length wx hb)
      have HLH:=hdQ (Znx p Zem p.2.length)
      have HCE:=qh (Za3 p=has p Zem p.2.length) (by rw [HCD.out,HNT.out,HT.out,HA.out];rfl)
      generalize lastTo p Zem p.2.length p.2.length=lv at *
      by_cases hlv:0<=lv
      ·have HF:=qh (Za3 p=true) (by rw [HCE.out,<- HLH.out,decide_eq_true hlv])
       have hlv2:¬ lv<0:=qo
       go_wp2_with (first|(go_at_call 180;refine (HA1.out _ HB3.out).mono ?_;rintro e w4 ⟨rfl,hby⟩;have HBY:=qh (Bw w w4) (Below.step hby HB3.out HB3.out.size);clear hby)|fail)
       exact bodyPost_ret (v:=.tuple #[.int .i64 0,.int .i64 0]) (by simp [results,Tryz.results124,go_sem, *]) rfl ⟨⟨_,_,rfl,by rw [HF.out];rfl⟩,HBY.out⟩
      ·have HF:=qh (Za3 p=false) (by rw [HCE.out,<- HLH.out,decide_eq_false hlv])
       have hlv2:lv<0:=qo
       go_wp2_with (first|(go_at_call 180;refine (HA1.out _ HB3.out).mono ?_;rintro e w4 ⟨rfl,hby⟩;have HBY:=qh (Bw w w4) (Below.step hby HB3.out HB3.out.size);clear hby)|fail)
       exact bodyPost_ret (v:=.tuple #[.int .i64 5,.int .i64 0]) (by simp [results,Tryz.results124,go_sem, *]) rfl ⟨⟨_,_,rfl,by rw [HF.out];rfl⟩,HBY.out⟩
theorem I_notOne (n:Int) (w:World):CL 156 #[.int .i64 n] w λe w'=>e=.returned (.bool (n != 1))/\w=w':=by
 go_enter Tryz.func156,Tryz.ntmps156
 go_wp2_with fail
 go_ret
 exact ⟨rfl,rfl⟩
theorem Zlk {n:Int} {b:Bool} (h:(n != 1)=b) (w:World):CL 156 #[.int .i64 n] w λe w'=>e=.returned (.bool b)/\w=w':=by
 subst h;exact I_notOne n w
theorem Zsb {g n:Nat} {us:List Nat} (w:World) (h:Own w g 3 (ints (Zfz n us))) (hn:n<=1048576) :
  CL 213 #[sl g n,.func (.func 156) #[] #[]] w λe w'=>(∃ r:Int,e=.returned (.int .i64 r)/\(decide (0<=r)) = !(Zet us n))/\w=w':=by
 have HO:=hdQ h
 have hgl:=h.lt
 clear h
 go_enter Tryz.func213,Tryz.ntmps213
 go_wp2_with fail
 go_loop [5,8] (λ_ i=>∃ m:Nat,m<=n/\i=.int .i64 m/\Zet us m=true) (λ_ i=>n-(RowKit.intOf i).toNat)
 case atStart=>exact ⟨0,Nat.zero_le _,rfl,rfl⟩
 case round =>
  obtain ⟨m,hm,rfl,hones⟩:=hrel
  have HON:=hdQ hones
  clear hones
  by_cases hlm:m<n
  ·have e2:w.cell? ⟨g,m,none⟩=some (.int .i64 (us.count m:Int)):=by rw [HO.out.cell,Zfy hlm]
   have i1:(m:Int)<n:=qo
   have i2:(0:Int)<=m:=qo
   by_cases hone:us.count m=1
   ·have HK:=qh (Zet us (m+1)=true) (by rw [Zko,HON.out,hone];rfl)
    rw [hone] at e2
    go_wp2_with (first|(go_at_call 156;refine (Zlk (b:=false) qr _).mono ?_;rintro e w' ⟨rfl,rfl⟩)|fail)
    go_round
    case rel=>exact ⟨m+1,qo,qg,HK.out⟩
    case measure=>exact qn
   ·have HF:=qh (Zet us n=false) (Zpl hlm hone)
    generalize us.count m=q at *
    have hq:((q:Int) != 1)=true:=by simp;omega
    go_wp2_with (first|(go_at_call 156;refine (Zlk hq _).mono ?_;rintro e w' ⟨rfl,rfl⟩)|fail)
    go_ret
    exact ⟨⟨_,rfl,by rw [HF.out];simp⟩,rfl⟩
  ·obtain rfl:m=n:=by omega
   go_wp2_with fail
   go_ret
   exact ⟨⟨_,rfl,by rw [HON.out];rfl⟩,rfl⟩
theorem Zl7 {g n:Nat} {us:List Nat} (w:World) (h:Own w g 3 (ints (Zfz n us))) (hn:n<=1048576) :
  CL 155 #[sl g n,.func (.func 156) #[] #[]] w λe w'=>e=.returned (.bool (!(Zet us n)))/\w=w':=by
 have HO:=hdQ h
 clear h
 go_enter Tryz.func155,Tryz.ntmps155
 go_wp2_with fail
 refine (Zsb _ HO.out hn).mono ?_
 rintro e w' ⟨⟨r,rfl,hr⟩,rfl⟩
 have HR:=hdQ hr
 clear hr
 go_wp2_with fail
 go_ret
 exact ⟨Zaf HR.out,rfl⟩
theorem Zf8 {A A2:OA} {c c2:Nat} {p:Zag} (w:World) (h:Zcd w A c A2 c2 p) (h1:p.1.length<=1048576) (h2:p.2.length<=1048576) :
  CR 94 #[Zbz A p.1.length c A2 p.2.length c2] w ((.bool (Zas p))):=by
 have H0:=hdQ h
 clear h
 have hwn:IntKind.i64.wrap ((p.1.length:Int)-1)=(p.1.length:Int)-1:=IntWalk.i64_in _ qo
 have HBX:=qh (Bw w (w.alloc (.cells #[.slice A p.1.length c,.slice A2 p.2.length c2] 62))) bll
 by_cases h60:p.1.length<=60
 rotate_left
 ·have h60':(60:Int)<p.1.length:=by omega
  have HF:=qh (Zas p=false) (by rw [Zdd];simp [h60])
  go_enter Tryz.func94,Tryz.ntmps94
  go_wp2_with fail
  go_ret
  exact ⟨Zaf HF.out.symm,HBX.out⟩
 have hmk:∀ wx:World,(Instr.makeSlice 24 (.int .i64 p.1.length) (.int .i64 p.1.length)).run Tryz.prog wx=.ok (.slice (some ⟨wx.heap.size,0,none⟩) p.1.length p.1.length) (wx.alloc (.cells (madeCells #[Value.int .i64 0] p.1.length) 3)):=by
  intro wx
  have:=Zss (P:=Tryz.prog) 24 3 _ 1 8 Tryz.underlying24 T.infoInt p.1.length qo qo wx
  simp only [Nat.mul_one] at this
  exact this
 have HP0:=qh (Own ((w.alloc (.cells #[.slice A p.1.length c,.slice A2 p.2.length c2] 62)).alloc (.cells (madeCells #[Value.int .i64 0] p.1.length) 3)) w.heap.size 62 [.slice A p.1.length c,.slice A2 p.2.length c2]) (Own.alloc (Own.new w _ #[_,_]) _)
 have HU0:=qh (Own ((w.alloc (.cells #[.slice A p.1.length c,.slice A2 p.2.length c2] 62)).alloc (.cells (madeCells #[Value.int .i64 0] p.1.length) 3)) (w.heap.size+1) 3 (ints (Zfz p.1.length (Zao p 0)))) (by rw [show Zao p 0=[] from rfl,Ztb,<- Zgr];exact Own.at_new qs)
 have n60:¬ (60:Int)<p.1.length:=qo
 go_enter Tryz.func94,Tryz.ntmps94
 go_wp2_with fail
 clear hmk
 go_loopw [4,5,7,21] (λ_ _ _ i wr=>∃ k:Nat,k<=p.1.length/\i=.int .i64 k/\Za5 p k=true/\Own wr w.heap.size 62 [.slice A p.1.length c,.slice A2 p.2.length c2]/\Own wr (w.heap.size+1) 3 (ints (Zfz p.1.length (Zao p k)))/\Bw w wr) (λ_ _ _ i _=>p.1.length-(RowKit.intOf i).toNat)
 case atStart=>exact ⟨0,Nat.zero_le _,rfl,rfl,HP0.out,HU0.out,bll⟩
 case round =>
  obtain ⟨k,hk,rfl,ht,hp,hu,hb⟩:=hrel
  obtain ⟨wo,rfl⟩:=qe wr
  have hz:=hb.size
  have hl:=hu.lt
  have HT:=hdQ ht
  have HP:=hdQ hp
  have HU:=hdQ hu
  have HB:=hdQ hb
  have p0:wo.cell? ⟨w.heap.size,0,none⟩=some (.slice A p.1.length c):=hp.cell 0
  have p1:wo.cell? ⟨w.heap.size,1,none⟩=some (.slice A2 p.2.length c2):=hp.cell 1
  clear hp hu hb ht HP0 HU0 HBX
  by_cases hlt:k<p.1.length
  ·
   obtain ⟨b,o,A',c',rfl,hbh,hs,hr,x0,x1,x2,x3⟩:=H0.out.1.2.2 k hlt
   have d0:=(HB.out.cell (p:=⟨b,o+k*4,none⟩) hbh).trans x0
   have d1:=(HB.out.cell (p:=⟨b,o+k*4+1,none⟩) hbh).trans x1
   have d2:=(HB.out.cell (p:=⟨b,o+k*4+2,none⟩) hbh).trans x2
   have d3:=(HB.out.cell (p:=⟨b,o+k*4+3,none⟩) hbh).trans x3
   clear x0 x1 x2 x3
   obtain ⟨⟨op,name,num,args⟩,hx⟩:∃ x,p.1[k]=x:=⟨_,rfl⟩
   rw [hx] at d0 d1 d2 d3 hr hs
   (try dsimp only at d0 d1 d2 d3 hr hs)
   have HX:=hdQ hx
   have HR:=hdQ hr
   have HS:=hdQ hs
   have i0:(k:Int)<p.1.length:=qo
   have i00:(0:Int)<=k:=qo
   have HTS:=hdQ (Zeu hlt)
   rw [HX.out] at HTS
   have hk1:IntKind.i64.wrap ((k:Int)-1)=(k:Int)-1:=IntWalk.i64_in _ qo
   have HCN:=qh (∀ wx,Bw w wx->CR 153 #[Zg4 op name num A' args.length c'] wx (.bool (Zbr (op,name,num,args)))) (λwx hbx=>Zr1 wx HS.out (RS.step hbx HR.out))
   have HCA:=qh (∀ wx,Bw w wx->CL 138 #[.slice A' args.length c',.int .i64 0,.int .i64 ((k:Int)-1)] wx λe w'=>e=.returned (.bool (Zd8 k args))/\wx=w') (λwx hbx=>Zhx A' c' args 0 ((k:Int)-1) wx (RS.step hbx HR.out))
   have FIN:=qh (∀ b,Zb1 k (op,name,num,args)=b->(b=false->Zas p=false)/\(b=true->Za5 p (k+1)=true)) (λb hb=>⟨λe=>by rw [Zdd,Zmr hlt (by rw [HX.out,hb,e])];simp,λe=>by rw [HTS.out,HT.out,hb,e];rfl⟩)
   cases hfd:Zbr (op,name,num,args) with
   | false =>
    have HF:=hdQ ((FIN.out false (by rw [Zfl,hfd];rfl)).1 rfl)
    rw [hfd] at HCN
    clear hx hr hs
    go_wp2_with (first|(go_at_call 153;refine (HCN.out _ bll).mono ?_;rintro e w' ⟨rfl,hbx⟩;have hzx:=hbx.size;(try simp at hzx);have HBX:=hdQ hbx;clear hbx)|fail)
    (try (go_region_held3 (λw'=>True) (first|go_keep|trivial) (first|(go_at_call 153;(with_reducible refine (HCN.out _ bll).mono ?_);rintro e w' ⟨rfl,hbx⟩;have hzx:=hbx.size;(try simp at hzx))|fail)))
    all_goals
     go_wp2_with fail
     go_ret
     exact ⟨Zaf HF.out.symm,by first|exact Below.step HBX.out bll omm|exact bll⟩
   | true =>
    rw [hfd] at HCN
    cases hag:Zd8 k args with
    | false =>
     have HF:=hdQ ((FIN.out false (by rw [Zfl,hfd,hag];rfl)).1 rfl)
     rw [hag] at HCA
     clear hx hr hs
     go_wp2_with (first|(go_at_call 153;refine (HCN.out _ bll).mono ?_;rintro e w' ⟨rfl,hbx⟩;have hzx:=hbx.size;(try simp at hzx);have u0:=λo=>hbx.cell (p:=⟨wo.heap.size,o,none⟩) omm;have HBX:=hdQ hbx;have HBY:=bh w hbx;clear hbx)|(go_at_call 138;refine (HCA.out _ HBY.out).mono ?_;rintro e w' ⟨rfl,rfl⟩)|fail)
     go_ret
     exact ⟨Zaf HF.out.symm,HBY.out⟩
    | true =>
     have HK:=hdQ ((FIN.out true (by rw [Zfl,hfd,hag];rfl)).2 rfl)
     rw [hag] at HCA
     have HUL:=qh ((Zao p k).length<=3*k) (Zev k qo HT.out)
     have HOK:=qh (args.length<=3/\∀ a∈args,0<=a/\a<k) (Zek (x:=(op,name,num,args)) (by rw [Zfl,hfd,hag];rfl))
     clear hx hr hs
     have ha3:=HOK.out.1
     go_wp2_with (first|(go_at_call 153;refine (HCN.out _ bll).mono ?_;rintro e w' ⟨rfl,hbx⟩;have hzx:=hbx.size;(try simp at hzx);have u0:=λo=>hbx.cell (p:=⟨wo.heap.size,o,none⟩) omm;have HBX:=hdQ hbx;have HBY:=bh w hbx;have HPY:=qh (Own w' w.heap.size 62 [.slice (some ⟨b,o,none⟩) p.1.length c,.slice A2 p.2.length c2]) (Own.step hbx (owx HP.out));have HUY:=qh (Own w' (w.heap.size+1) 3 (ints (Zfz p.1.length (Zao p k)))) (Own.step hbx (owx HU.out));clear hbx)|(go_at_call 138;refine (HCA.out _ HBY.out).mono ?_;rintro e w' ⟨rfl,rfl⟩)|fail)
     clear HP HU HB
     have HP:=HPY;have HU:=HUY;have HB:=HBY
     clear HPY HUY HBY
     go_loopw [7,40] (λ_ i wr=>∃ j:Nat,j<=args.length/\i=.int .i64 j/\Own wr w.heap.size 62 [.slice (some ⟨b,o,none⟩) p.1.length c,.slice A2 p.2.length c2]/\Own wr (w.heap.size+1) 3 (ints (Zfz p.1.length (Zao p k++(args.take j).map Int.toNat)))/\Bw w wr) (λ_ i _=>args.length-(RowKit.intOf i).toNat)
     case atStart=>exact ⟨0,Nat.zero_le _,rfl,(owx HP.out),by rw [List.take_zero,List.map_nil,List.append_nil];exact (owx HU.out),bll⟩
     case round =>
      obtain ⟨j,hj,rfl,hp2,hu2,hb2⟩:=hrel
      obtain ⟨wi,rfl⟩:=qe wr
      have hz2:=hb2.size
      have hl2:=hu2.lt
      have HP2:=hdQ hp2
      have HU2:=hdQ hu2
      have HB2:=hdQ hb2
      have q0:wi.cell? ⟨w.heap.size,0,none⟩=some (.slice (some ⟨b,o,none⟩) p.1.length c):=hp2.cell 0
      have q1:wi.cell? ⟨w.heap.size,1,none⟩=some (.slice A2 p.2.length c2):=hp2.cell 1
      clear hp2 hb2
      by_cases hlj:j<args.length
      ·obtain ⟨b2,o2,rfl,hbh2,hcell2⟩:=(RS.step HB2.out HR.out).open_.2.2 qo
       have e1:wi.cell? ⟨b2,o2+j,none⟩=some (.int .i64 args[j]):=by rw [hcell2 j qo,Zd3 hlj]
       have hin:=HOK.out.2 _ (List.getElem_mem hlj)
       obtain ⟨m,hm⟩:∃ m:Nat,args[j]=m:=⟨args[j].toNat,qo⟩
       have hmn:m<p.1.length:=qo
       rw [hm] at e1
       have e2:wi.cell? ⟨w.heap.size+1,m,none⟩=some (.int .i64 ((Zao p k++(args.take j).map Int.toNat).count m:Int)):=by rw [hu2.cell,Zfy hmn]
       have e3:wi.frozen? ⟨w.heap.size+1,m,none⟩=false:=hu2.frozen _
       have hcl:(Zao p k++(args.take j).map Int.toNat).count m<=3*k+j:=by
        have h1:=Zjy (l:=Zao p k++(args.take j).map Int.toNat) m
        have h2:=HUL.out
        rw [List.length_append,List.length_map] at h1
        have h3:(args.take j).length<=j:=by rw [List.length_take];omega
        omega
       have HNX:Hid ((ints (Zfz p.1.length (Zao p k++(args.take j).map Int.toNat))).set m (.int .i64 (((Zao p k++(args.take j).map Int.toNat).count m:Int)+1))=ints (Zfz p.1.length (Zao p k++(args.take (j+1)).map Int.toNat))):=hdQ (by
        rw [Zif hmn,List.take_succ_eq_append_getElem hlj,List.map_append,<- List.append_assoc]
        simp [hm])
       generalize (Zao p k++(args.take j).map Int.toNat).count m=q at *
       have hw1:IntKind.i64.wrap ((q:Int)+1)=q+1:=IntWalk.i64_in _ qo
       have i1:(j:Int)<args.length:=qo
       have i2:(m:Int)<p.1.length:=qo
       have i3:(0:Int)<=m:=qo
       clear hcell2 hu2 hin hm
       go_wp2_with fail
       go_roundw
       case rel=>exact ⟨j+1,qo,qg,(owx HP2.out),by rw [<- HNX.out];exact Own.set_ HU2.out m _,bll⟩
       case measure=>exact qn
      ·obtain rfl:j=args.length:=by omega
       have HUX:=qh (Own wi (w.heap.size+1) 3 (ints (Zfz p.1.length (Zao p (k+1))))) (by have:=HU2.out;rw [List.take_length] at this;rw [Zfv hlt,HX.out];exact this)
       clear hu2
       go_wp2_with fail
       go_roundw
       case rel=>exact ⟨k+1,qo,qg,HK.out,(owx HP2.out),HUX.out,bll⟩
       case measure=>exact qn
  ·obtain rfl:k=p.1.length:=by omega
   have HUR:=qh (Own wo (w.heap.size+1) 3 (ints (Zfz p.1.length (Zaz p 0)))) (by unfold Zaz;rw [List.take_zero,List.append_nil,<- Zgk];exact HU.out)
   go_wp2_with fail
   go_loopw [9,55] (λ_ i wr=>∃ j:Nat,j<=p.2.length/\i=.int .i64 j/\Zbp p j=true/\Own wr w.heap.size 62 [.slice A p.1.length c,.slice A2 p.2.length c2]/\Own wr (w.heap.size+1) 3 (ints (Zfz p.1.length (Zaz p j)))/\Bw w wr) (λ_ i _=>p.2.length-(RowKit.intOf i).toNat)
   case atStart=>exact ⟨0,Nat.zero_le _,rfl,rfl,HP.out,HUR.out,HB.out⟩
   case round =>
    obtain ⟨j,hj,rfl,ha,hp2,hu2,hb2⟩:=hrel
    obtain ⟨wi,rfl⟩:=qe wr
    have hz2:=hb2.size
    have hl2:=hu2.lt
    have HA:=hdQ ha
    have HP2:=hdQ hp2
    have HU2:=hdQ hu2
    have HB2:=hdQ hb2
    have q0:wi.cell? ⟨w.heap.size,0,none⟩=some (.slice A p.1.length c):=hp2.cell 0
    have q1:wi.cell? ⟨w.heap.size,1,none⟩=some (.slice A2 p.2.length c2):=hp2.cell 1
    clear hb2 hp2 ha hu2 HUR
    by_cases hlj:j<p.2.length
    ·obtain ⟨b,o,rfl,hbh,hs,x0,x1⟩:=H0.out.2.2.2 j hlj
     have d0:=(HB2.out.cell (p:=⟨b,o+j*2,none⟩) hbh).trans x0
     have d1:=(HB2.out.cell (p:=⟨b,o+j*2+1,none⟩) hbh).trans x1
     have HAS:=hdQ (Zhd hlj)
     obtain ⟨⟨nm,rt⟩,hx⟩:∃ x,p.2[j]=x:=⟨_,rfl⟩
     rw [hx] at d0 d1 hs HAS
     (try dsimp only at d0 d1 hs)
     have HX:=hdQ hx
     have i1:(j:Int)<p.2.length:=qo
     have i2:(0:Int)<=j:=qo
     have HQ:=qh (∀ wx,CR 154 #[str nm] wx (.bool (Zai nm))) (λwx=>Zhf wx hs)
     clear x0 x1 hs hx
     have FIN:=qh (∀ b:Bool,Zby p.1.length (nm,rt)=b->(b=false->Zas p=false)/\(b=true->Zbp p (j+1)=true)) (λb hb=>⟨λe=>by rw [Zdd,Zjf hlj (by rw [HX.out,hb,e])];simp,λe=>by rw [HAS.out,HA.out,hb,e];rfl⟩)
     cases hid:Zai nm with
     | false =>
      have HF:=hdQ ((FIN.out false (by unfold Zby;rw [hid];rfl)).1 rfl)
      rw [hid] at HQ
      go_wp2_with (first|(go_at_call 154;refine (HQ.out _).mono ?_;rintro e w' ⟨rfl,hbx⟩;have hzx:=hbx.size;(try simp at hzx);have HBY:=bh w hbx;clear hbx)|fail)
      go_ret
      exact ⟨Zaf HF.out.symm,HBY.out⟩
     | true =>
      rw [hid] at HQ
      cases hin:inB rt 0 ((p.1.length:Int)-1) with
      | false =>
       have HF:=hdQ ((FIN.out false (by unfold Zby;rw [hid];exact hin)).1 rfl)
       go_wp2_with (first|(go_at_call 154;refine (HQ.out _).mono ?_;rintro e w' ⟨rfl,hbx⟩;have hzx:=hbx.size;(try simp at hzx);have u0:=λo=>hbx.cell (p:=⟨wi.heap.size,o,none⟩) omm;have HPY:=qh (Own w' w.heap.size 62 [.slice A p.1.length c,.slice (some ⟨b,o,none⟩) p.2.length c2]) (Own.step hbx (owx HP2.out));have v0:w'.cell? ⟨w.heap.size,0,none⟩=some (.slice A p.1.length c):=HPY.out.cell 0;have HBY:=bh w hbx;clear hbx)|(go_at_call 77;refine (Zb5 hin _).mono ?_;rintro e w' ⟨rfl,rfl⟩)|fail)
       go_ret
       exact ⟨Zaf HF.out.symm,HBY.out⟩
      | true =>
       have HK:=hdQ ((FIN.out true (by unfold Zby;rw [hid];exact hin)).2 rfl)
       have hinB:=Za6 hin
       obtain ⟨m,hm⟩:∃ m:Nat,rt=m:=⟨rt.toNat,qo⟩
       have hmn:m<p.1.length:=qo
       have HNX:=qh ((ints (Zfz p.1.length (Zaz p j))).set m (.int .i64 (((Zaz p j).count m:Int)+1))=ints (Zfz p.1.length (Zaz p (j+1)))) (by rw [Zif hmn,Zh7 hlj,HX.out,hm];rfl)
       have hcl:(Zaz p j).count m<=3*p.1.length+j:=Nat.le_trans (Zjy m) (Zi9 HT.out j)
       have E2:=qh (∀ wx,Own wx (w.heap.size+1) 3 (ints (Zfz p.1.length (Zaz p j)))->wx.cell? ⟨w.heap.size+1,m,none⟩=some (.int .i64 ((Zaz p j).count m:Int))/\wx.frozen? ⟨w.heap.size+1,m,none⟩=false) (λwx h=>⟨by rw [h.cell,Zfy hmn],h.frozen _⟩)
       generalize (Zaz p j).count m=q at *
       have hw1:IntKind.i64.wrap ((q:Int)+1)=q+1:=IntWalk.i64_in _ qo
       have i3:(m:Int)<p.1.length:=qo
       have i4:(0:Int)<=m:=qo
       subst hm
       clear hinB
       go_wp2_with (first|(go_at_call 154;refine (HQ.out _).mono ?_;rintro e w' ⟨rfl,hbx⟩;have hzx:=hbx.size;(try simp at hzx);have u0:=λo=>hbx.cell (p:=⟨wi.heap.size,o,none⟩) omm;have HPY:=qh (Own w' w.heap.size 62 [.slice A p.1.length c,.slice (some ⟨b,o,none⟩) p.2.length c2]) (Own.step hbx (owx HP2.out));have v0:w'.cell? ⟨w.heap.size,0,none⟩=some (.slice A p.1.length c):=HPY.out.cell 0;have HBY:=bh w hbx;have HUY:=qh (Own w' (w.heap.size+1) 3 (ints (Zfz p.1.length (Zaz p j)))) (Own.step hbx (owx HU2.out));obtain ⟨g2,g3⟩:=E2.out _ HUY.out;clear hbx)|(go_at_call 77;refine (Zb5 hin _).mono ?_;rintro e w' ⟨rfl,rfl⟩)|fail)
       go_roundw
       case rel=>exact ⟨j+1,qo,qg,HK.out,(owx HPY.out),by rw [<- HNX.out];exact Own.set_ HUY.out m _,bll⟩
       case measure=>exact qn
    ·obtain rfl:j=p.2.length:=by omega
     have HUE:=qh (Own wi (w.heap.size+1) 3 (ints (Zfz p.1.length (Zhh p)))) (by rw [<- Zja];exact HU2.out)
     have HF:=qh (Zas p=Zet (Zhh p) p.1.length) (by rw [Zdd,HT.out,HA.out];simp [h60])
     go_wp2_with (first|(go_at_call 155;refine (Zl7 _ HUE.out h1).mono ?_;rintro e w' ⟨rfl,rfl⟩)|fail)
     go_ret
     exact ⟨Zaf (by rw [HF.out]),HB2.out⟩
end
section
set_option maxRecDepth 100000
open Go.RowKit Go.Lib Go.Maps Go.WideMaps
theorem first_in {p:Zag} {j:Nat} (hj:j<p.2.length):∃ f,Zbg p p.2[j].1 p.2.length=some f:=by
 cases h:Zbg p p.2[j].1 p.2.length with
 | some f=>exact ⟨f,rfl⟩
 | none=>exact absurd rfl (Ze1 (Nat.le_refl _) h j hj hj)
theorem Zrk (p:Zag) (name:List UInt8):(Zbg p name p.2.length).isSome=has p name p.2.length:=by
 rw [<- Zky]
 cases h:Zbg p name p.2.length with
 | none=>rfl
 | some f =>
  obtain ⟨h1,_⟩:=Zgn (Nat.le_refl _) h
  simp;omega
theorem I_Check {A A2:OA} {c c2:Nat} {p:Zag} (w:World) (h:Zcd w A c A2 c2 p) (h1:p.1.length<=1048576) (h2:p.2.length<=1048576) :
  CL 139 #[Zbz A p.1.length c A2 p.2.length c2] w (Zjz (Za3 p) w):=by
 have H0:=hdQ h
 have HV0:=qh (∀ wx,Bw w wx->CR 94 #[Zbz A p.1.length c A2 p.2.length c2] wx (.bool (Zas p))) (λwx hb=>Zf8 wx (h.step hb) h1 h2)
 clear h
 cases hv:Zas p with
 | false =>
  have HF:=qh (Za3 p=false) (by rw [Zf1,hv];rfl)
  rw [hv] at HV0
  go_enter Tryz.func139,Tryz.ntmps139
  go_wp2_with (first|(go_at_call 94;refine (HV0.out _ bll).mono ?_;rintro e w1 ⟨rfl,hb1⟩;have HB1:=bh w hb1;clear hb1)|fail)
  exact bodyPost_ret (v:=.tuple #[.int .i64 1,.int .i64 0]) (by simp [results,Tryz.results139,go_sem, *]) rfl ⟨⟨_,_,rfl,by rw [HF.out];rfl⟩,HB1.out⟩
 | true =>
  have hl1:=Zdi hv
  have hl2:=Zda hv
  have HAS:=qh (∀ wx,Bw w wx->CL 198 #[Zbz A p.1.length c A2 p.2.length c2] wx λe w'=>∃ B D,e=.returned (.map (some B))/\Zd9 w' B p.2.length D/\IsFirst p p.2.length D/\wx.heap.size<=B/\Bw wx w') (λwx hb=>Zvm wx ((H0.out.step hb).2) hl2)
  have HOW:=qh (∀ wx,Bw w wx->CL 199 #[Zbz A p.1.length c A2 p.2.length c2] wx λe w'=>∃ g,e=.returned (sl g p.1.length)/\Own w' g 3 (ints (Zlv p))/\wx.heap.size<=g/\Bw wx w') (λwx hb=>I_owners wx (H0.out.step hb) hv)
  have HCD:=qh (Za3 p=(Zb3 p p.1.length&&Zb8 p p.1.length&&Zfr p p.2.length&&has p Zem p.2.length)) (by rw [Zf1,hv];rfl)
  rw [hv] at HV0
  clear hv
  go_enter Tryz.func139,Tryz.ntmps139
  go_upto_region 3 with (first|(go_at_call 94;refine (HV0.out _ bll).mono ?_;rintro e w1 ⟨rfl,hb1⟩;have hz1:=hb1.size;(try simp at hz1);have HB1:=bh w hb1;have HP1:=qh (Own w1 w.heap.size 62 [.slice A p.1.length c,.slice A2 p.2.length c2]) (Own.step hb1 (Own.new w _ #[_,_]));have r0:w1.cell? ⟨w.heap.size,0,none⟩=some (.slice A p.1.length c):=HP1.out.cell 0;have r1:w1.cell? ⟨w.heap.size,1,none⟩=some (.slice A2 p.2.length c2):=HP1.out.cell 1;clear hb1)|fail)
  go_cut [4,5] (λs4 s5 wx=>∃ (B g:Nat) (D:DataW Unit),s4=.map (some B)/\s5=sl g p.1.length/\Zd9 wx B p.2.length D/\IsFirst p p.2.length D/\Own wx g 3 (ints (Zlv p))/\Own wx w.heap.size 62 [.slice A p.1.length c,.slice A2 p.2.length c2]/\Bw w wx/\w.heap.size<g/\w.heap.size<B)
  case first =>
   go_region_held3 (λw'=>w'.cell? ⟨w.heap.size,0,none⟩=some (.slice A p.1.length c)/\w'.cell? ⟨w.heap.size,1,none⟩=some (.slice A2 p.2.length c2))
    (first|go_keep|((try dsimp only);refine ⟨?_, ?_⟩<;>(go_simp;done)))
    (first|(go_at_call 198;(with_reducible refine (HAS.out _ bll).mono ?_);rintro e wA ⟨B,D,rfl,hmA,hfA,hgA,hbA⟩;have hzA:=hbA.size;(try simp at hzA hgA);(refine Zan hbA (w.heap.size) ?_ ?_;(first|omega|(simp<;>omega));intro n0 nf0 nz0))|(go_at_call 199;(with_reducible refine (HOW.out _ bll).mono ?_);rintro e wB ⟨g,rfl,hoB,hgB,hbB⟩;have hzB:=hbB.size;(try simp at hzB hgB);(refine Zan hbB (w.heap.size) ?_ ?_;(first|omega|(simp<;>omega));intro m0 mf0 mz0))|fail)
   all_goals
    go_wp2_with fail
    go_meet
    refine ⟨B,g,D,rfl,rfl, ?_,hfA, ?_,(owx HP1.out),bll, ?_, ?_⟩
    ·first|exact hmA|exact Zd9.step hmA hbB
    ·first|exact hoB|exact Own.step hbA hoB
    ·omega
    ·omega
  case rest =>
  obtain ⟨B,g,D,rfl,rfl,hm2,hf2,ho2,hp2,hb2,hg2,hB2⟩:=hcut
  obtain ⟨w2,rfl⟩:=qe wc
  have HB2:=hdQ hb2
  have HP2:=hdQ hp2
  have HM2:=hdQ hm2
  have HO2:=hdQ ho2
  have HFI:=hdQ hf2
  have s0:w2.cell? ⟨w.heap.size,0,none⟩=some (.slice A p.1.length c):=HP2.out.cell 0
  have s1:w2.cell? ⟨w.heap.size,1,none⟩=some (.slice A2 p.2.length c2):=HP2.out.cell 1
  clear hb2 hp2 hm2 ho2 hf2 HV0 HAS HOW r0 r1 HP1 HB1
  go_wp2_with fail
  go_loopw [6,7,24] (λ_ _ i wr=>∃ k:Nat,k<=p.1.length/\i=.int .i64 k/\Zb3 p k=true/\Zd9 wr B p.2.length D/\Own wr w.heap.size 62 [.slice A p.1.length c,.slice A2 p.2.length c2]/\Own wr g 3 (ints (Zlv p))/\Bw w wr) (λ_ _ i _=>p.1.length-(RowKit.intOf i).toNat)
  case atStart=>exact ⟨0,Nat.zero_le _,rfl,rfl,HM2.out,HP2.out,HO2.out,HB2.out⟩
  case round =>
   obtain ⟨k,hk,rfl,ht,hm,hp,hu,hb⟩:=hrel
   obtain ⟨wo,rfl⟩:=qe wr
   have hz:=hb.size
   have hl:=hp.lt
   have hgl:=hu.lt
   have hml:=World.ownsMap.lt hm
   have HT:=hdQ ht
   have HM:=hdQ hm
   have HP:=hdQ hp
   have HU:=hdQ hu
   have HB:=hdQ hb
   have p0:wo.cell? ⟨w.heap.size,0,none⟩=some (.slice A p.1.length c):=hp.cell 0
   have p1:wo.cell? ⟨w.heap.size,1,none⟩=some (.slice A2 p.2.length c2):=hp.cell 1
   clear hp hb ht hm s0 s1 HP2 HM2 HO2 HB2
   by_cases hlt:k<p.1.length
   ·obtain ⟨b,o,A',c',rfl,hbh,hs,hr,x0,x1,x2,x3⟩:=H0.out.1.2.2 k hlt
    have d0:=(HB.out.cell (p:=⟨b,o+k*4,none⟩) hbh).trans x0
    have d1:=(HB.out.cell (p:=⟨b,o+k*4+1,none⟩) hbh).trans x1
    have d2:=(HB.out.cell (p:=⟨b,o+k*4+2,none⟩) hbh).trans x2
    have d3:=(HB.out.cell (p:=⟨b,o+k*4+3,none⟩) hbh).trans x3
    have HTS:=hdQ (Zjd hlt)
    obtain ⟨⟨op,name,num,args⟩,hx⟩:∃ x,p.1[k]=x:=⟨_,rfl⟩
    rw [hx] at d0 d1 d2 d3 HTS hs
    (try dsimp only at d0 d1 d2 d3 hs)
    have HX:=hdQ hx
    have HSN:=hdQ hs
    have e1:wo.cell? ⟨g,k,none⟩=some (.int .i64 ((Zlv p).getD k 0)):=by rw [hu.cell,Zfo (by rw [Zs7];exact hlt)]
    have i0:(k:Int)<p.1.length:=qo
    have i00:(0:Int)<=k:=qo
    have FIN:=qh (∀ b,Zf5 p k (op,name,num,args)=b->(b=false->Zb3 p p.1.length=false)/\(b=true->Zb3 p (k+1)=true)) (λb hb=>⟨λe=>Zmu hlt (by rw [HX.out,hb,e]),λe=>by rw [HTS.out,HT.out,hb,e];rfl⟩)
    have HKN:=qh (∀ bb,Zf5 p k (op,name,num,args)=bb->∀ wx,Zd9 wx B p.2.length D->CR 200 #[.iface (exT op) (Zg4 op name num A' args.length c'),.int .i64 ((Zlv p).getD k 0),.map (some B)] wx (.bool bb)) (λbb hbb wx hmx=>by subst hbb;exact I_known wx hmx HFI.out HSN.out)
    generalize hov:(Zlv p).getD k 0=ov at *
    generalize args.length=an at *
    clear x0 x1 x2 x3 hs hr hx hu
    have ng:¬ g=wo.heap.size:=qo
    have nw:¬ w.heap.size=wo.heap.size:=qo
    cases hnk:Zf5 p k (op,name,num,args) with
    | true =>
     have HK:=hdQ ((FIN.out true hnk).2 rfl)
     have HKT:=hdQ (HKN.out true hnk)
     go_wp2_with fail
     go_region_held3 (λw'=>w'.cell? ⟨wo.heap.size,0,none⟩=some (.int .i64 op)/\w'.cell? ⟨wo.heap.size,1,none⟩=some (str name)/\w'.cell? ⟨wo.heap.size,2,none⟩=some (.int .i64 num)/\w'.cell? ⟨wo.heap.size,3,none⟩=some (.slice A' an c')/\w'.cell? ⟨g,k,none⟩=some (.int .i64 ov))
      (first|go_keep|((try dsimp only);refine ⟨?_, ?_, ?_, ?_, ?_⟩<;>(go_simp;done)))
      (first|(go_at_call 201;(with_reducible refine (Zj1 _).mono ?_);rintro e wA ⟨rfl,hbA⟩;have hzA:=hbA.size;(try simp at hzA);(refine Zan hbA (wo.heap.size) ?_ ?_;(first|omega|(simp<;>omega));intro n0 nf0 nz0);(refine Zan hbA (w.heap.size) ?_ ?_;(first|omega|(simp<;>omega));intro m0 mf0 mz0);(refine Zan hbA (g) ?_ ?_;(first|omega|(simp<;>omega));intro q0 qf0 qz0))|(go_at_call 200;(with_reducible refine (HKT.out _ (Zd9.step HM.out bll)).mono ?_);rintro e wB ⟨rfl,hbB⟩;have hzB:=hbB.size;(try simp at hzB);(refine Zan hbB (wo.heap.size) ?_ ?_;(first|omega|(simp<;>omega));intro a0 af0 az0);(refine Zan hbB (w.heap.size) ?_ ?_;(first|omega|(simp<;>omega));intro b0 bf0 bz0);(refine Zan hbB (g) ?_ ?_;(first|omega|(simp<;>omega));intro c0 cf0 cz0))|fail)
     all_goals
      go_wp2_with fail
      go_roundw
      case rel=>exact ⟨k+1,qo,qg,HK.out,Zd9.step HM.out bll,(owx HP.out),(owx HU.out),bll⟩
      case measure=>exact qn
    | false =>
     have HF:=hdQ ((FIN.out false hnk).1 rfl)
     have HKT:=hdQ (HKN.out false hnk)
     have HFF:=qh (Za3 p=false) (by rw [HCD.out,HF.out];rfl)
     go_wp2_with fail
     go_region_held3 (λw'=>w'.cell? ⟨wo.heap.size,0,none⟩=some (.int .i64 op)/\w'.cell? ⟨wo.heap.size,1,none⟩=some (str name)/\w'.cell? ⟨wo.heap.size,2,none⟩=some (.int .i64 num)/\w'.cell? ⟨wo.heap.size,3,none⟩=some (.slice A' an c')/\w'.cell? ⟨g,k,none⟩=some (.int .i64 ov))
      (first|go_keep|((try dsimp only);refine ⟨?_, ?_, ?_, ?_, ?_⟩<;>(go_simp;done)))
      (first|(go_at_call 201;(with_reducible refine (Zj1 _).mono ?_);rintro e wA ⟨rfl,hbA⟩;have hzA:=hbA.size;(try simp at hzA);(refine Zan hbA (wo.heap.size) ?_ ?_;(first|omega|(simp<;>omega));intro n0 nf0 nz0);(refine Zan hbA (w.heap.size) ?_ ?_;(first|omega|(simp<;>omega));intro m0 mf0 mz0);(refine Zan hbA (g) ?_ ?_;(first|omega|(simp<;>omega));intro q0 qf0 qz0))|(go_at_call 200;(with_reducible refine (HKT.out _ (Zd9.step HM.out bll)).mono ?_);rintro e wB ⟨rfl,hbB⟩;have hzB:=hbB.size;(try simp at hzB);(refine Zan hbB (wo.heap.size) ?_ ?_;(first|omega|(simp<;>omega));intro a0 af0 az0);(refine Zan hbB (w.heap.size) ?_ ?_;(first|omega|(simp<;>omega));intro b0 bf0 bz0);(refine Zan hbB (g) ?_ ?_;(first|omega|(simp<;>omega));intro c0 cf0 cz0))|fail)
     all_goals
      go_wp2_with fail
      exact bodyPost_ret (v:=.tuple #[.int .i64 2,.int .i64 k]) (by simp [results,Tryz.results139,go_sem, *]) rfl ⟨⟨_,_,rfl,by rw [HFF.out];rfl⟩,bll⟩
   ·obtain rfl:k=p.1.length:=by omega
    have HNT:=HT
    clear HT hu hz hl hgl hml
    have hz:=HB.out.size
    have hl:=HP.out.lt
    have hml:=World.ownsMap.lt HM.out
    go_wp2_with fail
    go_loopw [8,9,43] (λ_ _ i wr=>∃ k:Nat,k<=p.1.length/\i=.int .i64 k/\Zb8 p k=true/\Zd9 wr B p.2.length D/\Own wr w.heap.size 62 [.slice A p.1.length c,.slice A2 p.2.length c2]/\Bw w wr) (λ_ _ i _=>p.1.length-(RowKit.intOf i).toNat)
    case atStart=>exact ⟨0,Nat.zero_le _,rfl,rfl,HM.out,HP.out,HB.out⟩
    case round =>
     clear hz hl hml
     obtain ⟨k,hk2,rfl,ht,hm,hp,hb⟩:=hrel
     obtain ⟨wi,rfl⟩:=qe wr
     have hz:=hb.size
     have hl:=hp.lt
     have hml:=World.ownsMap.lt hm
     have HT:=hdQ ht
     have HM3:=hdQ hm
     have HP3:=hdQ hp
     have HB3:=hdQ hb
     have q0:wi.cell? ⟨w.heap.size,0,none⟩=some (.slice A p.1.length c):=hp.cell 0
     have q1:wi.cell? ⟨w.heap.size,1,none⟩=some (.slice A2 p.2.length c2):=hp.cell 1
     clear hp hb ht hm p0 p1
     by_cases hlt:k<p.1.length
     ·obtain ⟨b,o,A',c',rfl,hbh,hs,hr,x0,x1,x2,x3⟩:=H0.out.1.2.2 k hlt
      have d0:=(HB3.out.cell (p:=⟨b,o+k*4,none⟩) hbh).trans x0
      have d1:=(HB3.out.cell (p:=⟨b,o+k*4+1,none⟩) hbh).trans x1
      have d2:=(HB3.out.cell (p:=⟨b,o+k*4+2,none⟩) hbh).trans x2
      have d3:=(HB3.out.cell (p:=⟨b,o+k*4+3,none⟩) hbh).trans x3
      have HTS:=hdQ (Zhe hlt)
      obtain ⟨⟨op,name,num,args⟩,hx⟩:∃ x,p.1[k]=x:=⟨_,rfl⟩
      rw [hx] at d0 d1 d2 d3 HTS
      (try dsimp only at d0 d1 d2 d3)
      have HX:=hdQ hx
      have i0:(k:Int)<p.1.length:=qo
      have i00:(0:Int)<=k:=qo
      have FIN:=qh (∀ b,Zeo (op,name,num,args)=b->(b=false->Za3 p=false)/\(b=true->Zb8 p (k+1)=true)) (λb hb=>⟨λe=>by rw [HCD.out,Zjg hlt (by rw [HX.out,hb,e])];simp,λe=>by rw [HTS.out,HT.out,hb,e];rfl⟩)
      have HFT:=qh (∀ bb,Zeo (op,name,num,args)=bb->∀ wx,CR 202 #[.iface (exT op) (Zg4 op name num A' args.length c')] wx (.bool bb)) (λbb hbb wx=>by subst hbb;exact Zyi wx)
      generalize args.length=an at *
      clear x0 x1 x2 x3 hs hr hx
      cases hnk:Zeo (op,name,num,args) with
      | true =>
       have HK:=hdQ ((FIN.out true hnk).2 rfl)
       have HKT:=hdQ (HFT.out true hnk)
       go_wp2_with (first|(go_at_call 201;(with_reducible refine (Zj1 _).mono ?_);rintro e wA ⟨rfl,hbA⟩;have hzA:=hbA.size;(try simp at hzA);have HBA:=bh w hbA;have HPA:=qh (Own wA w.heap.size 62 [.slice (some ⟨b,o,none⟩) p.1.length c,.slice A2 p.2.length c2]) (Own.step hbA (owx HP3.out));have HMA:=qh (Zd9 wA B p.2.length D) (Zd9.step HM3.out bll);clear hbA)|(go_at_call 202;(with_reducible refine (HKT.out _).mono ?_);rintro e wB ⟨rfl,hbB⟩;have hzB:=hbB.size;have HBB:=qh (Bw w wB) (Below.step hbB HBA.out HBA.out.size);have HPB:=qh (Own wB w.heap.size 62 [.slice (some ⟨b,o,none⟩) p.1.length c,.slice A2 p.2.length c2]) (Own.step hbB HPA.out);have HMB:=qh (Zd9 wB B p.2.length D) (Zd9.step HMA.out hbB);clear hbB)|fail)
       go_roundw
       case rel=>exact ⟨k+1,qo,qg,HK.out,HMB.out,HPB.out,HBB.out⟩
       case measure=>exact qn
      | false =>
       have HF:=hdQ ((FIN.out false hnk).1 rfl)
       have HKT:=hdQ (HFT.out false hnk)
       go_wp2_with (first|(go_at_call 201;(with_reducible refine (Zj1 _).mono ?_);rintro e wA ⟨rfl,hbA⟩;have hzA:=hbA.size;(try simp at hzA);have HBA:=bh w hbA;clear hbA)|(go_at_call 202;(with_reducible refine (HKT.out _).mono ?_);rintro e wB ⟨rfl,hbB⟩;have hzB:=hbB.size;have HBB:=qh (Bw w wB) (Below.step hbB HBA.out HBA.out.size);clear hbB)|fail)
       exact bodyPost_ret (v:=.tuple #[.int .i64 3,.int .i64 k]) (by simp [results,Tryz.results139,go_sem, *]) rfl ⟨⟨_,_,rfl,by rw [HF.out];rfl⟩,HBB.out⟩
     ·obtain rfl:k=p.1.length:=by omega
      have HAT:=HT
      clear HT
      go_wp2_with fail
      go_loopw [10,11,57] (λ_ _ i wr=>∃ j:Nat,j<=p.2.length/\i=.int .i64 j/\Zfr p j=true/\Zd9 wr B p.2.length D/\Own wr w.heap.size 62 [.slice A p.1.length c,.slice A2 p.2.length c2]/\Bw w wr) (λ_ _ i _=>p.2.length-(RowKit.intOf i).toNat)
      case atStart=>exact ⟨0,Nat.zero_le _,rfl,rfl,HM3.out,HP3.out,HB3.out⟩
      case round =>
       clear hz hl hml
       obtain ⟨j,hj,rfl,ha,hm,hp,hb⟩:=hrel
       obtain ⟨wu,rfl⟩:=qe wr
       have hz:=hb.size
       have hl:=hp.lt
       have hml:=World.ownsMap.lt hm
       have HA:=hdQ ha
       have HM4:=hdQ hm
       have HP4:=hdQ hp
       have HB4:=hdQ hb
       clear hp hb ha hm q0 q1
       by_cases hlj:j<p.2.length
       ·obtain ⟨b,o,rfl,hbh,hs,x0,x1⟩:=H0.out.2.2.2 j hlj
        have d0:=(HB4.out.cell (p:=⟨b,o+j*2,none⟩) hbh).trans x0
        have d1:=(HB4.out.cell (p:=⟨b,o+j*2+1,none⟩) hbh).trans x1
        have HTS:=hdQ (Zk3 hlj)
        obtain ⟨f,hf⟩:=first_in hlj
        obtain ⟨⟨nm,rt⟩,hx⟩:∃ x,p.2[j]=x:=⟨_,rfl⟩
        rw [hx] at d0 d1 hs HTS hf
        (try dsimp only at d0 d1 hs hf)
        have HX:=hdQ hx
        have i1:(j:Int)<p.2.length:=qo
        have i2:(0:Int)<=j:=qo
        have FIN:=qh (∀ b,Zk4 p j (nm,rt)=b->(b=false->Za3 p=false)/\(b=true->Zfr p (j+1)=true)) (λb hb=>⟨λe=>by rw [HCD.out,Zqc hlj (by rw [HX.out,hb,e])];simp,λe=>by rw [HTS.out,HA.out,hb,e];rfl⟩)
        have HHS:=qh (has p nm j=decide ((f:Int)<(j:Int))) (by rw [<- Zky,hf])
        have HIV:=qh (∀ wx,CL 203 #[str nm] wx λe w'=>e=.returned (.bool (Zg6 nm))/\wx=w') (λwx=>Zjm nm wx)
        have hlk:(Instr.lookup 217 (.map (some B)) (str nm) false).run Tryz.prog (wu.alloc (.cells #[str nm,.int .i64 rt] 106))=.ok (.int .i64 f) (wu.alloc (.cells #[str nm,.int .i64 rt] 106)):=by
         obtain ⟨cc,hrun,hat,hwc⟩:=World.ownsMap.lookup_int (World.ownsMap.alloc HM4.out (.cells #[str nm,.int .i64 rt] 106)) keyS Tryz.underlying217 Tryz.underlying3 (Zon _) (Zny hs)
         rw [HFI.out.at_ nm f hf] at hat
         injection hat with hat
         injection hat with _ hat
         rw [hat];exact hrun
        clear x0 x1 hs hx hf
        cases hvr:Zg6 nm with
        | true =>
         have HF:=hdQ ((FIN.out false (by unfold Zk4;rw [hvr];rfl)).1 rfl)
         rw [hvr] at HIV
         go_wp2_with (first|(go_at_call 203;refine (HIV.out _).mono ?_;rintro e w' ⟨rfl,rfl⟩)|fail)
         exact bodyPost_ret (v:=.tuple #[.int .i64 4,.int .i64 j]) (by simp [results,Tryz.results139,go_sem, *]) rfl ⟨⟨_,_,rfl,by rw [HF.out];rfl⟩,bll⟩
        | false =>
         rw [hvr] at HIV
         by_cases hfj:(f:Int)<(j:Int)
         ·have HF:=hdQ ((FIN.out false (by unfold Zk4;rw [hvr,HHS.out,decide_eq_true hfj];rfl)).1 rfl)
          go_wp2_with (first|(go_at_call 203;refine (HIV.out _).mono ?_;rintro e w' ⟨rfl,rfl⟩)|fail)
          exact bodyPost_ret (v:=.tuple #[.int .i64 4,.int .i64 j]) (by simp [results,Tryz.results139,go_sem, *]) rfl ⟨⟨_,_,rfl,by rw [HF.out];rfl⟩,bll⟩
         ·have HK:=hdQ ((FIN.out true (by unfold Zk4;rw [hvr,HHS.out,decide_eq_false hfj];rfl)).2 rfl)
          go_wp2_with (first|(go_at_call 203;refine (HIV.out _).mono ?_;rintro e w' ⟨rfl,rfl⟩)|fail)
          go_roundw
          case rel=>exact ⟨j+1,qo,qg,HK.out,Zd9.step HM4.out bll,(owx HP4.out),bll⟩
          case measure=>exact qn
       ·obtain rfl:j=p.2.length:=by omega
        have HCE:=qh (Za3 p=has p Zem p.2.length) (by rw [HCD.out,HNT.out,HAT.out,HA.out];rfl)
        have hkey:keyOf Tryz.prog 9 (.string ⟨#[99,111,108,111,114]⟩)=some (.string Zem):=Zny (l:=Zem) qd
        have HHC:=qh (Maps.has D (.string Zem)=has p Zem p.2.length) (by rw [HFI.out.has,Zrk])
        cases hhc:has p Zem p.2.length with
        | true =>
         rw [hhc] at HHC HCE
         go_wp2_with (first|(at_lookup;refine wpList_lookup_own_ok_int _ rfl _ _ 217 rfl 9 3 .i64 keyS Tryz.underlying217 Tryz.underlying3 (Zon _) B p.2.length D rfl HM4.out _ _ rfl hkey ?_;intro cc hat hwc;rw [HHC.out];clear hat hwc)|fail)
         exact bodyPost_ret (v:=.tuple #[.int .i64 0,.int .i64 0]) (by simp [results,Tryz.results139,go_sem, *]) rfl ⟨⟨_,_,rfl,by rw [HCE.out];rfl⟩,bll⟩
        | false =>
         rw [hhc] at HHC HCE
         go_wp2_with (first|(at_lookup;refine wpList_lookup_own_ok_int _ rfl _ _ 217 rfl 9 3 .i64 keyS Tryz.underlying217 Tryz.underlying3 (Zon _) B p.2.length D rfl HM4.out _ _ rfl hkey ?_;intro cc hat hwc;rw [HHC.out];clear hat hwc)|fail)
         exact bodyPost_ret (v:=.tuple #[.int .i64 5,.int .i64 0]) (by simp [results,Tryz.results139,go_sem, *]) rfl ⟨⟨_,_,rfl,by rw [HCE.out];rfl⟩,bll⟩
theorem I_isOk {A A2:OA} {c c2:Nat} {p:Zag} (w:World) (h:Zcd w A c A2 c2 p) (h1:p.1.length<=1048576) (h2:p.2.length<=1048576) :
  CR 79 #[Zbz A p.1.length c A2 p.2.length c2] w ((.bool (Za3 p))):=by
 have HC:=qh (∀ wx,Bw w wx->CL 139 #[Zbz A p.1.length c A2 p.2.length c2] wx (Zjz (Za3 p) wx)) (λwx hb=>I_Check wx (h.step hb) h1 h2)
 clear h
 go_enter Tryz.func79,Tryz.ntmps79
 go_wp2_with (first|(go_at_call 139;refine (HC.out _ bll).mono ?_;rintro e w1 ⟨⟨x,y,rfl,hxy⟩,hb1⟩;have HXY:=hdQ hxy;have HB1:=bh w hb1;clear hb1 hxy)|fail)
 go_ret
 exact ⟨Zaf (by rw [<- HXY.out];rw [Bool.eq_iff_iff];simp),HB1.out⟩
end
section
set_option maxRecDepth 100000
open Go.RowKit Go.Lib
theorem Zq3 (s:EScene):Zbb s=(Za4 s.a s.b s.c s.d s.f s.g&&(Zax s.log s.tex&&(inB s.ps.length 1 3&&(decide (s.ss.length<=5)&&(Zls s.side&&(Zeg s.ps s.ps.length&&Zcj s.ps.length s.ss s.ss.length)))))):=rfl
theorem Zff {s:EScene} {T P Q:OA} {tc pc qc:Nat} (w:World) (h:SceneIn w s T tc P pc Q qc) :
  CR 27 #[Zj3 s T tc P pc Q qc] w ((.bool (Zbb s))):=by
 have H0:=hdQ h
 have HD:=hdQ (Zq3 s)
 have hpl:s.ps.length<=9223372036854775807:=by have h1:=h.ps.1;have h2:=h.ps.2.1;unfold maxLen at h2;omega
 have hsl:s.ss.length<=9223372036854775807:=by have h1:=h.ss.1;have h2:=h.ss.2.1;unfold maxLen at h2;omega
 have HCAM:=qh (∀ b,Za4 s.a s.b s.c s.d s.f s.g=b->∀ wx,CR 75 #[Zb2 s.a s.b s.c s.d s.e s.f s.g] wx (.bool b)) (λb hb wx=>by subst hb;exact Zdn wx)
 have HTEX:=qh (∀ b,Zax s.log s.tex=b->∀ wx,Bw w wx->CR 76 #[Zdw s.log (.slice T s.tex.length tc)] wx (.bool b)) (λb hb wx hbx=>by subst hb;exact Zc6 wx (RS.step hbx h.tex))
 have HIN:=qh (∀ b,inB s.ps.length 1 3=b->∀ wx,CL 77 #[.int .i64 s.ps.length,.int .i64 1,.int .i64 3] wx λe w'=>e=.returned (.bool b)/\wx=w') (λb hb wx=>Zb5 hb wx)
 have HSD:=qh (∀ b,Zls s.side=b->∀ wx,CL 78 #[.int .i64 s.side] wx λe w'=>e=.returned (.bool b)/\wx=w') (λb hb wx=>by subst hb;exact I_sideOk s.side wx)
 have HBZ:=qh (Bw w w) (Below.refl _ _)
 have HPZ:=qh (Own (w.alloc (.cells #[.int .i64 s.a,.int .i64 s.b,.int .i64 s.c,.int .i64 s.d,.bool s.e,.int .i64 s.f,.int .i64 s.g,.int .i64 s.log,.slice T s.tex.length tc,.slice P s.ps.length pc,.slice Q s.ss.length qc,.int .i64 s.side] 30)) w.heap.size 30 [.int .i64 s.a,.int .i64 s.b,.int .i64 s.c,.int .i64 s.d,.bool s.e,.int .i64 s.f,.int .i64 s.g,.int .i64 s.log,.slice T s.tex.length tc,.slice P s.ps.length pc,.slice Q s.ss.length qc,.int .i64 s.side]) (Own.new w _ #[_,_,_,_,_,_,_,_,_,_,_,_])
 clear h
 cases hcam:Za4 s.a s.b s.c s.d s.f s.g with
 | false =>
  have HF:=qh (Zbb s=false) (by rw [HD.out,hcam];rfl)
  go_enter Tryz.func27,Tryz.ntmps27
  go_wp2_with (first|(go_at_call 75;(with_reducible refine (HCAM.out false hcam _).mono ?_);rintro e wC ⟨rfl,hbwC⟩;have hzwC:=hbwC.size;(try simp at hzwC);have HBwC:=bh w hbwC;have dwC:=λo=>hbwC.cell (p:=⟨w.heap.size,o,none⟩) omm;clear hbwC)|fail)
  go_ret
  exact ⟨Zaf HF.out.symm,HBwC.out⟩
 | true =>
 cases htex:Zax s.log s.tex with
 | false =>
  have HF:=qh (Zbb s=false) (by rw [HD.out,htex];simp)
  go_enter Tryz.func27,Tryz.ntmps27
  go_wp2_with (first|(go_at_call 75;(with_reducible refine (HCAM.out true hcam _).mono ?_);rintro e wC ⟨rfl,hbwC⟩;have hzwC:=hbwC.size;(try simp at hzwC);have HBwC:=bh w hbwC;have dwC:=λo=>hbwC.cell (p:=⟨w.heap.size,o,none⟩) omm;clear hbwC)|(go_at_call 76;(with_reducible refine (HTEX.out false htex _ HBwC.out).mono ?_);rintro e wX ⟨rfl,hbwX⟩;have hzwX:=hbwX.size;(try simp at hzwX);have HBwX:=bh w hbwX;have dwX:=λo=>hbwX.cell (p:=⟨w.heap.size,o,none⟩) omm;clear hbwX)|fail)
  go_ret
  exact ⟨Zaf HF.out.symm,HBwX.out⟩
 | true =>
 cases hin:inB s.ps.length 1 3 with
 | false =>
  have HF:=qh (Zbb s=false) (by rw [HD.out,hin];simp)
  go_enter Tryz.func27,Tryz.ntmps27
  go_wp2_with (first|(go_at_call 75;(with_reducible refine (HCAM.out true hcam _).mono ?_);rintro e wC ⟨rfl,hbwC⟩;have hzwC:=hbwC.size;(try simp at hzwC);have HBwC:=bh w hbwC;have dwC:=λo=>hbwC.cell (p:=⟨w.heap.size,o,none⟩) omm;clear hbwC)|(go_at_call 76;(with_reducible refine (HTEX.out true htex _ HBwC.out).mono ?_);rintro e wX ⟨rfl,hbwX⟩;have hzwX:=hbwX.size;(try simp at hzwX);have HBwX:=bh w hbwX;have dwX:=λo=>hbwX.cell (p:=⟨w.heap.size,o,none⟩) omm;clear hbwX)|(go_at_call 77;(with_reducible refine (HIN.out false hin _).mono ?_);rintro e w' ⟨rfl,rfl⟩)|fail)
  go_ret
  exact ⟨Zaf HF.out.symm,HBwX.out⟩
 | true =>
 by_cases hle:s.ss.length<=5
 rotate_left
 ·have HF:=qh (Zbb s=false) (by rw [HD.out];simp [hle])
  have hgt:(5:Int)<s.ss.length:=qo
  go_enter Tryz.func27,Tryz.ntmps27
  go_wp2_with (first|(go_at_call 75;(with_reducible refine (HCAM.out true hcam _).mono ?_);rintro e wC ⟨rfl,hbwC⟩;have hzwC:=hbwC.size;(try simp at hzwC);have HBwC:=bh w hbwC;have dwC:=λo=>hbwC.cell (p:=⟨w.heap.size,o,none⟩) omm;clear hbwC)|(go_at_call 76;(with_reducible refine (HTEX.out true htex _ HBwC.out).mono ?_);rintro e wX ⟨rfl,hbwX⟩;have hzwX:=hbwX.size;(try simp at hzwX);have HBwX:=bh w hbwX;have dwX:=λo=>hbwX.cell (p:=⟨w.heap.size,o,none⟩) omm;clear hbwX)|(go_at_call 77;(with_reducible refine (HIN.out true hin _).mono ?_);rintro e w' ⟨rfl,rfl⟩)|fail)
  go_ret
  exact ⟨Zaf HF.out.symm,HBwX.out⟩
 have hgt:¬ (5:Int)<s.ss.length:=qo
 cases hsd:Zls s.side with
 | false =>
  have HF:=qh (Zbb s=false) (by rw [HD.out,hsd];simp)
  go_enter Tryz.func27,Tryz.ntmps27
  go_wp2_with (first|(go_at_call 75;(with_reducible refine (HCAM.out true hcam _).mono ?_);rintro e wC ⟨rfl,hbwC⟩;have hzwC:=hbwC.size;(try simp at hzwC);have HBwC:=bh w hbwC;have dwC:=λo=>hbwC.cell (p:=⟨w.heap.size,o,none⟩) omm;clear hbwC)|(go_at_call 76;(with_reducible refine (HTEX.out true htex _ HBwC.out).mono ?_);rintro e wX ⟨rfl,hbwX⟩;have hzwX:=hbwX.size;(try simp at hzwX);have HBwX:=bh w hbwX;have dwX:=λo=>hbwX.cell (p:=⟨w.heap.size,o,none⟩) omm;clear hbwX)|(go_at_call 77;(with_reducible refine (HIN.out true hin _).mono ?_);rintro e w' ⟨rfl,rfl⟩)|(go_at_call 78;(with_reducible refine (HSD.out false hsd _).mono ?_);rintro e w' ⟨rfl,rfl⟩)|fail)
  go_ret
  exact ⟨Zaf HF.out.symm,HBwX.out⟩
 | true =>
 have HT:=qh (Zeg s.ps s.ps.length=true->Zcj s.ps.length s.ss s.ss.length=true->Zbb s=true) (λh1 h2=>by rw [HD.out,hcam,htex,hin,hsd,h1,h2];simp [hle])
 go_enter Tryz.func27,Tryz.ntmps27
 go_upto_region 3 with (first|(go_at_call 75;(with_reducible refine (HCAM.out true hcam _).mono ?_);rintro e wC ⟨rfl,hbwC⟩;have hzwC:=hbwC.size;(try simp at hzwC);have HBwC:=bh w hbwC;have dwC:=λo=>hbwC.cell (p:=⟨w.heap.size,o,none⟩) omm;have HPwC:=qh (Own wC w.heap.size 30 [.int .i64 s.a,.int .i64 s.b,.int .i64 s.c,.int .i64 s.d,.bool s.e,.int .i64 s.f,.int .i64 s.g,.int .i64 s.log,.slice T s.tex.length tc,.slice P s.ps.length pc,.slice Q s.ss.length qc,.int .i64 s.side]) (Own.step hbwC HPZ.out);clear hbwC)|(go_at_call 76;(with_reducible refine (HTEX.out true htex _ HBwC.out).mono ?_);rintro e wX ⟨rfl,hbwX⟩;have hzwX:=hbwX.size;(try simp at hzwX);have HBwX:=bh w hbwX;have dwX:=λo=>hbwX.cell (p:=⟨w.heap.size,o,none⟩) omm;have HPwX:=qh (Own wX w.heap.size 30 [.int .i64 s.a,.int .i64 s.b,.int .i64 s.c,.int .i64 s.d,.bool s.e,.int .i64 s.f,.int .i64 s.g,.int .i64 s.log,.slice T s.tex.length tc,.slice P s.ps.length pc,.slice Q s.ss.length qc,.int .i64 s.side]) (Own.step hbwX HPwC.out);clear hbwX)|(go_at_call 77;(with_reducible refine (HIN.out true hin _).mono ?_);rintro e w' ⟨rfl,rfl⟩)|(go_at_call 78;(with_reducible refine (HSD.out true hsd _).mono ?_);rintro e w' ⟨rfl,rfl⟩)|fail)
 have t0:wX.cell? ⟨w.heap.size,0,none⟩=some (.int .i64 s.a):=HPwX.out.cell 0
 have t1:wX.cell? ⟨w.heap.size,1,none⟩=some (.int .i64 s.b):=HPwX.out.cell 1
 have t2:wX.cell? ⟨w.heap.size,2,none⟩=some (.int .i64 s.c):=HPwX.out.cell 2
 have t3:wX.cell? ⟨w.heap.size,3,none⟩=some (.int .i64 s.d):=HPwX.out.cell 3
 have t4:wX.cell? ⟨w.heap.size,4,none⟩=some (.bool s.e):=HPwX.out.cell 4
 have t5:wX.cell? ⟨w.heap.size,5,none⟩=some (.int .i64 s.f):=HPwX.out.cell 5
 have t6:wX.cell? ⟨w.heap.size,6,none⟩=some (.int .i64 s.g):=HPwX.out.cell 6
 have t7:wX.cell? ⟨w.heap.size,7,none⟩=some (.int .i64 s.log):=HPwX.out.cell 7
 have t8:wX.cell? ⟨w.heap.size,8,none⟩=some (.slice T s.tex.length tc):=HPwX.out.cell 8
 have t9:wX.cell? ⟨w.heap.size,9,none⟩=some (.slice P s.ps.length pc):=HPwX.out.cell 9
 have t10:wX.cell? ⟨w.heap.size,10,none⟩=some (.slice Q s.ss.length qc):=HPwX.out.cell 10
 have t11:wX.cell? ⟨w.heap.size,11,none⟩=some (.int .i64 s.side):=HPwX.out.cell 11
 have hlX:=HPwX.out.lt
 go_wp2_with fail
 go_loopw [4,39] (λ_ i wr=>∃ k:Nat,k<=s.ps.length/\i=.int .i64 k/\Zeg s.ps k=true/\Own wr w.heap.size 30 [.int .i64 s.a,.int .i64 s.b,.int .i64 s.c,.int .i64 s.d,.bool s.e,.int .i64 s.f,.int .i64 s.g,.int .i64 s.log,.slice T s.tex.length tc,.slice P s.ps.length pc,.slice Q s.ss.length qc,.int .i64 s.side]/\Bw w wr) (λ_ i _=>s.ps.length-(RowKit.intOf i).toNat)
 case atStart=>exact ⟨0,Nat.zero_le _,rfl,rfl,HPwX.out,HBwX.out⟩
 case round =>
  obtain ⟨k,hk,rfl,hsh,hp,hb⟩:=hrel
  obtain ⟨wo,rfl⟩:=qe wr
  have hz:=hb.size
  have hl:=hp.lt
  have HSH:=hdQ hsh
  have HP:=hdQ hp
  have HB:=hdQ hb
  have u0:wo.cell? ⟨w.heap.size,0,none⟩=some (.int .i64 s.a):=hp.cell 0
  have u1:wo.cell? ⟨w.heap.size,1,none⟩=some (.int .i64 s.b):=hp.cell 1
  have u2:wo.cell? ⟨w.heap.size,2,none⟩=some (.int .i64 s.c):=hp.cell 2
  have u3:wo.cell? ⟨w.heap.size,3,none⟩=some (.int .i64 s.d):=hp.cell 3
  have u4:wo.cell? ⟨w.heap.size,4,none⟩=some (.bool s.e):=hp.cell 4
  have u5:wo.cell? ⟨w.heap.size,5,none⟩=some (.int .i64 s.f):=hp.cell 5
  have u6:wo.cell? ⟨w.heap.size,6,none⟩=some (.int .i64 s.g):=hp.cell 6
  have u7:wo.cell? ⟨w.heap.size,7,none⟩=some (.int .i64 s.log):=hp.cell 7
  have u8:wo.cell? ⟨w.heap.size,8,none⟩=some (.slice T s.tex.length tc):=hp.cell 8
  have u9:wo.cell? ⟨w.heap.size,9,none⟩=some (.slice P s.ps.length pc):=hp.cell 9
  have u10:wo.cell? ⟨w.heap.size,10,none⟩=some (.slice Q s.ss.length qc):=hp.cell 10
  have u11:wo.cell? ⟨w.heap.size,11,none⟩=some (.int .i64 s.side):=hp.cell 11
  clear hp hb hsh
  by_cases hlt:k<s.ps.length
  ·obtain ⟨b,o,A1,c1,A2,c2,rfl,hbh,hpi,hn1,hn2,x0,x1⟩:=H0.out.ps.2.2 k hlt
   have y0:=(HB.out.cell (p:=⟨b,o+k*2,none⟩) hbh).trans x0
   have y1:=(HB.out.cell (p:=⟨b,o+k*2+1,none⟩) hbh).trans x1
   have HSU:=hdQ (Zqz hlt)
   have HNO:=hdQ (Zwg hlt)
   obtain ⟨x,hx⟩:=qv (s.ps[k])
   rw [hx] at y0 y1 HSU HNO hpi hn1 hn2
   have HC:=qh (∀ wx,Bw w wx->CR 79 #[Zbz A1 x.1.length c1 A2 x.2.length c2] wx (.bool (Za3 x))) (λwx hbx=>I_isOk wx (hpi.step hbx) hn1 hn2)
   have hwn:¬ wo.heap.size=w.heap.size:=qo
   have hwn2:¬ w.heap.size=wo.heap.size:=qo
   have j1:(k:Int)<s.ps.length:=qo
   have j2:(0:Int)<=k:=qo
   clear hpi hx x0 x1
   cases hok:Za3 x with
   | false =>
    have HF:=qh (Zbb s=false) (by rw [HD.out,HNO.out hok];simp)
    rw [hok] at HC
    go_wp2_with (first|(go_at_call 79;(with_reducible refine (HC.out _ bll).mono ?_);rintro e wK ⟨rfl,hbK⟩;have HBK:=bh w hbK;have HPK:=qh (Own wK w.heap.size 30 [.int .i64 s.a,.int .i64 s.b,.int .i64 s.c,.int .i64 s.d,.bool s.e,.int .i64 s.f,.int .i64 s.g,.int .i64 s.log,.slice T s.tex.length tc,.slice (some ⟨b,o,none⟩) s.ps.length pc,.slice Q s.ss.length qc,.int .i64 s.side]) (Own.step hbK (owx HP.out));clear hbK)|fail)
    go_ret
    exact ⟨Zaf HF.out.symm,HBK.out⟩
   | true =>
    have HK:=qh (Zeg s.ps (k+1)=true) (by rw [HSU.out,HSH.out,hok];rfl)
    rw [hok] at HC
    go_wp2_with (first|(go_at_call 79;(with_reducible refine (HC.out _ bll).mono ?_);rintro e wK ⟨rfl,hbK⟩;have HBK:=bh w hbK;have HPK:=qh (Own wK w.heap.size 30 [.int .i64 s.a,.int .i64 s.b,.int .i64 s.c,.int .i64 s.d,.bool s.e,.int .i64 s.f,.int .i64 s.g,.int .i64 s.log,.slice T s.tex.length tc,.slice (some ⟨b,o,none⟩) s.ps.length pc,.slice Q s.ss.length qc,.int .i64 s.side]) (Own.step hbK (owx HP.out));clear hbK)|fail)
    go_roundw
    case rel=>exact ⟨k+1,qo,qg,HK.out,HPK.out,HBK.out⟩
    case measure=>exact qn
  ·obtain rfl:k=s.ps.length:=by omega
   go_wp2_with fail
   go_loopw [6,50] (λ_ i wr=>∃ k:Nat,k<=s.ss.length/\i=.int .i64 k/\Zcj s.ps.length s.ss k=true/\Own wr w.heap.size 30 [.int .i64 s.a,.int .i64 s.b,.int .i64 s.c,.int .i64 s.d,.bool s.e,.int .i64 s.f,.int .i64 s.g,.int .i64 s.log,.slice T s.tex.length tc,.slice P s.ps.length pc,.slice Q s.ss.length qc,.int .i64 s.side]/\Bw w wr) (λ_ i _=>s.ss.length-(RowKit.intOf i).toNat)
   case atStart=>exact ⟨0,Nat.zero_le _,rfl,rfl,HP.out,HB.out⟩
   case round =>
    obtain ⟨k2,hk2,rfl,hss,hp2,hb2⟩:=hrel
    obtain ⟨wi,rfl⟩:=qe wr
    have hz2:=hb2.size
    have hl2:=hp2.lt
    have HSS:=hdQ hss
    have HP2:=hdQ hp2
    have HB2:=hdQ hb2
    have v0:wi.cell? ⟨w.heap.size,0,none⟩=some (.int .i64 s.a):=hp2.cell 0
    have v1:wi.cell? ⟨w.heap.size,1,none⟩=some (.int .i64 s.b):=hp2.cell 1
    have v2:wi.cell? ⟨w.heap.size,2,none⟩=some (.int .i64 s.c):=hp2.cell 2
    have v3:wi.cell? ⟨w.heap.size,3,none⟩=some (.int .i64 s.d):=hp2.cell 3
    have v4:wi.cell? ⟨w.heap.size,4,none⟩=some (.bool s.e):=hp2.cell 4
    have v5:wi.cell? ⟨w.heap.size,5,none⟩=some (.int .i64 s.f):=hp2.cell 5
    have v6:wi.cell? ⟨w.heap.size,6,none⟩=some (.int .i64 s.g):=hp2.cell 6
    have v7:wi.cell? ⟨w.heap.size,7,none⟩=some (.int .i64 s.log):=hp2.cell 7
    have v8:wi.cell? ⟨w.heap.size,8,none⟩=some (.slice T s.tex.length tc):=hp2.cell 8
    have v9:wi.cell? ⟨w.heap.size,9,none⟩=some (.slice P s.ps.length pc):=hp2.cell 9
    have v10:wi.cell? ⟨w.heap.size,10,none⟩=some (.slice Q s.ss.length qc):=hp2.cell 10
    have v11:wi.cell? ⟨w.heap.size,11,none⟩=some (.int .i64 s.side):=hp2.cell 11
    clear hp2 hb2 hss
    by_cases hlt2:k2<s.ss.length
    ·obtain ⟨b,o,rfl,hbh,hsf⟩:=H0.out.ss.2.2 k2 hlt2
     have hsw:=hsf.below HB2.out hbh
     have HSU:=hdQ (Zo0 (n:=s.ps.length) hlt2)
     have HNO:=hdQ (Ztz (n:=s.ps.length) hlt2)
     obtain ⟨⟨p,q,sh,rt⟩,hx⟩:∃ x,s.ss[k2]=x:=⟨_,rfl⟩
     rw [hx] at hsw HSU HNO
     (try dsimp only at hsw)
     obtain ⟨w1,w2,V,hV,hld,hal,hst,hlv,hz3,hbw,_⟩:=Zsp hsw
     have HLD:=hdQ hld
     have HAL:=hdQ hal
     have HST:=hdQ hst
     have HLV:=hdQ hlv
     have HV:=hdQ hV
     have HBW:=qh (Bw w w2) (Below.step hbw HB2.out HB2.out.size)
     have HPW:=qh (Own w2 w.heap.size 30 [.int .i64 s.a,.int .i64 s.b,.int .i64 s.c,.int .i64 s.d,.bool s.e,.int .i64 s.f,.int .i64 s.g,.int .i64 s.log,.slice T s.tex.length tc,.slice P s.ps.length pc,.slice (some ⟨b,o,none⟩) s.ss.length qc,.int .i64 s.side]) (Own.step hbw HP2.out)
     have x9:w2.cell? ⟨w.heap.size,9,none⟩=some (.slice P s.ps.length pc):=HPW.out.cell 9
     clear hsw hV hld hal hst hlv hbw
     have hwn:¬ wi.heap.size=w.heap.size:=qo
     have hwn2:¬ w.heap.size=wi.heap.size:=qo
     have j1:(k2:Int)<s.ss.length:=qo
     have j2:(0:Int)<=k2:=qo
     clear hsf hx
     cases hok:Zch s.ps.length (p,q,sh,rt) with
     | false =>
      have HF:=qh (Zbb s=false) (by rw [HD.out,HNO.out hok];simp)
      have HC:=qh (∀ wx,CR 80 #[V,.int .i64 s.ps.length] wx (.bool false)) (λwx=>by rw [HV.out];have:=Zf7 p q sh rt s.ps.length wx;rw [hok] at this;exact this)
      go_wp2_with (first|(refine Zal rfl 45 (.tmp 52) rfl rfl HLD.out ?_)|(refine Zah rfl 45 rfl HAL.out ?_)|(refine Zae rfl 45 (.tmp 6) (.tmp 53) rfl rfl rfl HST.out ?_)|(refine Zal rfl 45 (.tmp 6) rfl rfl HLV.out ?_)|(go_at_call 80;(with_reducible refine (HC.out _).mono ?_);rintro e wS ⟨rfl,hbwS⟩;have hzwS:=hbwS.size;(try simp at hzwS);have HBwS:=bh w hbwS;clear hbwS)|fail)
      go_ret
      exact ⟨Zaf HF.out.symm,HBwS.out⟩
     | true =>
      have HK:=qh (Zcj s.ps.length s.ss (k2+1)=true) (by rw [HSU.out,HSS.out,hok];rfl)
      have HC:=qh (∀ wx,CR 80 #[V,.int .i64 s.ps.length] wx (.bool true)) (λwx=>by rw [HV.out];have:=Zf7 p q sh rt s.ps.length wx;rw [hok] at this;exact this)
      go_wp2_with (first|(refine Zal rfl 45 (.tmp 52) rfl rfl HLD.out ?_)|(refine Zah rfl 45 rfl HAL.out ?_)|(refine Zae rfl 45 (.tmp 6) (.tmp 53) rfl rfl rfl HST.out ?_)|(refine Zal rfl 45 (.tmp 6) rfl rfl HLV.out ?_)|(go_at_call 80;(with_reducible refine (HC.out _).mono ?_);rintro e wS ⟨rfl,hbS⟩;have HPS:=qh (Own wS w.heap.size 30 [.int .i64 s.a,.int .i64 s.b,.int .i64 s.c,.int .i64 s.d,.bool s.e,.int .i64 s.f,.int .i64 s.g,.int .i64 s.log,.slice T s.tex.length tc,.slice P s.ps.length pc,.slice (some ⟨b,o,none⟩) s.ss.length qc,.int .i64 s.side]) (Own.step hbS HPW.out);have HBS:=qh (Bw w wS) (Below.step hbS HBW.out HBW.out.size);clear hbS)|fail)
      go_roundw
      case rel=>exact ⟨k2+1,qo,qg,HK.out,HPS.out,HBS.out⟩
      case measure=>exact qn
    ·obtain rfl:k2=s.ss.length:=by omega
     have HF:=hdQ (HT.out HSH.out HSS.out)
     go_wp2_with fail
     go_ret
     exact ⟨Zaf HF.out.symm,HB2.out⟩
theorem numF_nat (m:Nat) (h:m<=2559999):numF (m:Int)=if m % 256=0 then decDigits (m / 256) else decDigits (m / 256)++46::Zg7 (m % 256):=by
 unfold numF
 rw [if_pos qo]
 have e1:((m:Int) / 256).toNat=m / 256:=qo
 have e2:((m:Int) % 256).toNat=m % 256:=qo
 rw [e1,e2]
 by_cases h0:m % 256=0
 ·rw [if_pos h0,if_pos qo]
 ·rw [if_neg h0,if_neg qo]
theorem Zhk (b:UInt8) (c:Nat):Lib.repeatL [b] c=List.replicate c b:=by
 induction c with
 | zero=>rfl
 | succ c ih=>first|(rw [Lib.repeatL,ih,List.replicate_succ];rfl)|(simp [Lib.repeatL,List.replicate_succ])
def p10 (k:Nat):Nat:=10 ^ k
theorem Zrj {r d:Nat} (h:Zey r d=true):(r*10 ^ d+255) / 256<10 ^ d/\(r*10 ^ d+255) / 256*256 / 10 ^ d=r:=by
 unfold Zey at h
 simpa [Bool.and_eq_true] using h
theorem I_powerN {k:Nat} (w:World) (hk:k<=4) :
  CL 215 #[.int .i64 k] w λe w'=>e=.returned (.int .i64 (p10 k:Int))/\w=w':=by
 go_enter Tryz.func215,Tryz.ntmps215
 go_wp2_with fail
 go_loop [3,5] (λn i=>∃ j:Nat,j<=k/\i=.int .i64 j/\n=.int .i64 (p10 j:Int)) (λ_ i=>k-(RowKit.intOf i).toNat)
 case atStart=>exact ⟨0,Nat.zero_le _,rfl,rfl⟩
 case round =>
  obtain ⟨j,hj,rfl,rfl⟩:=hrel
  have hp:p10 j<=10 ^ 4:=Nat.pow_le_pow_right qo qo
  have HS:=qh (p10 (j+1)=p10 j*10) (Nat.pow_succ 10 j)
  generalize hq:p10 j=q at *
  have HQ:=hdQ hq
  clear hq
  by_cases hlt:j<k
  ·have i1:(j:Int)<k:=by omega
   have hw:IntKind.i64.wrap ((q:Int)*10)=(q:Int)*10:=IntWalk.i64_in _ qo
   go_wp2_with fail
   go_round
   case rel=>exact ⟨j+1,qo,qg,by rw [HS.out];first|rfl|exact congrArg (Value.int .i64) (by push_cast;rfl)|exact congrArg (Value.int .i64) qo⟩
   case measure=>exact qn
  ·obtain rfl:j=k:=by omega
   go_wp2_with fail
   go_ret
   exact ⟨Zd2 (by rw [HQ.out]),rfl⟩
theorem Zi5 {k:Nat} {u:Nat} (h:p10 k=u) (hk:k<=4) (w:World):CL 215 #[.int .i64 k] w λe w'=>e=.returned (.int .i64 u)/\w=w':=by subst h;exact I_powerN w hk
theorem Zdo (n:Nat) (hn:n<=1000000000) (w:World) (ht:Tab w):CR 42 #[.int .i64 n] w ((str (decDigits n))):=by
 have h:=Zdv (n:Int) w ht
 have e:fmtI (n:Int)=decDigits n:=by
  rw [Zi0 (by unfold Zca;omega)];unfold itoa;rw [if_neg qo];rfl
 rw [e] at h
 exact h
theorem Zl6 {m:Nat} (w:World) (hm:m<=2559999) (ht:Tab w) :
  CR 158 #[.int .i64 m] w ((str (numF (m:Int)))):=by
 have HN:=hdQ (numF_nat m hm)
 have hin:inB (m:Int) 0 2559999=true:=Zbw qo qo
 have t1:(m:Int).tdiv 256=((m / 256:Nat):Int):=by rw [Int.tdiv_eq_ediv_of_nonneg qo];omega
 have t2:(m:Int).tmod 256=((m % 256:Nat):Int):=by rw [Int.tmod_eq_emod_of_nonneg qo];omega
 have hr:m % 256<256:=Nat.mod_lt _ qo
 have hq:m / 256<=9999:=qo
 obtain ⟨q,eq⟩:=qv (m / 256)
 obtain ⟨r,er⟩:=qv (m % 256)
 rw [eq,er] at HN
 rw [eq] at t1 hq
 rw [er] at t2 hr
 have HW:=qh (∀ wx,Bw w wx->CR 42 #[.int .i64 q] wx (str (decDigits q))) (λwx hb=>Zdo q qo wx (ht.step hb))
 have hwl:(decDigits q).length<=4:=Za7 4 q qo qo
 have HT:=hdQ ht
 generalize decDigits q=W at *
 have IN:=qh (∀ wx,CL 77 #[.int .i64 m,.int .i64 0,.int .i64 2559999] wx λe w'=>e=.returned (.bool true)/\wx=w') (λwx=>Zb5 hin wx)
 clear ht eq er
 by_cases h0:r=0
 ·have HE:=qh (numF (m:Int)=W) (by rw [HN.out,if_pos h0])
  subst h0
  go_enter Tryz.func158,Tryz.ntmps158
  go_wp2_with (first|(go_at_call 77;refine (IN.out _).mono ?_;rintro e w' ⟨rfl,rfl⟩)|(go_at_call 42;refine (HW.out _ bll).mono ?_;rintro e w1 ⟨rfl,hb1⟩;have HB1:=hdQ hb1;clear hb1)|fail)
  go_ret
  exact ⟨by rw [HE.out];rfl,HB1.out⟩
 have hne:((r:Int)==0)=false:=by simp;omega
 have hne':¬ (r:Int)=0:=qo
 have HE:=qh (numF (m:Int)=W++46::Zg7 r) (by rw [HN.out,if_neg h0])
 have hfl:=Zel r
 have HOK:=hdQ (Ziz hr)
 have HLE:=qh (∀ k,1<=k->k<fracLen r->Zey r k=false) (λk h1 h2=>Zn3 h1 h2)
 have HFT:=qh (Zg7 r=List.replicate (fracLen r-(decDigits (Zd5 r)).length) 48++decDigits (Zd5 r)) rfl
 have HFN:=qh (Zd5 r=(r*10 ^ fracLen r+255) / 256) rfl
 generalize fracLen r=L at *
 clear HN h0
 go_enter Tryz.func158,Tryz.ntmps158
 go_wp2_with (first|(go_at_call 77;refine (IN.out _).mono ?_;rintro e w' ⟨rfl,rfl⟩)|(go_at_call 42;refine (HW.out _ bll).mono ?_;rintro e w1 ⟨rfl,hb1⟩;have HB1:=hdQ hb1;clear hb1)|fail)
 go_loop [5,6,7] (λd _ _=>∃ k:Nat,1<=k/\k<=L/\d=.int .i64 k) (λd _ _=>5-(RowKit.intOf d).toNat)
 case atStart=>exact ⟨1,qo,qo,rfl⟩
 case round =>
  obtain ⟨k,hk1,hkL,rfl⟩:=hrel
  rcases (show k=1∨k=2∨k=3 by omega) with rfl|rfl|rfl
  ·rw [show ((1:Nat):Int)=1 from rfl]
   have f1:(((r:Int)*10)+255).tdiv 256=(((r*10+255) / 256:Nat):Int):=by rw [Int.tdiv_eq_ediv_of_nonneg qo];omega
   have f0:IntKind.i64.wrap ((r:Int)*10)=(r:Int)*10:=IntWalk.i64_in _ qo
   have f00:IntKind.i64.wrap ((r:Int)*10+255)=(r:Int)*10+255:=IntWalk.i64_in _ qo
   have hF:(r*10+255) / 256<=1000:=qo
   have g1:(((((r*10+255) / 256:Nat):Int))*256).tdiv 10=(((r*10+255) / 256*256 / 10:Nat):Int):=by rw [Int.tdiv_eq_ediv_of_nonneg qo];omega
   have HF:=qh (1=L->(r*10+255) / 256<10/\(r*10+255) / 256*256 / 10=r/\Zd5 r=(r*10+255) / 256) (λe=>by have h1:=Zrj HOK.out;have h2:=HFN.out;rw [<- e] at h1 h2;exact ⟨h1.1,h1.2,h2⟩)
   have HG:=qh (1<L->¬ ((r*10+255) / 256<10/\(r*10+255) / 256*256 / 10=r)) (λe hh=>by have h1:=HLE.out 1 qo e;unfold Zey at h1;simp only [Nat.reducePow,Nat.pow_one] at h1;simp [hh.1,hh.2] at h1)
   have HFX:=qh (∀ x,(r*10+255) / 256=x->x=(r*10+255) / 256) (λx h=>h.symm)
   generalize hX:(r*10+255) / 256=X at *
   have g0:IntKind.i64.wrap ((X:Int)*256)=(X:Int)*256:=IntWalk.i64_in _ qo
   have hY:X*256 / 10<=256000:=qo
   generalize X*256 / 10=Y at *
   have yw:IntKind.i64.wrap (Y:Int)=Y:=IntWalk.i64_in _ qo
   clear hX HFX
   have POW:=qh (∀ wx,CL 215 #[.int .i64 1] wx λe w'=>e=.returned (.int .i64 10)/\wx=w') (λwx=>Zi5 (k:=1) (u:=10) qr qo wx)
   by_cases hd:1=L
   ·obtain ⟨a1,a2,a3⟩:=HF.out hd
    have i1:(X:Int)<10:=qo
    have e1:((Y:Int)==r)=true:=by simp;omega
    have e2:(Y:Int)=r:=qo
    subst a2
    have hdl:(decDigits X).length<=1:=Za7 1 X qo qo
    have HR:=qh (numF (m:Int)=W++[46]++(List.replicate (1-(decDigits X).length) 48++decDigits X)) (by rw [HE.out,HFT.out,a3,<- hd];simp)
    have HP:=qh (∀ wx,Bw w wx->CR 42 #[.int .i64 X] wx (str (decDigits X))) (λwx hb=>Zdo X qo wx (HT.out.step hb))
    have HRP:=qh (∀ wx,CR 216 #[.string ⟨#[48]⟩,.int .i64 ((1-(decDigits X).length:Nat):Int)] wx (str (List.replicate (1-(decDigits X).length) 48))) (λwx=>by
     have:=Tryz.strings_Repeat ⟨#[48]⟩ (1-(decDigits X).length) wx qo (by show 1*_<=_;omega)
     rw [show (⟨#[48]⟩:ByteArray).data.toList=[48] from rfl,Zhk] at this
     exact this)
    generalize decDigits X=D at *
    have hsub:(1:Int)-(D.length:Int)=((1-D.length:Nat):Int):=qo
    have hsw:IntKind.i64.wrap ((1:Int)-(D.length:Int))=((1-D.length:Nat):Int):=by rw [hsub];exact IntWalk.i64_in _ qo
    have hrl:(List.replicate (1-D.length) (48:UInt8)).length<=3:=by rw [List.length_replicate];omega
    generalize List.replicate (1-D.length) (48:UInt8)=Z at *
    generalize (1-D.length:Nat)=zc at *
    have l1:¬ 9223372036854775807<W.length+1:=qo
    have l2:¬ 9223372036854775807<W.length+1+Z.length:=qo
    have l3:¬ 9223372036854775807<W.length+1+Z.length+D.length:=qo
    clear a3 HF HG HE HOK HLE HFT HFN hsub
    go_wp2_with (first|(go_at_call 215;refine (POW.out _).mono ?_;rintro e w' ⟨rfl,rfl⟩)|(go_at_call 42;refine (HP.out _ HB1.out).mono ?_;rintro e w2 ⟨rfl,hb2⟩;have HB2:=qh (Bw w w2) (Below.step hb2 HB1.out HB1.out.size);clear hb2)|(go_at_call 216;refine (HRP.out _).mono ?_;rintro e w3 ⟨rfl,hb3⟩;have HB3:=qh (Bw w w3) (Below.step hb3 HB2.out HB2.out.size);clear hb3)|fail)
    go_ret
    exact ⟨by rw [HR.out];show Ending.returned (Value.string (({ data:=W.toArray }:ByteArray)++{ data:=[46].toArray }++{ data:=Z.toArray }++{ data:=D.toArray }))=_;rw [Zad,Zad,Zad];simp,HB3.out⟩
   ·have hng:=HG.out qo
    by_cases a1:X<10
    ·have i1:(X:Int)<10:=by omega
     have a2:Y≠r:=λh=>hng ⟨a1,h⟩
     have e1:((Y:Int)==r)=false:=by simp;omega
     have e2:(Y==r)=false:=by simpa using a2
     have e3:¬ (Y:Int)=r:=qo
     have e4:decide (Y=r)=false:=by simpa using a2
     have e5:decide ((Y:Int)=r)=false:=by simpa using e3
     clear HF HG HE HOK HLE HFT HFN hng
     go_wp2_with (first|(go_at_call 215;refine (POW.out _).mono ?_;rintro e w' ⟨rfl,rfl⟩)|fail)
     go_round
     case rel=>exact ⟨2,qo,qo,qg⟩
     case measure=>exact qn
    ·have i1:¬ (X:Int)<10:=by omega
     clear HF HG HE HOK HLE HFT HFN hng
     go_wp2_with (first|(go_at_call 215;refine (POW.out _).mono ?_;rintro e w' ⟨rfl,rfl⟩)|fail)
     go_round
     case rel=>exact ⟨2,qo,qo,qg⟩
     case measure=>exact qn
  ·rw [show ((2:Nat):Int)=2 from rfl]
   have f1:(((r:Int)*100)+255).tdiv 256=(((r*100+255) / 256:Nat):Int):=by rw [Int.tdiv_eq_ediv_of_nonneg qo];omega
   have f0:IntKind.i64.wrap ((r:Int)*100)=(r:Int)*100:=IntWalk.i64_in _ qo
   have f00:IntKind.i64.wrap ((r:Int)*100+255)=(r:Int)*100+255:=IntWalk.i64_in _ qo
   have hF:(r*100+255) / 256<=1000:=qo
   have g1:(((((r*100+255) / 256:Nat):Int))*256).tdiv 100=(((r*100+255) / 256*256 / 100:Nat):Int):=by rw [Int.tdiv_eq_ediv_of_nonneg qo];omega
   have HF:=qh (2=L->(r*100+255) / 256<100/\(r*100+255) / 256*256 / 100=r/\Zd5 r=(r*100+255) / 256) (λe=>by have h1:=Zrj HOK.out;have h2:=HFN.out;rw [<- e] at h1 h2;exact ⟨h1.1,h1.2,h2⟩)
   have HG:=qh (2<L->¬ ((r*100+255) / 256<100/\(r*100+255) / 256*256 / 100=r)) (λe hh=>by have h1:=HLE.out 2 qo e;unfold Zey at h1;simp only [Nat.reducePow,Nat.pow_one] at h1;simp [hh.1,hh.2] at h1)
   have HFX:=qh (∀ x,(r*100+255) / 256=x->x=(r*100+255) / 256) (λx h=>h.symm)
   generalize hX:(r*100+255) / 256=X at *
   have g0:IntKind.i64.wrap ((X:Int)*256)=(X:Int)*256:=IntWalk.i64_in _ qo
   have hY:X*256 / 100<=256000:=qo
   generalize X*256 / 100=Y at *
   have yw:IntKind.i64.wrap (Y:Int)=Y:=IntWalk.i64_in _ qo
   clear hX HFX
   have POW:=qh (∀ wx,CL 215 #[.int .i64 2] wx λe w'=>e=.returned (.int .i64 100)/\wx=w') (λwx=>Zi5 (k:=2) (u:=100) qr qo wx)
   by_cases hd:2=L
   ·obtain ⟨a1,a2,a3⟩:=HF.out hd
    have i1:(X:Int)<100:=qo
    have e1:((Y:Int)==r)=true:=by simp;omega
    have e2:(Y:Int)=r:=qo
    subst a2
    have hdl:(decDigits X).length<=2:=Za7 2 X qo qo
    have HR:=qh (numF (m:Int)=W++[46]++(List.replicate (2-(decDigits X).length) 48++decDigits X)) (by rw [HE.out,HFT.out,a3,<- hd];simp)
    have HP:=qh (∀ wx,Bw w wx->CR 42 #[.int .i64 X] wx (str (decDigits X))) (λwx hb=>Zdo X qo wx (HT.out.step hb))
    have HRP:=qh (∀ wx,CR 216 #[.string ⟨#[48]⟩,.int .i64 ((2-(decDigits X).length:Nat):Int)] wx (str (List.replicate (2-(decDigits X).length) 48))) (λwx=>by
     have:=Tryz.strings_Repeat ⟨#[48]⟩ (2-(decDigits X).length) wx qo (by show 1*_<=_;omega)
     rw [show (⟨#[48]⟩:ByteArray).data.toList=[48] from rfl,Zhk] at this
     exact this)
    generalize decDigits X=D at *
    have hsub:(2:Int)-(D.length:Int)=((2-D.length:Nat):Int):=qo
    have hsw:IntKind.i64.wrap ((2:Int)-(D.length:Int))=((2-D.length:Nat):Int):=by rw [hsub];exact IntWalk.i64_in _ qo
    have hrl:(List.replicate (2-D.length) (48:UInt8)).length<=3:=by rw [List.length_replicate];omega
    generalize List.replicate (2-D.length) (48:UInt8)=Z at *
    generalize (2-D.length:Nat)=zc at *
    have l1:¬ 9223372036854775807<W.length+1:=qo
    have l2:¬ 9223372036854775807<W.length+1+Z.length:=qo
    have l3:¬ 9223372036854775807<W.length+1+Z.length+D.length:=qo
    clear a3 HF HG HE HOK HLE HFT HFN hsub
    go_wp2_with (first|(go_at_call 215;refine (POW.out _).mono ?_;rintro e w' ⟨rfl,rfl⟩)|(go_at_call 42;refine (HP.out _ HB1.out).mono ?_;rintro e w2 ⟨rfl,hb2⟩;have HB2:=qh (Bw w w2) (Below.step hb2 HB1.out HB1.out.size);clear hb2)|(go_at_call 216;refine (HRP.out _).mono ?_;rintro e w3 ⟨rfl,hb3⟩;have HB3:=qh (Bw w w3) (Below.step hb3 HB2.out HB2.out.size);clear hb3)|fail)
    go_ret
    exact ⟨by rw [HR.out];show Ending.returned (Value.string (({ data:=W.toArray }:ByteArray)++{ data:=[46].toArray }++{ data:=Z.toArray }++{ data:=D.toArray }))=_;rw [Zad,Zad,Zad];simp,HB3.out⟩
   ·have hng:=HG.out qo
    by_cases a1:X<100
    ·have i1:(X:Int)<100:=by omega
     have a2:Y≠r:=λh=>hng ⟨a1,h⟩
     have e1:((Y:Int)==r)=false:=by simp;omega
     have e2:(Y==r)=false:=by simpa using a2
     have e3:¬ (Y:Int)=r:=qo
     have e4:decide (Y=r)=false:=by simpa using a2
     have e5:decide ((Y:Int)=r)=false:=by simpa using e3
     clear HF HG HE HOK HLE HFT HFN hng
     go_wp2_with (first|(go_at_call 215;refine (POW.out _).mono ?_;rintro e w' ⟨rfl,rfl⟩)|fail)
     go_round
     case rel=>exact ⟨3,qo,qo,qg⟩
     case measure=>exact qn
    ·have i1:¬ (X:Int)<100:=by omega
     clear HF HG HE HOK HLE HFT HFN hng
     go_wp2_with (first|(go_at_call 215;refine (POW.out _).mono ?_;rintro e w' ⟨rfl,rfl⟩)|fail)
     go_round
     case rel=>exact ⟨3,qo,qo,qg⟩
     case measure=>exact qn
  ·rw [show ((3:Nat):Int)=3 from rfl]
   have f1:(((r:Int)*1000)+255).tdiv 256=(((r*1000+255) / 256:Nat):Int):=by rw [Int.tdiv_eq_ediv_of_nonneg qo];omega
   have f0:IntKind.i64.wrap ((r:Int)*1000)=(r:Int)*1000:=IntWalk.i64_in _ qo
   have f00:IntKind.i64.wrap ((r:Int)*1000+255)=(r:Int)*1000+255:=IntWalk.i64_in _ qo
   have hF:(r*1000+255) / 256<=1000:=qo
   have g1:(((((r*1000+255) / 256:Nat):Int))*256).tdiv 1000=(((r*1000+255) / 256*256 / 1000:Nat):Int):=by rw [Int.tdiv_eq_ediv_of_nonneg qo];omega
   have HF:=qh (3=L->(r*1000+255) / 256<1000/\(r*1000+255) / 256*256 / 1000=r/\Zd5 r=(r*1000+255) / 256) (λe=>by have h1:=Zrj HOK.out;have h2:=HFN.out;rw [<- e] at h1 h2;exact ⟨h1.1,h1.2,h2⟩)
   have HG:=qh (3<L->¬ ((r*1000+255) / 256<1000/\(r*1000+255) / 256*256 / 1000=r)) (λe hh=>by have h1:=HLE.out 3 qo e;unfold Zey at h1;simp only [Nat.reducePow,Nat.pow_one] at h1;simp [hh.1,hh.2] at h1)
   have HFX:=qh (∀ x,(r*1000+255) / 256=x->x=(r*1000+255) / 256) (λx h=>h.symm)
   generalize hX:(r*1000+255) / 256=X at *
   have g0:IntKind.i64.wrap ((X:Int)*256)=(X:Int)*256:=IntWalk.i64_in _ qo
   have hY:X*256 / 1000<=256000:=qo
   generalize X*256 / 1000=Y at *
   have yw:IntKind.i64.wrap (Y:Int)=Y:=IntWalk.i64_in _ qo
   clear hX HFX
   have POW:=qh (∀ wx,CL 215 #[.int .i64 3] wx λe w'=>e=.returned (.int .i64 1000)/\wx=w') (λwx=>Zi5 (k:=3) (u:=1000) qr qo wx)
   by_cases hd:3=L
   ·obtain ⟨a1,a2,a3⟩:=HF.out hd
    have i1:(X:Int)<1000:=qo
    have e1:((Y:Int)==r)=true:=by simp;omega
    have e2:(Y:Int)=r:=qo
    subst a2
    have hdl:(decDigits X).length<=3:=Za7 3 X qo qo
    have HR:=qh (numF (m:Int)=W++[46]++(List.replicate (3-(decDigits X).length) 48++decDigits X)) (by rw [HE.out,HFT.out,a3,<- hd];simp)
    have HP:=qh (∀ wx,Bw w wx->CR 42 #[.int .i64 X] wx (str (decDigits X))) (λwx hb=>Zdo X qo wx (HT.out.step hb))
    have HRP:=qh (∀ wx,CR 216 #[.string ⟨#[48]⟩,.int .i64 ((3-(decDigits X).length:Nat):Int)] wx (str (List.replicate (3-(decDigits X).length) 48))) (λwx=>by
     have:=Tryz.strings_Repeat ⟨#[48]⟩ (3-(decDigits X).length) wx qo (by show 1*_<=_;omega)
     rw [show (⟨#[48]⟩:ByteArray).data.toList=[48] from rfl,Zhk] at this
     exact this)
    generalize decDigits X=D at *
    have hsub:(3:Int)-(D.length:Int)=((3-D.length:Nat):Int):=qo
    have hsw:IntKind.i64.wrap ((3:Int)-(D.length:Int))=((3-D.length:Nat):Int):=by rw [hsub];exact IntWalk.i64_in _ qo
    have hrl:(List.replicate (3-D.length) (48:UInt8)).length<=3:=by rw [List.length_replicate];omega
    generalize List.replicate (3-D.length) (48:UInt8)=Z at *
    generalize (3-D.length:Nat)=zc at *
    have l1:¬ 9223372036854775807<W.length+1:=qo
    have l2:¬ 9223372036854775807<W.length+1+Z.length:=qo
    have l3:¬ 9223372036854775807<W.length+1+Z.length+D.length:=qo
    clear a3 HF HG HE HOK HLE HFT HFN hsub
    go_wp2_with (first|(go_at_call 215;refine (POW.out _).mono ?_;rintro e w' ⟨rfl,rfl⟩)|(go_at_call 42;refine (HP.out _ HB1.out).mono ?_;rintro e w2 ⟨rfl,hb2⟩;have HB2:=qh (Bw w w2) (Below.step hb2 HB1.out HB1.out.size);clear hb2)|(go_at_call 216;refine (HRP.out _).mono ?_;rintro e w3 ⟨rfl,hb3⟩;have HB3:=qh (Bw w w3) (Below.step hb3 HB2.out HB2.out.size);clear hb3)|fail)
    go_ret
    exact ⟨by rw [HR.out];show Ending.returned (Value.string (({ data:=W.toArray }:ByteArray)++{ data:=[46].toArray }++{ data:=Z.toArray }++{ data:=D.toArray }))=_;rw [Zad,Zad,Zad];simp,HB3.out⟩
   ·exact absurd qo hd
theorem nodeT1 (name:List UInt8) (num:Int) (l:List Int) (ts:List (List UInt8)):Zcl (1,name,num,l) ts=numF num:=by simp [Zcl]
theorem nodeT2 (name:List UInt8) (num:Int) (l:List Int) (ts:List (List UInt8)):Zcl (2,name,num,l) ts=name:=by simp [Zcl]
theorem nodeT3 (name:List UInt8) (num:Int) (l:List Int) (x:List UInt8):Zcl (3,name,num,l) [x]=[40,45]++x++[41]:=by simp [Zcl]
theorem nodeT8 (name:List UInt8) (num:Int) (l:List Int) (ts:List (List UInt8)):Zcl (8,name,num,l) ts=name++[40]++join ts [44,32]++[41]:=by simp [Zcl]
theorem nodeT4 (name:List UInt8) (num:Int) (l:List Int) (x y:List UInt8):Zcl (4,name,num,l) [x,y]=[40]++x++[32]++[43]++[32]++y++[41]:=by simp [Zcl,opB]
theorem nodeT5 (name:List UInt8) (num:Int) (l:List Int) (x y:List UInt8):Zcl (5,name,num,l) [x,y]=[40]++x++[32]++[45]++[32]++y++[41]:=by simp [Zcl,opB]
theorem nodeT6 (name:List UInt8) (num:Int) (l:List Int) (x y:List UInt8):Zcl (6,name,num,l) [x,y]=[40]++x++[32]++[42]++[32]++y++[41]:=by simp [Zcl,opB]
theorem nodeT7 (name:List UInt8) (num:Int) (l:List Int) (x y:List UInt8):Zcl (7,name,num,l) [x,y]=[40]++x++[32]++[47]++[32]++y++[41]:=by simp [Zcl,opB]
theorem node_num {p:Zag} (h:Zas p=true) {k:Nat} (hk:k<p.1.length) (h1:p.1[k].1=1):∃ m:Nat,p.1[k].2.2.1=m/\m<=2559999:=by
 have hh:=Zct (Zbj h) hk
 unfold Zb1 Zbr at hh
 simp only [Bool.and_eq_true] at hh
 have h2:=hh.1.1.2
 rw [if_pos h1] at h2
 have:=Za6 h2
 exact ⟨p.1[k].2.2.1.toNat,qo,qo⟩
theorem one_of {α:Type} {l:List α} (h:l.length=1):∃ x,l=[x]:=by
 match l,h with
 | [x],_=>exact ⟨x,rfl⟩
theorem Zsj {α:Type} {l:List α} (h:l.length=2):∃ x y,l=[x,y]:=by
 match l,h with
 | [x,y],_=>exact ⟨x,y,rfl⟩
theorem op8_cases {op:Int} {n:Nat} (h:Zay op n=true):(op=1/\n=0)∨(op=2/\n=0)∨(op=3/\n=1)∨(op=8/\n<=3)∨(op=4/\n=2)∨(op=5/\n=2)∨(op=6/\n=2)∨(op=7/\n=2):=by
 unfold Zay at h
 split at h
 ·have:=of_decide_eq_true h;omega
 ·split at h
  ·have:=of_decide_eq_true h;omega
  ·split at h
   ·have:=of_decide_eq_true h;omega
   ·split at h
    ·have:=of_decide_eq_true h;omega
    ·cases h
theorem I_Join0 {A:OA} {c:Nat} {sep:List UInt8} (w:World) :
  CR 45 #[.slice A 0 c,str sep] w ((str (join [] sep))):=by
 have HJ:=qh (∀ wx,CL 160 #[.slice A 0 c,str sep] wx λe w'=>e=.returned (str [])/\wx=w') (λwx=>(Tryz.strings_Join_none A c _ wx).mono (λe w' h=>by first|exact ⟨h.1,h.2⟩|exact ⟨h.1,h.2.symm⟩))
 go_enter Tryz.func45,Tryz.ntmps45
 go_wp2_with (first|(go_at_call 98;go_in)|(go_at_call 160;refine (HJ.out _).mono ?_;rintro e w' ⟨rfl,rfl⟩)|fail)
 go_ret
 exact ⟨by rw [join_nil];rfl,bll⟩
theorem Zlf (w:World):CL 159 #[.int .i64 4] w λe w'=>e=.returned (str [43])/\w=w':=by
 go_enter Tryz.func159,Tryz.ntmps159
 go_wp2_with fail
 go_ret
 exact ⟨rfl,rfl⟩
theorem Zle (w:World):CL 159 #[.int .i64 5] w λe w'=>e=.returned (str [45])/\w=w':=by
 go_enter Tryz.func159,Tryz.ntmps159
 go_wp2_with fail
 go_ret
 exact ⟨rfl,rfl⟩
theorem Zld (w:World):CL 159 #[.int .i64 6] w λe w'=>e=.returned (str [42])/\w=w':=by
 go_enter Tryz.func159,Tryz.ntmps159
 go_wp2_with fail
 go_ret
 exact ⟨rfl,rfl⟩
theorem Zlc (w:World):CL 159 #[.int .i64 7] w λe w'=>e=.returned (str [47])/\w=w':=by
 go_enter Tryz.func159,Tryz.ntmps159
 go_wp2_with fail
 go_ret
 exact ⟨rfl,rfl⟩
theorem I_text {A A2:OA} {c c2:Nat} {p:Zag} (w0:World) (h:Zcd w0 A c A2 c2 p) (hv:Zas p=true) (hta:Tab w0) :
  ∀ f x,x<f->x<p.1.length->∀ w:World,Bw w0 w ->
   CR 96 #[Zbz A p.1.length c A2 p.2.length c2,.int .i64 x] w ((str (textP p x))):=by
 have H0:=hdQ h
 have HV:=hdQ hv
 have HTA:=hdQ hta
 have hl1:=Zdi hv
 clear h hv hta
 intro f
 induction f with
 | zero=>intro x hx;omega
 | succ f ih =>
  intro x hxf hxn w hB
  have IH:=qh (∀ m:Nat,m<x->∀ wx,Bw w wx->CL 96 #[Zbz A p.1.length c A2 p.2.length c2,.int .i64 m] wx λe w'=>e=.returned (str (textP p m))/\Bw wx w') (λm hm wx hb=>ih m qo qo wx (Below.step hb hB hB.size))
  clear ih
  have HB:=hdQ hB
  obtain ⟨b,off,AR,cr,rfl,hbh,hs,hr,x0,x1,x2,x3⟩:=H0.out.1.2.2 x hxn
  have hbw:b<w.heap.size:=Nat.lt_of_lt_of_le hbh hB.size
  have d0:=(hB.cell (p:=⟨b,off+x*4,none⟩) hbh).trans x0
  have d1:=(hB.cell (p:=⟨b,off+x*4+1,none⟩) hbh).trans x1
  have d2:=(hB.cell (p:=⟨b,off+x*4+2,none⟩) hbh).trans x2
  have d3:=(hB.cell (p:=⟨b,off+x*4+3,none⟩) hbh).trans x3
  have HR:=hdQ (RS.step hB hr)
  have HTX:=hdQ (Zni (Zbj HV.out) hxn)
  have HTL:=hdQ (Zow HV.out hxn)
  have HAR:=qh (∀ t (ht:t<p.1[x].2.2.2.length),∃ m:Nat,p.1[x].2.2.2[t]=m/\m<x) (λt ht=>by
   have:=Zgj (Zbj HV.out) hxn _ (List.getElem_mem ht)
   exact ⟨p.1[x].2.2.2[t].toNat,qo,qo⟩)
  have hsh:=Zmt HV.out hxn
  have HNM:=hdQ (λh1=>node_num HV.out hxn h1)
  have HNL:=hdQ (Zpo HV.out hxn)
  obtain ⟨⟨op,name,num,args⟩,hx⟩:∃ y,p.1[x]=y:=⟨_,rfl⟩
  rw [hx] at d0 d1 d2 d3 hsh HR HTX HAR HNM HNL
  (try dsimp only at d0 d1 d2 d3 hsh HR HTX HAR HNM HNL)
  rw [HTX.out] at HTL ⊢
  obtain ⟨ts,hts⟩:=qv (args.map (λa=>textP p a.toNat))
  have HTN:=qh (ts.length=args.length) (by rw [<- hts,List.length_map])
  have HTT:=qh (∀ t (h1:t<args.length) (h2:t<ts.length) (m:Nat),args[t]=m->textP p m=ts[t]) (λt h1 h2 m hm=>by subst hts;rw [List.getElem_map,hm];rfl)
  rw [hts] at HTL ⊢
  obtain ⟨TT,hTT⟩:=qv (Zcl (op,name,num,args) ts)
  rw [hTT] at HTL ⊢
  have HTE:=hdQ hTT
  clear hTT
  obtain ⟨n,hn⟩:=qv (args.length)
  rw [hn] at d3 hsh HTN
  have HN:=hdQ hn
  have hn3:n<=3:=Zmo hsh
  have HSH:=hdQ hsh
  have i1:(x:Int)<p.1.length:=qo
  have i2:(0:Int)<=x:=qo
  have HRN:=qh (RS w 1 AR n cr (ints args)) (by rw [<- hn];exact HR.out)
  have HG0:Hid (Zaj (((w.alloc (.cells #[.slice (some ⟨b,off,none⟩) p.1.length c,.slice A2 p.2.length c2] 62)).alloc (.cells #[.int .i64 op,str name,.int .i64 num,.slice AR n cr] 155)).alloc (.cells #[] 9)) (w.heap.size+1+1) 9 1 (some ⟨w.heap.size+1+1,0,none⟩) 0 0 (Zck (ts.take 0))):=hdQ (by rw [List.take_zero];exact Zaj.lit_at (cs := #[]) qs rfl qs (Nat.zero_le _))
  have HP0:Hid (Own (((w.alloc (.cells #[.slice (some ⟨b,off,none⟩) p.1.length c,.slice A2 p.2.length c2] 62)).alloc (.cells #[.int .i64 op,str name,.int .i64 num,.slice AR n cr] 155)).alloc (.cells #[] 9)) w.heap.size 62 [.slice (some ⟨b,off,none⟩) p.1.length c,.slice A2 p.2.length c2]):=hdQ (Own.alloc (Own.alloc (Own.new w _ #[_,_]) _) _)
  have HQ0:Hid (Own (((w.alloc (.cells #[.slice (some ⟨b,off,none⟩) p.1.length c,.slice A2 p.2.length c2] 62)).alloc (.cells #[.int .i64 op,str name,.int .i64 num,.slice AR n cr] 155)).alloc (.cells #[] 9)) (w.heap.size+1) 155 [.int .i64 op,str name,.int .i64 num,.slice AR n cr]):=hdQ (Own.alloc (Own.at_new (cs := #[_,_,_,_]) qs) _)
  clear x0 x1 x2 x3 hs hr hx hB hsh HTX HR hts hn
  go_enter Tryz.func96,Tryz.ntmps96
  go_wp2_with fail
  go_loopw [6,8,18] (λo _ i wr=>∃ (t:Nat) (B:OA) (d:Nat),t<=n/\i=.int .i64 t/\o=.slice B t d/\Zaj wr (w.heap.size+1+1) 9 1 B t d (Zck (ts.take t))/\Own wr w.heap.size 62 [.slice (some ⟨b,off,none⟩) p.1.length c,.slice A2 p.2.length c2]/\Own wr (w.heap.size+1) 155 [.int .i64 op,str name,.int .i64 num,.slice AR n cr]/\Bw w wr) (λ_ _ i _=>n-(RowKit.intOf i).toNat)
  case atStart=>exact ⟨0,_,_,Nat.zero_le _,rfl,rfl,HG0.out,HP0.out,HQ0.out,bll⟩
  case round =>
   obtain ⟨t,B,d,ht,rfl,rfl,hg,hp,hq,hb⟩:=hrel
   obtain ⟨wo,rfl⟩:=qe wr
   have hz:=hb.size
   have hl:=hp.lt
   have hlq:=hq.lt
   have hgg:=hg.lt
   have HG:=hdQ hg
   have HP:=hdQ hp
   have HQ:=hdQ hq
   have HBW:=hdQ hb
   have p0:wo.cell? ⟨w.heap.size,0,none⟩=some (.slice (some ⟨b,off,none⟩) p.1.length c):=hp.cell 0
   have p1:wo.cell? ⟨w.heap.size,1,none⟩=some (.slice A2 p.2.length c2):=hp.cell 1
   have q0:wo.cell? ⟨w.heap.size+1,0,none⟩=some (.int .i64 op):=hq.cell 0
   have q1:wo.cell? ⟨w.heap.size+1,1,none⟩=some (str name):=hq.cell 1
   have q2:wo.cell? ⟨w.heap.size+1,2,none⟩=some (.int .i64 num):=hq.cell 2
   have q3:wo.cell? ⟨w.heap.size+1,3,none⟩=some (.slice AR n cr):=hq.cell 3
   clear hg hp hq hb HG0 HP0 HQ0 d0 d1 d2 d3
   by_cases hlt:t<n
   ·obtain ⟨b2,o2,rfl,hbh2,hcell2⟩:=(RS.step HBW.out HRN.out).open_.2.2 qo
    have hta:t<args.length:=by have:=HN.out;omega
    have htt:t<ts.length:=by have:=HTN.out;omega
    have e4:wo.cell? ⟨b2,o2+t,none⟩=some (.int .i64 args[t]):=by rw [hcell2 t qo,Zd3 hta]
    obtain ⟨m,hm,hmi⟩:=HAR.out t hta
    rw [hm] at e4
    have HS:=qh (Zck (ts.take (t+1))=Zck (ts.take t)++Zck [ts[t]]) (by rw [List.take_succ_eq_append_getElem htt,Zfi])
    have HC:=qh (∀ wx,Bw w wx->CR 96 #[Zbz (some ⟨b,off,none⟩) p.1.length c A2 p.2.length c2,.int .i64 m] wx (str ts[t])) (λwx hb=>by rw [<- HTT.out t hta htt m hm];exact IH.out m hmi wx hb)
    have j1:(t:Int)<n:=qo
    generalize ts[t]=y at *
    clear hcell2 hm
    go_wp2_with fail
    refine (HC.out _ bll).mono ?_
    rintro e wA ⟨rfl,hbA⟩
    have bA:Bw w wA:=bst hbA
    have zA:=hbA.size
    (try simp at zA)
    have HGA:=qh (Zaj wA (w.heap.size+1+1) 9 1 B t d (Zck (ts.take t))) (Zaj.step hbA (gwx HG.out))
    have HPA:=qh (Own wA w.heap.size 62 [.slice (some ⟨b,off,none⟩) p.1.length c,.slice A2 p.2.length c2]) (Own.step hbA (owx HP.out))
    have HQA:=qh (Own wA (w.heap.size+1) 155 [.int .i64 op,str name,.int .i64 num,.slice (some ⟨b2,o2,none⟩) n cr]) (Own.step hbA (owx HQ.out))
    have hgA2:=HGA.out.ge
    clear hbA
    go_wp2_with (at_builtin;refine wpA (w.heap.size+1+1) Tryz.underlying50 T.infoString (Zck (ts.take t)) (Zck [y]) (Zh6 _) ?_ ?_ ?_;exact (gwx HGA.out);exact (ltt 1);rintro A' c' w2 gA;have g1:=gA.1;have g2:=gA.2.1;rw [<- HS.out] at g1;have HG1:=hdQ g1;have HB2:=qh (Bw w w2) (Below.trans (Below.alloc bA qo _) (g2.mono qo));have HP2:=qh (Own w2 w.heap.size 62 [.slice (some ⟨b,off,none⟩) p.1.length c,.slice A2 p.2.length c2]) (Own.below (Own.alloc HPA.out _) g2 qo);have HQ2:=qh (Own w2 (w.heap.size+1) 155 [.int .i64 op,str name,.int .i64 num,.slice (some ⟨b2,o2,none⟩) n cr]) (Own.below (Own.alloc HQA.out _) g2 qo);clear gA g1 g2)
    go_roundw
    case rel=>exact ⟨t+1,_,_,qo,qg,rfl,HG1.out,HP2.out,HQ2.out,HB2.out⟩
    case measure=>exact qn
   ·obtain rfl:t=n:=by omega
    have HGE:=qh (Zaj wo (w.heap.size+1+1) 9 1 B t d (Zck ts)) (by have:=HG.out;rw [List.take_of_length_le (by rw [HTN.out];exact Nat.le_refl _)] at this;exact this)
    have HRS:=qh (RS wo 1 B t d (Zck ts)) HGE.out.rs
    clear HG
    rcases op8_cases HSH.out with ⟨rfl,rfl⟩|⟨rfl,rfl⟩|⟨rfl,rfl⟩|⟨rfl,h3⟩|⟨rfl,rfl⟩|⟨rfl,rfl⟩|⟨rfl,rfl⟩|⟨rfl,rfl⟩
    ·obtain ⟨m,rfl,hm⟩:=HNM.out rfl
     have HC:=qh (∀ wx,Bw w0 wx->CR 158 #[.int .i64 m] wx (str (numF (m:Int)))) (λwx hb=>Zl6 wx hm (HTA.out.step hb))
     have HB0:=qh (Bw w0 wo) (Below.step HBW.out HB.out HB.out.size)
     have HTF:=qh (TT=numF (m:Int)) (by rw [<- HTE.out,nodeT1])
     go_wp2_with (first|(go_at_call 158;(with_reducible refine (HC.out _ HB0.out).mono ?_);rintro e wA ⟨rfl,hbA⟩)|fail)
     go_ret
     exact ⟨by rw [HTF.out];rfl,Below.step hbA HBW.out HBW.out.size⟩
    ·have HTF:=qh (TT=name) (by rw [<- HTE.out,nodeT2])
     go_wp2_with fail
     go_ret
     exact ⟨by rw [HTF.out];rfl,HBW.out⟩
    ·obtain ⟨X,rfl⟩:=one_of HTN.out
     obtain ⟨g,o3,rfl,hgl,hcell⟩:=HRS.out.open_.2.2 qo
     have e0:wo.cell? ⟨g,o3,none⟩=some (str X):=by have:=hcell 0 qo;simpa using this
     rw [<- HTE.out,nodeT3] at HTL
     have hlx:X.length<=840:=by have:=HTL.out;simp only [List.length_append,List.length_cons,List.length_nil] at this;omega
     have s1:¬ 9223372036854775807<2+X.length:=qo
     have s2:¬ 9223372036854775807<2+X.length+1:=qo
     clear hcell
     go_wp2_with fail
     go_ret
     refine ⟨?_,HBW.out⟩
     rw [<- HTE.out,nodeT3]
     show Ending.returned (Value.string ((({ data:=[40,45].toArray }:ByteArray)++{ data:=X.toArray })++{ data:=[41].toArray }))=_
     rw [Zad,Zad]
    ·rw [<- HTE.out,nodeT8] at HTL
     have HJ0:=qh ((join ts [44,32]).length<=840) (by have:=HTL.out;simp only [List.length_append,List.length_cons,List.length_nil] at this;omega)
     have HJ:=qh (∀ wx,Bw wo wx->CR 45 #[.slice B t d,.string ⟨#[44,32]⟩] wx (str (join ts [44,32]))) (λwx hb=>by
      have hr:=RS.step hb HRS.out
      have ht:=HTN.out
      have hj:=HJ0.out
      rcases Nat.eq_zero_or_pos t with h0|h0
      ·subst h0
       obtain rfl:=List.length_eq_zero_iff.1 ht
       exact I_Join0 (sep:=[44,32]) wx
      ·subst ht;exact Zln (sep:=[44,32]) wx hr h0 qo qo)
     have hnl:name.length<=8:=HNL.out
     have hjl:(join ts [44,32]).length<=840:=HJ0.out
     obtain ⟨Y,hY⟩:=qv (join ts [44,32])
     rw [hY] at HJ hjl
     have HYE:=hdQ hY
     clear hY
     have s1:¬ 9223372036854775807<name.length+1:=qo
     have s2:¬ 9223372036854775807<name.length+1+Y.length:=qo
     have s3:¬ 9223372036854775807<name.length+1+Y.length+1:=qo
     clear hnl hjl
     go_wp2_with fail
     go_region_held3 (λw'=>w'.cell? ⟨w.heap.size+1,1,none⟩=some (str name))
      (first|go_keep|((try dsimp only);go_simp;done))
      (first|(go_at_call 45;(with_reducible refine (HJ.out _ bll).mono ?_);rintro e wA ⟨rfl,hbA⟩;have hzA:=hbA.size;(try simp at hzA);(refine Zan hbA (w.heap.size+1) ?_ ?_;(first|omega|(simp<;>omega));intro n0 nf0 nz0))|fail)
     all_goals
      go_wp2_with fail
      go_ret
      refine ⟨?_,bll⟩
      rw [<- HTE.out,nodeT8,HYE.out]
      show Ending.returned (Value.string (((({ data:=name.toArray }:ByteArray)++{ data:=[40].toArray })++{ data:=Y.toArray })++{ data:=[41].toArray }))=_
      rw [Zad,Zad,Zad]
    ·obtain ⟨X,Y,rfl⟩:=Zsj HTN.out
     obtain ⟨g,o3,rfl,hgl,hcell⟩:=HRS.out.open_.2.2 qo
     have e0:wo.cell? ⟨g,o3,none⟩=some (str X):=by have:=hcell 0 qo;simpa using this
     have e1:wo.cell? ⟨g,o3+1,none⟩=some (str Y):=by have:=hcell 1 qo;simpa using this
     rw [<- HTE.out,nodeT4] at HTL
     have hlx:X.length+Y.length<=840:=by have:=HTL.out;simp only [List.length_append,List.length_cons,List.length_nil] at this;omega
     have s1:¬ 9223372036854775807<1+X.length:=qo
     have s2:¬ 9223372036854775807<1+X.length+1:=qo
     have s3:¬ 9223372036854775807<1+X.length+1+1:=qo
     have s4:¬ 9223372036854775807<1+X.length+1+1+1:=qo
     have s5:¬ 9223372036854775807<1+X.length+1+1+1+Y.length:=qo
     have s6:¬ 9223372036854775807<1+X.length+1+1+1+Y.length+1:=qo
     have ng1:¬ g=wo.heap.size:=qo
     clear hcell hlx
     go_wp2_with fail
     go_quiet ((first|(go_at_call 159;first|exact Zat (Zlf _)|exact Zfu (Zlf _))|fail))
     go_wp2_with fail
     go_ret
     refine ⟨?_,bll⟩
     rw [<- HTE.out,nodeT4]
     show Ending.returned (Value.string ((((((({ data:=[40].toArray }:ByteArray)++{ data:=X.toArray })++{ data:=[32].toArray })++{ data:=[43].toArray })++{ data:=[32].toArray })++{ data:=Y.toArray })++{ data:=[41].toArray }))=_
     rw [Zad,Zad,Zad,Zad,Zad,Zad]
    ·obtain ⟨X,Y,rfl⟩:=Zsj HTN.out
     obtain ⟨g,o3,rfl,hgl,hcell⟩:=HRS.out.open_.2.2 qo
     have e0:wo.cell? ⟨g,o3,none⟩=some (str X):=by have:=hcell 0 qo;simpa using this
     have e1:wo.cell? ⟨g,o3+1,none⟩=some (str Y):=by have:=hcell 1 qo;simpa using this
     rw [<- HTE.out,nodeT5] at HTL
     have hlx:X.length+Y.length<=840:=by have:=HTL.out;simp only [List.length_append,List.length_cons,List.length_nil] at this;omega
     have s1:¬ 9223372036854775807<1+X.length:=qo
     have s2:¬ 9223372036854775807<1+X.length+1:=qo
     have s3:¬ 9223372036854775807<1+X.length+1+1:=qo
     have s4:¬ 9223372036854775807<1+X.length+1+1+1:=qo
     have s5:¬ 9223372036854775807<1+X.length+1+1+1+Y.length:=qo
     have s6:¬ 9223372036854775807<1+X.length+1+1+1+Y.length+1:=qo
     have ng1:¬ g=wo.heap.size:=qo
     clear hcell hlx
     go_wp2_with fail
     go_quiet ((first|(go_at_call 159;first|exact Zat (Zle _)|exact Zfu (Zle _))|fail))
     go_wp2_with fail
     go_ret
     refine ⟨?_,bll⟩
     rw [<- HTE.out,nodeT5]
     show Ending.returned (Value.string ((((((({ data:=[40].toArray }:ByteArray)++{ data:=X.toArray })++{ data:=[32].toArray })++{ data:=[45].toArray })++{ data:=[32].toArray })++{ data:=Y.toArray })++{ data:=[41].toArray }))=_
     rw [Zad,Zad,Zad,Zad,Zad,Zad]
    ·obtain ⟨X,Y,rfl⟩:=Zsj HTN.out
     obtain ⟨g,o3,rfl,hgl,hcell⟩:=HRS.out.open_.2.2 qo
     have e0:wo.cell? ⟨g,o3,none⟩=some (str X):=by have:=hcell 0 qo;simpa using this
     have e1:wo.cell? ⟨g,o3+1,none⟩=some (str Y):=by have:=hcell 1 qo;simpa using this
     rw [<- HTE.out,nodeT6] at HTL
     have hlx:X.length+Y.length<=840:=by have:=HTL.out;simp only [List.length_append,List.length_cons,List.length_nil] at this;omega
     have s1:¬ 9223372036854775807<1+X.length:=qo
     have s2:¬ 9223372036854775807<1+X.length+1:=qo
     have s3:¬ 9223372036854775807<1+X.length+1+1:=qo
     have s4:¬ 9223372036854775807<1+X.length+1+1+1:=qo
     have s5:¬ 9223372036854775807<1+X.length+1+1+1+Y.length:=qo
     have s6:¬ 9223372036854775807<1+X.length+1+1+1+Y.length+1:=qo
     have ng1:¬ g=wo.heap.size:=qo
     clear hcell hlx
     go_wp2_with fail
     go_quiet ((first|(go_at_call 159;first|exact Zat (Zld _)|exact Zfu (Zld _))|fail))
     go_wp2_with fail
     go_ret
     refine ⟨?_,bll⟩
     rw [<- HTE.out,nodeT6]
     show Ending.returned (Value.string ((((((({ data:=[40].toArray }:ByteArray)++{ data:=X.toArray })++{ data:=[32].toArray })++{ data:=[42].toArray })++{ data:=[32].toArray })++{ data:=Y.toArray })++{ data:=[41].toArray }))=_
     rw [Zad,Zad,Zad,Zad,Zad,Zad]
    ·obtain ⟨X,Y,rfl⟩:=Zsj HTN.out
     obtain ⟨g,o3,rfl,hgl,hcell⟩:=HRS.out.open_.2.2 qo
     have e0:wo.cell? ⟨g,o3,none⟩=some (str X):=by have:=hcell 0 qo;simpa using this
     have e1:wo.cell? ⟨g,o3+1,none⟩=some (str Y):=by have:=hcell 1 qo;simpa using this
     rw [<- HTE.out,nodeT7] at HTL
     have hlx:X.length+Y.length<=840:=by have:=HTL.out;simp only [List.length_append,List.length_cons,List.length_nil] at this;omega
     have s1:¬ 9223372036854775807<1+X.length:=qo
     have s2:¬ 9223372036854775807<1+X.length+1:=qo
     have s3:¬ 9223372036854775807<1+X.length+1+1:=qo
     have s4:¬ 9223372036854775807<1+X.length+1+1+1:=qo
     have s5:¬ 9223372036854775807<1+X.length+1+1+1+Y.length:=qo
     have s6:¬ 9223372036854775807<1+X.length+1+1+1+Y.length+1:=qo
     have ng1:¬ g=wo.heap.size:=qo
     clear hcell hlx
     go_wp2_with fail
     go_quiet ((first|(go_at_call 159;first|exact Zat (Zlc _)|exact Zfu (Zlc _))|fail))
     go_wp2_with fail
     go_ret
     refine ⟨?_,bll⟩
     rw [<- HTE.out,nodeT7]
     show Ending.returned (Value.string ((((((({ data:=[40].toArray }:ByteArray)++{ data:=X.toArray })++{ data:=[32].toArray })++{ data:=[47].toArray })++{ data:=[32].toArray })++{ data:=Y.toArray })++{ data:=[41].toArray }))=_
     rw [Zad,Zad,Zad,Zad,Zad,Zad]
theorem T.infoByte:(Tryz.prog.info? 5).map (λi=>(i.zero,i.size,i.bytes))=some (some (.int .u8 0),1,1):=kr
theorem T.sizeBld:∃ j,Tryz.prog.info? 130=some j/\j.size=2:=by
 have h:(Tryz.prog.info? 130).map (·.size)=some 2:=kr
 obtain ⟨j,hj,hs⟩:=Option.map_eq_some_iff.1 h
 exact ⟨j,hj,hs⟩
structure Bld (w:World) (B b:Nat) (p:Value) (A:OA) (c:Nat) (bs:List Value):Prop where
 own:Own w b 130 [p,.slice A bs.length c]
 grow:Zaj w B 5 1 A bs.length c bs
 ne:b∉gOf A
 le:B<=b
theorem Bld.keep {w w':World} {B b:Nat} {p:Value} {A:OA} {c:Nat} {bs:List Value} (h:Bld w B b p A c bs) (hb:∀ x,x<w.heap.size->w'.heap[x]? = w.heap[x]?):Bld w' B b p A c bs :=
 ⟨(hb b h.own.lt).trans h.own,h.grow.keep (λx hx=>hb x (h.grow.lt x hx)),h.ne,h.le⟩
theorem Bld.step {w w':World} {B b:Nat} {p:Value} {A:OA} {c:Nat} {bs:List Value} (hb:Bw w w') (h:Bld w B b p A c bs):Bld w' B b p A c bs:=h.keep (λx hx=>hb.block x hx)
theorem Bld.used {w:World} {B b:Nat} {p:Value} {A:OA} {c:Nat} {bs:List Value} (h:Bld w B b p A c bs) (q:Value):Bld (w.setCell ⟨b,0,none⟩ q) B b q A c bs :=
 ⟨h.own.set_ 0 q,h.grow.keep (λx hx=>Below.heap_setCell _ _ _ _ (λe=>h.ne (by simp at e;exact e ▸ hx))),h.ne,h.le⟩
theorem Bld.is {w:World} {B b:Nat} {p:Value} {A:OA} {c:Nat} {bs:List Value} (h:Bld w B b p A c bs) (hp:p=.pointer none∨p=.pointer (some ⟨b,0,none⟩)):Lib.IsBuilder 130 5 B b bs w:=by
 have key:Lib.BuilderAt 130 5 B b p bs w:=⟨h.le,.slice A bs.length c,h.own,h.grow,λe=>h.ne (by cases A with|none=>cases e|some a=>simp [Value.ownBlock] at e;simp [gOf,e])⟩
 rcases hp with rfl|rfl
 ·exact .inl key
 ·exact .inr key
theorem Bld.new (w:World):Bld (w.alloc (.cells #[.pointer none,.slice none 0 0] 130)) w.heap.size w.heap.size (.pointer none) none 0 [] :=
 ⟨Own.new w _ #[_,_],Zaj.nil _ _ _ _,by simp [gOf],Nat.le_refl _⟩
theorem Zjr (b:Nat) (w:World) (h0:w.cell? ⟨b,0,none⟩=some (.pointer (some ⟨b,0,none⟩))) :
  CL 157 #[.pointer (some ⟨b,0,none⟩)] w λe w'=>e=.returned (.tuple #[])/\w'=w:=by
 obtain ⟨j,hj,_⟩:=T.sizeBld
 go_enter Tryz.func157,Tryz.ntmps157
 go_wp2
 (try rw [Lib.run_neq_ptr_same w _ Tryz.underlying128 hj])
 (try go_wp2)
 go_end0
 exact ⟨rfl,rfl⟩
theorem Zi7 (b:Nat) (w:World) (h0:w.cell? ⟨b,0,none⟩=some (.pointer none)) (hsh:w.shape? b=some (130,2)) (hfz:w.frozen? ⟨b,0,none⟩=false) :
  CL 157 #[.pointer (some ⟨b,0,none⟩)] w λe w'=>e=.returned (.tuple #[])/\w'=w.setCell ⟨b,0,none⟩ (.pointer (some ⟨b,0,none⟩)):=by
 obtain ⟨j,hj,hjs⟩:=T.sizeBld
 go_enter Tryz.func157,Tryz.ntmps157
 go_wp2
 rw [Lib.run_to_unsafe w ⟨b,0,none⟩ Tryz.underlying128 Tryz.underlying229 hj (by rw [hjs];decide) hsh (Nat.zero_lt_succ 1)]
 simp only [Result.andThen]
 rw [Oper.upon_value]
 go_wp2
 rw [run_callFunc_extern Tryz.func214 kr kr kr (e:=Extern.AbiNoEscape.same) kr]
 rw [Lib.run_noEscape]
 simp only [Result.andThen]
 rw [Oper.upon_value]
 go_wp2
 rw [Lib.run_from_unsafe w ⟨b,0,none⟩ Tryz.underlying229 Tryz.underlying128 hj hsh kr]
 simp only [Result.andThen]
 rw [Oper.upon_value]
 go_wp2
 go_end0
 exact ⟨rfl,rfl⟩
theorem Zr9 {w:World} {B b:Nat} {p:Value} {A:OA} {c:Nat} {bs:List Value} (h:Bld w B b p A c bs) (hp:p=.pointer none∨p=.pointer (some ⟨b,0,none⟩)) :
  CL 157 #[.pointer (some ⟨b,0,none⟩)] w λe w'=>e=.returned (.tuple #[])/\Bld w' B b (.pointer (some ⟨b,0,none⟩)) A c bs/\Only w.heap.size [b] w w':=by
 rcases hp with rfl|rfl
 ·refine (Zi7 b w (h.own.cell 0) ?_ (h.own.frozen 0)).mono ?_
  ·have:=h.own
   unfold Own at this
   simp [World.shape?,this]
  ·rintro e w' ⟨rfl,rfl⟩
   exact ⟨rfl,h.used _,Only.setCell (Only.refl _ _ _) qs _⟩
 ·refine (Zjr b w (h.own.cell 0)).mono ?_
  rintro e w' ⟨rfl,rfl⟩
  exact ⟨rfl,h,Only.refl _ _ _⟩
theorem Zoh {w:World} {B b:Nat} {p:Value} {A:OA} {c:Nat} {bs:List Value} (l:List UInt8) (h:Bld w B b p A c bs) (hp:p=.pointer none∨p=.pointer (some ⟨b,0,none⟩)) (hlen:bs.length+l.length<=140737488355328) (hBw:B<=w.heap.size) :
  CL 95 #[.pointer (some ⟨b,0,none⟩),str l] w λe w'=>∃ A2 c2,e=.returned (.tuple #[.int .i64 l.length,.nilIface])/\Bld w' B b (.pointer (some ⟨b,0,none⟩)) A2 c2 (bs++Lib.byteCells l)/\Only w.heap.size (b::gOf A) w w':=by
 have HC:=hdQ (Zr9 h hp)
 have HGE:=hdQ h.grow.ge
 have hbl:=h.own.lt
 have hgl:=h.grow.lt
 have hle:=h.le
 clear h
 obtain ⟨i0,hi,hz0,hz1,hz2⟩:=info_parts T.infoByte
 go_enter Tryz.func95,Tryz.ntmps95
 go_wp2_with (first|(go_at_call 157;refine HC.out.mono ?_)|fail)
 rintro e w1 ⟨rfl,h1,hO1⟩
 have hz:=hO1.size
 have HO1:=hdQ hO1
 have c0:w1.cell? ⟨b,0,none⟩=some (.pointer (some ⟨b,0,none⟩)):=h1.own.cell 0
 have c1:w1.cell? ⟨b,1,none⟩=some (.slice A bs.length c):=h1.own.cell 1
 have HB:=hdQ h1
 clear h1 hO1
 go_wp2_with (at_builtin;refine Lib.wpList_append_own_string _ rfl _ _ 36 9 rfl B 5 i0 Tryz.underlying36 Tryz.underlying9 hi hz0 hz1 hz2 _ _ _ rfl HB.out.grow ⟨l.toArray⟩ rfl ?c3 ?c4 ?c5 ?_)
 case c3=>unfold maxLen;show bs.length+l.length<=_;omega
 case c4=>show bs.length+l.length<=_;omega
 case c5=>omega
 intro v' w2 hown' hgrow _
 obtain ⟨A2,c2,hv⟩:∃ A2 c2,v'=.slice A2 (bs.length+l.length) c2:=by
  rcases hown'.2 with ⟨hv,h0⟩|⟨g,cap,cur,hv,_⟩
  ·exact ⟨none,0,by rw [hv];congr 1;exact h0.symm⟩
  ·exact ⟨_,_,hv⟩
 subst hv
 have hsl:(Value.slice A bs.length c).ownBlock=A.map (·.block):=by cases A<;>rfl
 rw [hsl] at hgrow
 have hne2:b∉gOf A:=HB.out.ne
 have hb2:w2.heap[b]? = w1.heap[b]? := hgrow.block b qo (by cases A<;>simp_all [gOf])
 have HO2:=qh (Own w2 b 130 [.pointer (some ⟨b,0,none⟩),.slice A bs.length c]) (hb2.trans HB.out.own)
 have HG2:=qh (Zaj w2 B 5 1 A2 (bs.length+l.length) c2 (bs++Lib.byteCells l)) hown'
 have d0:w2.cell? ⟨b,0,none⟩=some (.pointer (some ⟨b,0,none⟩)):=HO2.out.cell 0
 have d1:w2.cell? ⟨b,1,none⟩=some (.slice A bs.length c):=HO2.out.cell 1
 have f1:w2.frozen? ⟨b,1,none⟩=false:=HO2.out.frozen 1
 have HGR:=hdQ hgrow
 clear hgrow hb2 hown'
 go_wp2_with fail
 go_ret2
 have HG3:=HG2.out
 have hne3:b∉gOf A2:=by
  rcases HG3.shape with ⟨rfl,_⟩|⟨g,cur,rfl,_,hg,_⟩
  ·simp [gOf]
  ·intro hx
   simp [gOf] at hx
   subst hx
   have:=HO2.out
   unfold Own at this
   rw [hg] at this
   injection this with this
   injection this with _ this
   exact absurd this qd
 have hll:(bs++Lib.byteCells l).length=bs.length+l.length:=by rw [List.length_append,Lib.byteCells_length]
 refine ⟨A2,c2,rfl,⟨?_, ?_,hne3,hle⟩, ?_⟩
 ·rw [hll];exact HO2.out.set_ 1 _
 ·rw [hll];exact HG3.keep (λx hx=>Below.heap_setCell _ _ _ _ (λe=>hne3 (by simp at e;exact e ▸ hx)))
 ·refine Only.setCell ?_ qs _
  have hgb:=HGR.out
  refine ⟨hgb.os.trans HO1.out.os,hgb.tape.trans HO1.out.tape,hgb.output.trans HO1.out.output,Nat.le_trans hz hgb.size,λk hk hn=>?_⟩
  have h1:k∉gOf A:=λh=>hn (by simp [h])
  have h2:k≠b:=λh=>hn (by simp [h])
  exact (hgb.block k qo (by cases A<;>simp_all [gOf])).trans (HO1.out.block k hk (by simpa using h2))
def Zwr (p:Zag):List UInt8:=if Zas p then Zf9 p else []
theorem root_nat {p:Zag} (h:Zas p=true) {k:Nat} (hk:k<p.2.length):∃ m:Nat,p.2[k].2=m/\m<p.1.length:=by
 obtain ⟨h1,h2,h3⟩:=Zgt h hk
 exact ⟨p.2[k].2.toNat,qo,qo⟩
theorem Zn7 (a b:List UInt8):Lib.byteCells (a++b)=Lib.byteCells a++Lib.byteCells b:=by simp [Lib.byteCells]
theorem Zlp {A A2:OA} {c c2:Nat} {p:Zag} (w:World) (h:Zcd w A c A2 c2 p) (h1:p.1.length<=1048576) (h2:p.2.length<=1048576) (hta:Tab w) :
  CR 44 #[Zbz A p.1.length c A2 p.2.length c2] w ((str (Zwr p))):=by
 have H0:=hdQ h
 have HV0:=qh (∀ wx,Bw w wx->CR 94 #[Zbz A p.1.length c A2 p.2.length c2] wx (.bool (Zas p))) (λwx hb=>Zf8 wx (h.step hb) h1 h2)
 clear h
 unfold Zwr
 cases hv:Zas p with
 | false =>
  rw [hv] at HV0
  go_enter Tryz.func44,Tryz.ntmps44
  go_wp2_with (first|(go_at_call 94;refine (HV0.out _ bll).mono ?_;rintro e w1 ⟨rfl,hb1⟩;have HB1:=bh w hb1;clear hb1)|fail)
  go_ret
  exact ⟨rfl,HB1.out⟩
 | true =>
  have HV:=hdQ hv
  have HTX:=qh (∀ m:Nat,m<p.1.length->∀ wx,Bw w wx->CR 96 #[Zbz A p.1.length c A2 p.2.length c2,.int .i64 m] wx (str (textP p m))) (λm hm wx hb=>I_text w H0.out hv hta p.1.length m hm hm wx hb)
  have hl2:=Zda hv
  rw [hv] at HV0
  clear hv hta
  go_enter Tryz.func44,Tryz.ntmps44
  go_wp2_with (first|(go_at_call 94;refine (HV0.out _ bll).mono ?_;rintro e w1 ⟨rfl,hb1⟩;have hz1:=hb1.size;(try simp at hz1);have HB1:=bh w hb1;have HP1:=qh (Own w1 w.heap.size 62 [.slice A p.1.length c,.slice A2 p.2.length c2]) (Own.step hb1 (Own.new w _ #[_,_]));have r0:w1.cell? ⟨w.heap.size,0,none⟩=some (.slice A p.1.length c):=HP1.out.cell 0;have r1:w1.cell? ⟨w.heap.size,1,none⟩=some (.slice A2 p.2.length c2):=HP1.out.cell 1;have lt1:w.heap.size<w1.heap.size:=qo;have n1:¬ w.heap.size=w1.heap.size:=qo;clear hb1)|fail)
  go_loopw [5,12] (λ_ i wr=>∃ (k:Nat) (q:Value) (A3:OA) (c3:Nat),k<=p.2.length/\i=.int .i64 k/\(q=.pointer none∨q=.pointer (some ⟨w1.heap.size,0,none⟩))/\Bld wr w1.heap.size w1.heap.size q A3 c3 (Lib.byteCells (progTo p k))/\Own wr w.heap.size 62 [.slice A p.1.length c,.slice A2 p.2.length c2]/\Bw w wr) (λ_ i _=>p.2.length-(RowKit.intOf i).toNat)
  case atStart=>exact ⟨0,_,_,_,Nat.zero_le _,rfl,.inl rfl,Bld.new w1,(owx HP1.out),bll⟩
  case round =>
   obtain ⟨k,q,A3,c3,hk,rfl,hq,hbl,hp,hb⟩:=hrel
   obtain ⟨wo,rfl⟩:=qe wr
   have hz:=hb.size
   have hl:=hp.lt
   have hbb:=hbl.own.lt
   have hgl:=hbl.grow.lt
   have hgg:=hbl.grow.ge
   have HP:=hdQ hp
   have HB:=hdQ hb
   have HBL:=hdQ hbl
   have p0:wo.cell? ⟨w.heap.size,0,none⟩=some (.slice A p.1.length c):=hp.cell 0
   have p1:wo.cell? ⟨w.heap.size,1,none⟩=some (.slice A2 p.2.length c2):=hp.cell 1
   clear hp hb hbl r0 r1 HP1 HB1
   by_cases hlt:k<p.2.length
   ·obtain ⟨b,o,rfl,hbh,hs,x0,x1⟩:=H0.out.2.2.2 k hlt
    have d0:=(HB.out.cell (p:=⟨b,o+k*2,none⟩) hbh).trans x0
    have d1:=(HB.out.cell (p:=⟨b,o+k*2+1,none⟩) hbh).trans x1
    obtain ⟨m,hm,hmn⟩:=root_nat HV.out hlt
    have HTS:=hdQ (Zkl hlt)
    have HL1:=hdQ (Ziw HV.out k qo)
    have HL2:=hdQ (Zte HV.out hlt)
    have HCT:=qh (∀ wx,Bw w wx->CR 96 #[Zbz A p.1.length c (some ⟨b,o,none⟩) p.2.length c2,.int .i64 m] wx (str (textP p m))) (λwx hb=>HTX.out m hmn wx hb)
    obtain ⟨⟨nm,rt⟩,hx⟩:∃ x,p.2[k]=x:=⟨_,rfl⟩
    rw [hx] at d0 d1 hm hs HTS HL2
    (try dsimp only at d0 d1 hm hs)
    subst hm
    have HAS:=qh (assT p (nm,(m:Int))=nm++[32,61,32]++textP p m++[59,10]) rfl
    have i0:(k:Int)<p.2.length:=qo
    have i00:(0:Int)<=k:=qo
    generalize textP p m=Y at *
    generalize progTo p k=X at *
    have hL:X.length<=60000:=by have:=HL1.out;omega
    have hL2:nm.length+3+Y.length+2<=853:=by have:=HL2.out;rw [HAS.out] at this;simp only [List.length_append,List.length_cons,List.length_nil] at this;omega
    have s1:¬ 9223372036854775807<nm.length+3:=qo
    have s2:¬ 9223372036854775807<nm.length+3+Y.length:=qo
    have s3:¬ 9223372036854775807<nm.length+3+Y.length+2:=qo
    have HLL:=qh (X.length<=60000/\nm.length+3+Y.length+2<=853) ⟨hL,hL2⟩
    have HWS:=qh (∀ wx,Bw wo wx->CL 95 #[.pointer (some ⟨w1.heap.size,0,none⟩),.string ((({ data:=nm.toArray }++{ data := #[32,61,32] })++{ data:=Y.toArray })++{ data := #[59,10] })] wx λe w'=>∃ A4 c4,e=.returned (.tuple #[.int .i64 (nm++[32,61,32]++Y++[59,10]).length,.nilIface])/\Bld w' w1.heap.size w1.heap.size (.pointer (some ⟨w1.heap.size,0,none⟩)) A4 c4 (Lib.byteCells (X++assT p (nm,(m:Int))))/\Only wx.heap.size (w1.heap.size::gOf A3) wx w') (λwx hbx=>by
     have:=Zoh (nm++[32,61,32]++Y++[59,10]) (Bld.step hbx HBL.out) hq (by rw [Lib.byteCells_length];have:=HLL.out;simp only [List.length_append,List.length_cons,List.length_nil];omega) (by have:=hbx.size;omega)
     rw [HAS.out,Zn7]
     have e1:((({ data:=nm.toArray }++{ data := #[32,61,32] }:ByteArray)++{ data:=Y.toArray })++{ data := #[59,10] })=⟨(nm++[32,61,32]++Y++[59,10]).toArray⟩:=by
      show (((({ data:=nm.toArray }:ByteArray)++{ data:=[32,61,32].toArray })++{ data:=Y.toArray })++{ data:=[59,10].toArray })=_
      rw [Zad,Zad,Zad]
     rw [e1]
     exact this)
    have ng1:∀ x,x∈gOf A3->¬ x=wo.heap.size:=λx hx e=>by have:=hgl x hx;omega
    have ng2:∀ x,x∈gOf A3->¬ x=w.heap.size:=λx hx e=>by have:=hgg x hx;omega
    clear x0 x1 hs hx hL hL2
    go_wp2_with fail
    go_region_held3 (λw'=>w'.cell? ⟨wo.heap.size,0,none⟩=some (str nm)/\w'.cell? ⟨wo.heap.size,1,none⟩=some (.int .i64 m)/\w'.cell? ⟨w.heap.size,0,none⟩=some (.slice A p.1.length c)/\w'.cell? ⟨w.heap.size,1,none⟩=some (.slice (some ⟨b,o,none⟩) p.2.length c2))
     (first|go_keep|((try dsimp only);refine ⟨?_, ?_, ?_, ?_⟩<;>(go_simp;done)))
     (first|(go_at_call 96;(with_reducible refine (HCT.out _ bll).mono ?_);rintro e wA ⟨rfl,hbA⟩;have hzA:=hbA.size;(try simp at hzA);(refine Zan hbA (wo.heap.size) ?_ ?_;(first|omega|(simp<;>omega));intro n0 nf0 nz0);(refine Zan hbA (w.heap.size) ?_ ?_;(first|omega|(simp<;>omega));intro m0 mf0 mz0))|(go_at_call 95;(with_reducible refine (HWS.out _ bll).mono ?_);rintro e wB ⟨A4,c4,rfl,hbB,hoB⟩;have y0:=(hoB.cell wo.heap.size omm (by simp only [List.mem_cons,not_or];exact ⟨qo,λh=>ng1 _ h rfl⟩)).1;have y1:=(hoB.cell w.heap.size omm (by simp only [List.mem_cons,not_or];exact ⟨qo,λh=>ng2 _ h rfl⟩)).1)|fail)
    all_goals
     have HBB:=hdQ hbB
     have HOB:=hdQ hoB
     clear hbB hoB
     go_wp2_with fail
     go_roundw
     case rel =>
      refine ⟨k+1,_,A4,c4,qo,qg,.inr rfl, ?_, ?_, ?_⟩
      ·rw [HTS.out];exact HBB.out
      ·exact HOB.out.own (g:=w.heap.size) (owx HP.out) omm (by simp only [List.mem_cons,not_or];exact ⟨qo,λh=>ng2 _ h rfl⟩)
      ·exact Below.trans bll (HOB.out.below omm (by intro x hx;rcases List.mem_cons.1 hx with rfl|hx;omega;have:=hgg x hx;omega))
     case measure=>exact qn
   ·obtain rfl:k=p.2.length:=by omega
    have HSB:=qh (∀ wx,wx=wo->CL 97 #[.pointer (some ⟨w1.heap.size,0,none⟩)] wx λe w'=>e=.returned (str (Zf9 p))/\Below w1.heap.size wx w') (λwx hx=>by
     subst hx
     exact Tryz.Builder_String_any w1.heap.size w1.heap.size (Zf9 p) wx (HBL.out.is hq) qo)
    go_wp2_with (first|(go_at_call 97;(with_reducible refine (HSB.out _ rfl).mono ?_);rintro e wA ⟨rfl,hbA⟩)|fail)
    go_ret
    exact ⟨rfl,Below.trans HB.out (hbA.mono qo)⟩
def Zvy (w:World) (g:Nat) (t:TypeId) (cs:List Value):Prop:=∃ m,cs.length<=m/\w.heap[g]? = some (.cells ⟨cs⟩ t (m,m+1))
theorem Zvy.lt {w:World} {g:Nat} {t:TypeId} {cs:List Value} (h:Zvy w g t cs):g<w.heap.size:=by
 obtain ⟨m,_,h⟩:=h
 exact (Array.getElem?_eq_some_iff.1 h).1
theorem Zvy.cell {w:World} {g:Nat} {t:TypeId} {cs:List Value} (h:Zvy w g t cs) (i:Nat):w.cell? ⟨g,i,none⟩=cs[i]? := by
 obtain ⟨m,_,h⟩:=h
 simp [World.cell?,h]
theorem Zvy.frozen {w:World} {g:Nat} {t:TypeId} {cs:List Value} (h:Zvy w g t cs) {i:Nat} (hi:i<cs.length):w.frozen? ⟨g,i,none⟩=false:=by
 obtain ⟨m,hm,h⟩:=h
 simp [World.frozen?,h];omega
theorem Zvy.set_ {w:World} {g:Nat} {t:TypeId} {cs:List Value} (h:Zvy w g t cs) (i:Nat) (u:Value):Zvy (w.setCell ⟨g,i,none⟩ u) g t (cs.set i u):=by
 obtain ⟨m,hm,h⟩:=h
 refine ⟨m,by simpa using hm, ?_⟩
 simp [World.setCell,Array.getElem?_modify,h]
theorem Zvy.step {w w':World} {g:Nat} {t:TypeId} {cs:List Value} (hb:Bw w w') (h:Zvy w g t cs):Zvy w' g t cs:=by
 have hl:=h.lt
 obtain ⟨m,hm,h⟩:=h
 exact ⟨m,hm,(hb.block g hl).trans h⟩
theorem Zpy (c:UInt8) (t:List UInt8):index (c::t) [c]=((0:Nat):Int):=by rw [index];simp [List.isPrefixOf]
theorem Zpx {b c:UInt8} (t:List UInt8) (h:b≠c):index (b::t) [c]=if index t [c] == -1 then -1 else index t [c]+1:=by
 have hp:([c]:List UInt8).isPrefixOf (b::t)=false:=by simp [List.isPrefixOf,Ne.symm h]
 rw [index,hp];simp
theorem Zgh (c d:UInt8):∀ s:List UInt8,replaceK [c] [d] (s.count c) s=s.map λb=>if b=c then d else b
 | []=>by simp [replaceK]
 | b::t=>by
  by_cases hb:b=c
  ·subst hb
   rw [List.count_cons_self,replaceK_hit _ _ _ _ 0 (Zpy b t)]
   simp only [List.take_zero,List.nil_append,List.length_cons,List.length_nil,List.drop_succ_cons,List.drop_zero,List.map_cons,if_true,List.cons_append]
   rw [Zgh b d t]
  ·have ih:=Zgh c d t
   rw [List.count_cons_of_ne (by simpa using hb)]
   simp only [List.map_cons,if_neg hb]
   rw [<- ih]
   rcases Nat.eq_zero_or_pos (t.count c) with h0|h0
   ·rw [h0];simp [replaceK]
   ·obtain ⟨k,hk⟩:∃ k,t.count c=k+1:=⟨t.count c-1,qo⟩
    obtain ⟨i,hi⟩:=index_of_count (s:=t) (old:=[c]) (by rw [count_one];omega)
    rw [hk,replaceK_hit _ _ _ _ i hi,replaceK_hit _ _ _ _ (i+1) (by
     rw [Zpx t hb,hi,if_neg (by simp<;>omega)];first|rfl|omega)]
    simp
theorem Zlt (c d:UInt8) (hcd:c≠d) (s:List UInt8):replaceAll s [c] [d]=s.map λb=>if b=c then d else b:=by
 unfold replaceAll replace
 rw [if_neg (by simpa using hcd)]
 have:replaceNum s [c] (-1)=s.count c:=by unfold replaceNum;rw [if_pos qo,count_one]
 rw [this,Zgh]
theorem Zkd (s:List UInt8):replaceAll s [10] [32]=flatT s:=Zlt 10 32 qd s
def MLen (w:World):Prop:=∃ m,w.cell? ⟨0,0,none⟩=some (.int .i64 m)
theorem MLen.step {w w':World} (h:MLen w) (hb:Bw w w'):MLen w':=by
 obtain ⟨m,h4⟩:=h
 have hlt:0<w.heap.size:=by
  rcases Nat.lt_or_ge 0 w.heap.size with h'|h'
  ·exact h'
  ·simp [World.cell?,Array.getElem?_eq_none h'] at h4
 exact ⟨m,(hb.cell (p:=⟨0,0,none⟩) hlt).trans h4⟩
theorem Zqo (l:List UInt8) (w:World) (hl:l.length<=1048576) (hm:MLen w) :
  CR 43 #[str l,.string ⟨#[10]⟩,.string ⟨#[32]⟩] w ((str (flatT l))):=by
 obtain ⟨m,hm⟩:=hm
 refine (Tryz.strings_ReplaceAll ⟨l.toArray⟩ ⟨#[10]⟩ ⟨#[32]⟩ m w (by show l.length<_;omega) hm qd ?_).mono ?_
 ·have:=countB_le ⟨#[10]⟩ qd l.length ⟨l.toArray⟩ (Nat.le_refl _)
  have e1:(⟨l.toArray⟩:ByteArray).size=l.length:=rfl
  have e2:(⟨#[32]⟩:ByteArray).size=1:=rfl
  rw [e1,e2]
  rw [e1] at this
  omega
 ·rintro e w' ⟨rfl,hb⟩
  exact ⟨by show Ending.returned (Value.string ⟨(replaceAll l [10] [32]).toArray⟩)=_;rw [Zkd],hb⟩
def Zbf (s:EScene) (k j:Nat):List (List UInt8):=Zn1 s++(s.ps.take k).map Zq0++(s.ss.take j).map Zh5
theorem Zho (s:EScene):Zbf s s.ps.length s.ss.length=Zbk s:=by unfold Zbf Zbk;rw [List.take_length,List.take_length]
theorem Zkp {s:EScene} {k j:Nat} (hk:k<=s.ps.length) (hj:j<=s.ss.length):(Zbf s k j).length=3+k+j:=by
 simp only [Zbf,Zn1,List.length_append,List.length_map,List.length_take,List.length_cons,List.length_nil];omega
theorem Zpr {s:EScene} {k:Nat} (h:k<s.ps.length):Zbf s (k+1) 0=Zbf s k 0++[Zq0 s.ps[k]]:=by
 unfold Zbf;rw [List.take_succ_eq_append_getElem h,List.map_append];simp only [List.map_cons,List.map_nil,List.take_zero,List.append_nil,List.append_assoc]
theorem Zpq {s:EScene} {k j:Nat} (h:j<s.ss.length):Zbf s k (j+1)=Zbf s k j++[Zh5 s.ss[j]]:=by
 unfold Zbf;rw [List.take_succ_eq_append_getElem h,List.map_append];simp only [List.map_cons,List.map_nil,List.append_assoc]
theorem Zw7 (b:ByteArray):∀ u∈[Value.string b],u.oneCell'=true:=by
 intro u hu
 obtain rfl:u=Value.string b:=by simpa using hu
 rfl
theorem Zq2 {s:EScene} (h:SceneIs s) {k:Nat} (hk:k<s.ps.length):Zwr s.ps[k]=Zf9 s.ps[k]:=by
 unfold Zwr;rw [if_pos (Zf0 (Zka h.shad hk))]
set_option maxHeartbeats 32000000 in
theorem Zim {s:EScene} {TA P Q:OA} {tc pc qc:Nat} (w:World) (h:SceneIn w s TA tc P pc Q qc) (hta:Tab w) (hml:MLen w) :
  CR 11 #[Zj3 s TA tc P pc Q qc] w ((str (Zb0 s))):=by
 have H0:=hdQ h
 have HVS:=qh (∀ b,Zbb s=b->∀ wx,Bw w wx->CR 27 #[Zj3 s TA tc P pc Q qc] wx (.bool b)) (λb hb wx hbx=>by subst hb;exact Zff wx (h.step hbx))
 cases hok:Zbb s with
 | false =>
  have HF:=qh (Zb0 s=[]) (by unfold Zb0;rw [hok];rfl)
  clear h hta hml
  go_enter Tryz.func11,Tryz.ntmps11
  go_wp2_with (first|(go_at_call 27;(with_reducible refine (HVS.out false hok _ bll).mono ?_);rintro e w1 ⟨rfl,hb1⟩;have HB1:=bh w hb1;clear hb1)|fail)
  go_ret
  exact ⟨by rw [HF.out];rfl,HB1.out⟩
 | true =>
 have HIS:=hdQ (Zkc hok)
 have HF:=qh (Zb0 s=join (Zbk s) [10]++[10]) (by unfold Zb0;rw [hok];rfl)
 have hnp:=HIS.out.np
 have hns:=HIS.out.ns
 have HCM:=qh (∀ wx,Bw w wx->CR 40 #[Zb2 s.a s.b s.c s.d s.e s.f s.g] wx (str (Zn6 s.a s.b s.c s.d s.e s.f s.g))) (λwx hbx=>Zhg _ _ _ _ _ _ _ wx HIS.out.cam (hta.step hbx))
 have HTX:=qh (∀ wx,Bw w wx->CR 41 #[Zdw s.log (.slice TA s.tex.length tc)] wx (str (Zvw s.log s.tex))) (λwx hbx=>by have:=Zlo (log:=s.log) wx (RS.step hbx h.tex) (hta.step hbx);rw [if_pos HIS.out.tex] at this;exact this)
 have HNI:=qh (∀ (n:Int) wx,Bw w wx->CR 42 #[.int .i64 n] wx (str (fmtI n))) (λn wx hbx=>Zdv n wx (hta.step hbx))
 have HPT:=qh (∀ p,Zba p=true->∀ wx,Bw w wx->CR 46 #[Zbv p] wx (str (Zia p))) (λp hp wx hbx=>Zol p wx hp (hta.step hbx))
 have HPR:Hid (∀ {A A2:OA} {c c2:Nat} {p:Zag} wx,Bw w wx->Zcd w A c A2 c2 p->p.1.length<=1048576->p.2.length<=1048576->CR 44 #[Zbz A p.1.length c A2 p.2.length c2] wx (str (Zwr p))):=hdQ (λwx hbx hp h1 h2=>Zlp wx (hp.step hbx) h1 h2 (hta.step hbx))
 have HFL:=qh (∀ (l:List UInt8) wx,Bw w wx->l.length<=1048576->CR 43 #[str l,.string ⟨#[10]⟩,.string ⟨#[32]⟩] wx (str (flatT l))) (λl wx hbx hl=>Zqo l wx hl (hml.step hbx))
 have HX1:=hdQ (Ztd s.a s.b s.c s.d s.e s.f s.g)
 have HX2:=hdQ (Zsn (log:=s.log) (Zge HIS.out.tex).2.2.1)
 have HX3:=hdQ (Zc5 s.side)
 have HNS:=hdQ (HNI.out s.side)
 obtain ⟨X1,hX1⟩:∃ X,Zn6 s.a s.b s.c s.d s.e s.f s.g=X:=⟨_,rfl⟩
 obtain ⟨X2,hX2⟩:∃ X,Zvw s.log s.tex=X:=⟨_,rfl⟩
 obtain ⟨X3,hX3⟩:∃ X,fmtI s.side=X:=⟨_,rfl⟩
 have HHL:=qh (Zck (Zbf s 0 0)=[.string ({ data := #[99,97,109,101,114,97,32] }++{ data:=X1.toArray }),.string ({ data := #[116,101,120,116,117,114,101,32] }++{ data:=X2.toArray }),.string ({ data := #[115,105,100,101,32] }++{ data:=X3.toArray })]) (by
  subst hX1;subst hX2;subst hX3
  show Zck (Zn1 s++[]++[])=_
  rw [List.append_nil,List.append_nil]
  show [str _,str _,str _]=[Value.string (({ data:=[99,97,109,101,114,97,32].toArray }:ByteArray)++_),Value.string (({ data:=[116,101,120,116,117,114,101,32].toArray }:ByteArray)++_),Value.string (({ data:=[115,105,100,101,32].toArray }:ByteArray)++_)]
  rw [Zad,Zad,Zad])
 rw [hX1] at HCM HX1
 rw [hX2] at HTX HX2
 rw [hX3] at HNS HX3
 have s1:¬ 9223372036854775807<7+X1.length:=by have:=HX1.out;omega
 have s2:¬ 9223372036854775807<8+X2.length:=by have:=HX2.out;omega
 have s3:¬ 9223372036854775807<5+X3.length:=by have:=HX3.out;omega
 have HPZ:=qh (Own (w.alloc (.cells #[.int .i64 s.a,.int .i64 s.b,.int .i64 s.c,.int .i64 s.d,.bool s.e,.int .i64 s.f,.int .i64 s.g,.int .i64 s.log,.slice TA s.tex.length tc,.slice P s.ps.length pc,.slice Q s.ss.length qc,.int .i64 s.side] 30)) w.heap.size 30 [.int .i64 s.a,.int .i64 s.b,.int .i64 s.c,.int .i64 s.d,.bool s.e,.int .i64 s.f,.int .i64 s.g,.int .i64 s.log,.slice TA s.tex.length tc,.slice P s.ps.length pc,.slice Q s.ss.length qc,.int .i64 s.side]) (Own.new w _ #[_,_,_,_,_,_,_,_,_,_,_,_])
 clear h hX1 hX2 hX3 hta hml
 go_enter Tryz.func11,Tryz.ntmps11
 go_upto_region 3 with (first|(go_at_call 27;(with_reducible refine (HVS.out true hok _ bll).mono ?_);rintro e w1 ⟨rfl,hb1⟩;have hz1:=hb1.size;(try simp at hz1);have HB1:=bh w hb1;have HP1:=qh (Own w1 w.heap.size 30 [.int .i64 s.a,.int .i64 s.b,.int .i64 s.c,.int .i64 s.d,.bool s.e,.int .i64 s.f,.int .i64 s.g,.int .i64 s.log,.slice TA s.tex.length tc,.slice P s.ps.length pc,.slice Q s.ss.length qc,.int .i64 s.side]) (Own.step hb1 HPZ.out);clear hb1)|fail)
 have t0:w1.cell? ⟨w.heap.size,0,none⟩=some (.int .i64 s.a):=HP1.out.cell 0
 have t1:w1.cell? ⟨w.heap.size,1,none⟩=some (.int .i64 s.b):=HP1.out.cell 1
 have t2:w1.cell? ⟨w.heap.size,2,none⟩=some (.int .i64 s.c):=HP1.out.cell 2
 have t3:w1.cell? ⟨w.heap.size,3,none⟩=some (.int .i64 s.d):=HP1.out.cell 3
 have t4:w1.cell? ⟨w.heap.size,4,none⟩=some (.bool s.e):=HP1.out.cell 4
 have t5:w1.cell? ⟨w.heap.size,5,none⟩=some (.int .i64 s.f):=HP1.out.cell 5
 have t6:w1.cell? ⟨w.heap.size,6,none⟩=some (.int .i64 s.g):=HP1.out.cell 6
 have t7:w1.cell? ⟨w.heap.size,7,none⟩=some (.int .i64 s.log):=HP1.out.cell 7
 have t8:w1.cell? ⟨w.heap.size,8,none⟩=some (.slice TA s.tex.length tc):=HP1.out.cell 8
 have t9:w1.cell? ⟨w.heap.size,9,none⟩=some (.slice P s.ps.length pc):=HP1.out.cell 9
 have t10:w1.cell? ⟨w.heap.size,10,none⟩=some (.slice Q s.ss.length qc):=HP1.out.cell 10
 have t11:w1.cell? ⟨w.heap.size,11,none⟩=some (.int .i64 s.side):=HP1.out.cell 11
 clear HVS HPZ
 go_cut [3] (λs3 wx=>∃ B,s3=.slice (some ⟨B,0,none⟩) 3 3/\Zaj wx (w.heap.size+1) 9 1 (some ⟨B,0,none⟩) 3 3 (Zck (Zbf s 0 0))/\Own wx w.heap.size 30 [.int .i64 s.a,.int .i64 s.b,.int .i64 s.c,.int .i64 s.d,.bool s.e,.int .i64 s.f,.int .i64 s.g,.int .i64 s.log,.slice TA s.tex.length tc,.slice P s.ps.length pc,.slice Q s.ss.length qc,.int .i64 s.side]/\Bw w wx)
 case first =>
  go_region_held3 (λw'=>w'.cell? ⟨w.heap.size,0,none⟩=some (.int .i64 s.a)/\w'.cell? ⟨w.heap.size,1,none⟩=some (.int .i64 s.b)/\w'.cell? ⟨w.heap.size,2,none⟩=some (.int .i64 s.c)/\w'.cell? ⟨w.heap.size,3,none⟩=some (.int .i64 s.d)/\w'.cell? ⟨w.heap.size,4,none⟩=some (.bool s.e)/\w'.cell? ⟨w.heap.size,5,none⟩=some (.int .i64 s.f)/\w'.cell? ⟨w.heap.size,6,none⟩=some (.int .i64 s.g)/\w'.cell? ⟨w.heap.size,7,none⟩=some (.int .i64 s.log)/\w'.cell? ⟨w.heap.size,8,none⟩=some (.slice TA s.tex.length tc)/\w'.cell? ⟨w.heap.size,11,none⟩=some (.int .i64 s.side))
   (first|go_keep|((try dsimp only);refine ⟨?_, ?_, ?_, ?_, ?_, ?_, ?_, ?_, ?_, ?_⟩<;>(go_simp;done)))
   (first|(go_at_call 40;(with_reducible refine (HCM.out _ bll).mono ?_);rintro e wA ⟨rfl,hbA⟩;have hzA:=hbA.size;(try simp at hzA);(refine Zan hbA (w.heap.size) ?_ ?_;(first|omega|(simp<;>omega));intro n0 nf0 nz0))|(go_at_call 41;(with_reducible refine (HTX.out _ bll).mono ?_);rintro e wB ⟨rfl,hbB⟩;have hzB:=hbB.size;(try simp at hzB);(refine Zan hbB (w.heap.size) ?_ ?_;(first|omega|(simp<;>omega));intro m0 mf0 mz0))|(go_at_call 42;(with_reducible refine (HNS.out _ bll).mono ?_);rintro e wC ⟨rfl,hbC⟩;have hzC:=hbC.size;(try simp at hzC);(refine Zan hbC (w.heap.size) ?_ ?_;(first|omega|(simp<;>omega));intro q0 qf0 qz0))|fail)
  all_goals
   go_wp2_with fail
   go_meet
   refine ⟨_,rfl, ?_,(owx HP1.out),bll⟩
   rw [HHL.out]
   repeat (first|(with_reducible refine Zaj.drewN ?_ _)|(with_reducible refine Zaj.drew ?_)|(refine Zaj.lit_at (cs := #[_,_,_]) (by first|rfl|simp) qr ?_ qd))
   all_goals (first|omega|(simp<;>omega))
 case rest =>
 obtain ⟨B0,rfl,hg0,hp0,hb0⟩:=hcut
 have HG0:=hdQ hg0
 have HP0:=hdQ hp0
 have HB0:=hdQ hb0
 have u0:wc.cell? ⟨w.heap.size,0,none⟩=some (.int .i64 s.a):=hp0.cell 0
 have u1:wc.cell? ⟨w.heap.size,1,none⟩=some (.int .i64 s.b):=hp0.cell 1
 have u2:wc.cell? ⟨w.heap.size,2,none⟩=some (.int .i64 s.c):=hp0.cell 2
 have u3:wc.cell? ⟨w.heap.size,3,none⟩=some (.int .i64 s.d):=hp0.cell 3
 have u4:wc.cell? ⟨w.heap.size,4,none⟩=some (.bool s.e):=hp0.cell 4
 have u5:wc.cell? ⟨w.heap.size,5,none⟩=some (.int .i64 s.f):=hp0.cell 5
 have u6:wc.cell? ⟨w.heap.size,6,none⟩=some (.int .i64 s.g):=hp0.cell 6
 have u7:wc.cell? ⟨w.heap.size,7,none⟩=some (.int .i64 s.log):=hp0.cell 7
 have u8:wc.cell? ⟨w.heap.size,8,none⟩=some (.slice TA s.tex.length tc):=hp0.cell 8
 have u9:wc.cell? ⟨w.heap.size,9,none⟩=some (.slice P s.ps.length pc):=hp0.cell 9
 have u10:wc.cell? ⟨w.heap.size,10,none⟩=some (.slice Q s.ss.length qc):=hp0.cell 10
 have u11:wc.cell? ⟨w.heap.size,11,none⟩=some (.int .i64 s.side):=hp0.cell 11
 clear hg0 hp0 hb0 HP1 HB1 HHL
 go_wp2_with fail
 go_loopw [3,5,27] (λls _ i wr=>∃ (k:Nat) (B:OA) (d:Nat),k<=s.ps.length/\i=.int .i64 k/\ls=.slice B (3+k) d/\Zaj wr (w.heap.size+1) 9 1 B (3+k) d (Zck (Zbf s k 0))/\Own wr w.heap.size 30 [.int .i64 s.a,.int .i64 s.b,.int .i64 s.c,.int .i64 s.d,.bool s.e,.int .i64 s.f,.int .i64 s.g,.int .i64 s.log,.slice TA s.tex.length tc,.slice P s.ps.length pc,.slice Q s.ss.length qc,.int .i64 s.side]/\Bw w wr) (λ_ _ i _=>s.ps.length-(RowKit.intOf i).toNat)
 case atStart=>exact ⟨0,_,_,Nat.zero_le _,rfl,rfl,HG0.out,HP0.out,HB0.out⟩
 case round =>
  obtain ⟨k,B,d,hk,rfl,rfl,hg,hp,hb⟩:=hrel
  obtain ⟨wo,rfl⟩:=qe wr
  have hz:=hb.size
  have hl:=hp.lt
  have hgl:=hg.lt
  have hgg:=hg.ge
  have HG:=hdQ hg
  have HP:=hdQ hp
  have HB:=hdQ hb
  have y9:wo.cell? ⟨w.heap.size,9,none⟩=some (.slice P s.ps.length pc):=hp.cell 9
  have y10:wo.cell? ⟨w.heap.size,10,none⟩=some (.slice Q s.ss.length qc):=hp.cell 10
  clear hg hp hb HG0 HP0 HB0
  by_cases hlt:k<s.ps.length
  ·obtain ⟨b,o,A1,c1,A2,c2,rfl,hbh,hpi,hn1,hn2,x0,x1⟩:=H0.out.ps.2.2 k hlt
   have z0:=(HB.out.cell (p:=⟨b,o+k*2,none⟩) hbh).trans x0
   have z1:=(HB.out.cell (p:=⟨b,o+k*2+1,none⟩) hbh).trans x1
   have HLS:=hdQ (Zpr hlt)
   have HPE:=hdQ (Zq2 HIS.out hlt)
   have HPL:=hdQ (Zpf (Zf0 (Zka HIS.out.shad hlt)))
   obtain ⟨x,hx⟩:=qv (s.ps[k])
   rw [hx] at z0 z1 HLS HPE HPL hpi hn1 hn2
   have HC:=qh (∀ wx,Bw w wx->CR 44 #[Zbz A1 x.1.length c1 A2 x.2.length c2] wx (str (Zf9 x))) (λwx hbx=>by rw [<- HPE.out];exact HPR.out wx hbx hpi hn1 hn2)
   have HC2:=qh (∀ wx,Bw w wx->CR 43 #[str (Zf9 x),.string ⟨#[10]⟩,.string ⟨#[32]⟩] wx (str (flatT (Zf9 x)))) (λwx hbx=>HFL.out _ wx hbx (by have:=HPL.out;omega))
   have HFT:=qh ((flatT (Zf9 x)).length<=51180) (by rw [Zkw];exact HPL.out)
   have HS:=qh (Zck (Zbf s (k+1) 0)=Zck (Zbf s k 0)++[.string ({ data := #[115,104,97,100,101,114,32] }++{ data:=(flatT (Zf9 x)).toArray })]) (by
    rw [HLS.out,<- Zfi]
    show _=Zck (Zbf s k 0)++[Value.string (({ data:=[115,104,97,100,101,114,32].toArray }:ByteArray)++_)]
    rw [Zad];rfl)
   generalize flatT (Zf9 x)=Y at *
   have s4:¬ 9223372036854775807<7+Y.length:=by have:=HFT.out;omega
   have j1:(k:Int)<s.ps.length:=qo
   have j2:(0:Int)<=k:=qo
   have hwn:¬ wo.heap.size=w.heap.size:=qo
   clear hpi hx x0 x1
   go_wp2_with (first|(go_at_call 44;(with_reducible refine (HC.out _ bll).mono ?_);rintro e wA ⟨rfl,hbA⟩;have hzA:=hbA.size;(try simp at hzA);have HBA:=bh w hbA;have HPA:=qh (Own wA w.heap.size 30 [.int .i64 s.a,.int .i64 s.b,.int .i64 s.c,.int .i64 s.d,.bool s.e,.int .i64 s.f,.int .i64 s.g,.int .i64 s.log,.slice TA s.tex.length tc,.slice (some ⟨b,o,none⟩) s.ps.length pc,.slice Q s.ss.length qc,.int .i64 s.side]) (Own.step hbA (owx HP.out));have HGA:=qh (Zaj wA (w.heap.size+1) 9 1 B (3+k) d (Zck (Zbf s k 0))) (Zaj.step hbA (gwx HG.out));clear hbA)|(go_at_call 43;(with_reducible refine (HC2.out _ HBA.out).mono ?_);rintro e wB ⟨rfl,hbB⟩;have hzB:=hbB.size;(try simp at hzB);have HBB:=qh (Bw w wB) (Below.step hbB HBA.out HBA.out.size);have HPB:=qh (Own wB w.heap.size 30 [.int .i64 s.a,.int .i64 s.b,.int .i64 s.c,.int .i64 s.d,.bool s.e,.int .i64 s.f,.int .i64 s.g,.int .i64 s.log,.slice TA s.tex.length tc,.slice (some ⟨b,o,none⟩) s.ps.length pc,.slice Q s.ss.length qc,.int .i64 s.side]) (Own.step hbB HPA.out);have HGB:=qh (Zaj wB (w.heap.size+1) 9 1 B (3+k) d (Zck (Zbf s k 0))) (Zaj.step hbB HGA.out);clear hbB)|(at_builtin;refine wpA (w.heap.size+1) Tryz.underlying50 T.infoString (Zck (Zbf s k 0)) ([.string ({ data := #[115,104,97,100,101,114,32] }++{ data:=Y.toArray })]) (Zw7 _) ?_ ?_ ?_;exact (gwx HGB.out);exact (ltt 1);rintro A' c' w2 gA;have g1:=gA.1;have g2:=gA.2.1;rw [<- HS.out] at g1;have HG1:=hdQ g1;have HB2:=qh (Bw w w2) (Below.trans (Below.alloc HBB.out qo _) (g2.mono qo));have HP2:=qh (Own w2 w.heap.size 30 [.int .i64 s.a,.int .i64 s.b,.int .i64 s.c,.int .i64 s.d,.bool s.e,.int .i64 s.f,.int .i64 s.g,.int .i64 s.log,.slice TA s.tex.length tc,.slice (some ⟨b,o,none⟩) s.ps.length pc,.slice Q s.ss.length qc,.int .i64 s.side]) (Own.below (Own.alloc HPB.out _) g2 qo);clear gA g1 g2)|fail)
   go_roundw
   case rel=>exact ⟨k+1,_,_,qo,qg,rfl,HG1.out,HP2.out,HB2.out⟩
   case measure=>exact qn
  ·obtain rfl:k=s.ps.length:=by omega
   go_wp2_with fail
   go_loopw [3,7,42] (λls _ i wr=>∃ (j:Nat) (B:OA) (d:Nat),j<=s.ss.length/\i=.int .i64 j/\ls=.slice B (3+s.ps.length+j) d/\Zaj wr (w.heap.size+1) 9 1 B (3+s.ps.length+j) d (Zck (Zbf s s.ps.length j))/\Own wr w.heap.size 30 [.int .i64 s.a,.int .i64 s.b,.int .i64 s.c,.int .i64 s.d,.bool s.e,.int .i64 s.f,.int .i64 s.g,.int .i64 s.log,.slice TA s.tex.length tc,.slice P s.ps.length pc,.slice Q s.ss.length qc,.int .i64 s.side]/\Bw w wr) (λ_ _ i _=>s.ss.length-(RowKit.intOf i).toNat)
   case atStart=>exact ⟨0,_,_,Nat.zero_le _,rfl,rfl,HG.out,HP.out,HB.out⟩
   case round =>
    clear hz hl hgl hgg
    obtain ⟨j,B2,d2,hj,rfl,rfl,hg,hp,hb⟩:=hrel
    obtain ⟨wi,rfl⟩:=qe wr
    have hz:=hb.size
    have hl:=hp.lt
    have hgl:=hg.lt
    have hgg:=hg.ge
    have HG3:=hdQ hg
    have HP3:=hdQ hp
    have HB3:=hdQ hb
    have q10:wi.cell? ⟨w.heap.size,10,none⟩=some (.slice Q s.ss.length qc):=hp.cell 10
    clear hg hp hb y9 y10
    by_cases hlj:j<s.ss.length
    ·obtain ⟨b,o,rfl,hbh,hsf⟩:=H0.out.ss.2.2 j hlj
     have hsw:=hsf.below HB3.out hbh
     have HLS:=hdQ (Zpq (k:=s.ps.length) hlj)
     have HSO:=hdQ (Zmg HIS.out.surf hlj)
     obtain ⟨⟨p,q,sh,rt⟩,hx⟩:∃ x,s.ss[j]=x:=⟨_,rfl⟩
     rw [hx] at hsw HLS HSO
     (try dsimp only at hsw)
     have hso:=HSO.out
     rw [Zmi] at hso
     simp only [Bool.and_eq_true] at hso
     have HV1:=hdQ hso.1
     have HV2:=hdQ hso.2.1
     obtain ⟨w1',w2',V,hV,hld,hal,hst,hlv,hz3,hbw,how⟩:=Zsp hsw
     have HLD:=hdQ hld
     have HAL:=hdQ hal
     have HST:=hdQ hst
     have HOW:=hdQ how
     have HBW:=qh (Bw w w2') (Below.step hbw HB3.out HB3.out.size)
     have HPW:=qh (Own w2' w.heap.size 30 [.int .i64 s.a,.int .i64 s.b,.int .i64 s.c,.int .i64 s.d,.bool s.e,.int .i64 s.f,.int .i64 s.g,.int .i64 s.log,.slice TA s.tex.length tc,.slice P s.ps.length pc,.slice (some ⟨b,o,none⟩) s.ss.length qc,.int .i64 s.side]) (Own.step hbw HP3.out)
     have HGW:=qh (Zaj w2' (w.heap.size+1) 9 1 B2 (3+s.ps.length+j) d2 (Zck (Zbf s s.ps.length j))) (Zaj.step hbw HG3.out)
     have HC1:=qh (∀ wx,Bw w wx->CR 42 #[.int .i64 sh] wx (str (fmtI sh))) (HNI.out sh)
     have HC2:=qh (∀ wx,Bw w wx->CR 42 #[.int .i64 rt] wx (str (fmtI rt))) (HNI.out rt)
     have HC3:=qh (∀ wx,Bw w wx->CR 46 #[Zbv p] wx (str (Zia p))) (HPT.out p HV1.out)
     have HC4:=qh (∀ wx,Bw w wx->CR 46 #[Zbv q] wx (str (Zia q))) (HPT.out q HV2.out)
     have HL1:=hdQ (Zc5 sh)
     have HL2:=hdQ (Zc5 rt)
     have HL3:=hdQ (Zh9 p)
     have HL4:=hdQ (Zh9 q)
     have HSF:=qh (Zh5 (p,q,sh,rt)=[115,117,114,102,97,99,101,32]++fmtI sh++[32]++fmtI rt++[32]++Zia p++[32]++Zia q) rfl
     have HSJ:=qh (Zh5 (p,q,sh,rt)=join [[115,117,114,102,97,99,101],fmtI sh,fmtI rt,Zia p,Zia q] [32]) (Zt0 (p,q,sh,rt)).symm
     have HTL:=hdQ (Zo2 (p,q,sh,rt))
     obtain ⟨Y,hY⟩:=qv (Zh5 (p,q,sh,rt))
     rw [hY] at HSF HSJ HTL HLS
     have HS:=qh (Zck (Zbf s s.ps.length (j+1))=Zck (Zbf s s.ps.length j)++[str Y]) (by rw [HLS.out,<- Zfi];rfl)
     generalize hG:wi.heap.size=G at *
     obtain ⟨F1,hF1⟩:∃ F,fmtI sh=F:=⟨_,rfl⟩
     obtain ⟨F2,hF2⟩:∃ F,fmtI rt=F:=⟨_,rfl⟩
     obtain ⟨F3,hF3⟩:∃ F,Zia p=F:=⟨_,rfl⟩
     obtain ⟨F4,hF4⟩:∃ F,Zia q=F:=⟨_,rfl⟩
     rw [hF1] at HC1 HL1
     rw [hF2] at HC2 HL2
     rw [hF3] at HC3 HL3
     rw [hF4] at HC4 HL4
     rw [hF1,hF2,hF3,hF4] at HSF HSJ
     have hl1:F1.length<=11:=HL1.out
     have hl2:F2.length<=11:=HL2.out
     have hl3:F3.length<=147:=HL3.out
     have hl4:F4.length<=147:=HL4.out
     have j1:(j:Int)<s.ss.length:=qo
     have j2:(0:Int)<=j:=qo
     have hGw:w.heap.size<G:=qo
     clear hsf hsw hx hV hld hal hst hlv hbw how hso hY hF1 hF2 hF3 hF4 hl1 hl2 hl3 hl4
     go_upto_region 12 with (first|(refine Zal rfl 45 (.tmp 44) rfl rfl HLD.out ?_)|(refine Zah rfl 45 rfl HAL.out ?_)|(refine Zae rfl 45 (.tmp 7) (.tmp 45) rfl rfl rfl HST.out ?_)|fail)
     refine wp_region_held_drew (S:=λw'=>∀ (m:Nat) (v:Value),(cSurf p q sh rt)[m]? = some v->w'.cell? ⟨G,m,none⟩=some v) kr ?_ (λhHeld1=>?_)
     ·exact λm v hv=>(HOW.out.cell m).trans hv
     refine tkH 0 ?_;(try simp only [LO,Act.put])
     refine tkH 1 ?_;(try simp only [LO,Act.put])
     (refine wpAnyH_take (i:=2) (v:=?_) rfl kr kr kr (λ_ _ _ h=>h) (Or.inl ⟨qr, ?_⟩) ‹_› ?_;rotate_left;focus (intro w hSw;(try dsimp only at hSw);have e24:=hSw 24 _ rfl;(try simp only [Nat.zero_add] at *);go_simp;try with_reducible rfl));(try simp only [LO,Act.put])
     refine tkH 4 ?_;(try simp only [LO,Act.put])
     (refine wpAnyH_take (i:=5) (v:=?_) rfl kr kr kr (λ_ _ _ h=>h) (Or.inl ⟨qr, ?_⟩) ‹_› ?_;rotate_left;focus (intro w hSw;(try dsimp only at hSw);have e25:=hSw 25 _ rfl;(try simp only [Nat.zero_add] at *);go_simp;try with_reducible rfl));(try simp only [LO,Act.put])
     refine tkH 7 ?_;(try simp only [LO,Act.put])
     (refine wpAnyH_take (i:=8) (v:=?_) rfl kr kr kr (λ_ _ _ h=>h) (Or.inl ⟨qr, ?_⟩) ‹_› ?_;rotate_left;focus (intro w hSw;(try dsimp only at hSw);have e0:=hSw 0 _ rfl;have e1:=hSw 1 _ rfl;have e2:=hSw 2 _ rfl;have e3:=hSw 3 _ rfl;have e4:=hSw 4 _ rfl;have e5:=hSw 5 _ rfl;have e6:=hSw 6 _ rfl;have e7:=hSw 7 _ rfl;have e8:=hSw 8 _ rfl;have e9:=hSw 9 _ rfl;have e10:=hSw 10 _ rfl;have e11:=hSw 11 _ rfl;(try simp only [Nat.zero_add] at *);go_simp;try with_reducible rfl));(try simp only [LO,Act.put])
     refine tkH 10 ?_;(try simp only [LO,Act.put])
     (refine wpAnyH_take (i:=11) (v:=?_) rfl kr kr kr (λ_ _ _ h=>h) (Or.inl ⟨qr, ?_⟩) ‹_› ?_;rotate_left;focus (intro w hSw;(try dsimp only at hSw);have e12:=hSw 12 _ rfl;have e13:=hSw 13 _ rfl;have e14:=hSw 14 _ rfl;have e15:=hSw 15 _ rfl;have e16:=hSw 16 _ rfl;have e17:=hSw 17 _ rfl;have e18:=hSw 18 _ rfl;have e19:=hSw 19 _ rfl;have e20:=hSw 20 _ rfl;have e21:=hSw 21 _ rfl;have e22:=hSw 22 _ rfl;have e23:=hSw 23 _ rfl;(try simp only [Nat.zero_add] at *);go_simp;try with_reducible rfl));(try simp only [LO,Act.put])
     refine wpAnyH_ready (rs:=[3]) kr qs ?_
     refine AllReadyH.cons rfl (λK hK=>?_) AllReadyH.nil
     go_simp
     (go_at_call 42;(with_reducible refine (HC1.out _ bll).mono ?_);rintro e wA ⟨rfl,hbwA⟩;have hzwA:=hbwA.size;(try simp at hzwA);have HBwA:=bh w hbwA;have HPwA:=qh (Own wA w.heap.size 30 [.int .i64 s.a,.int .i64 s.b,.int .i64 s.c,.int .i64 s.d,.bool s.e,.int .i64 s.f,.int .i64 s.g,.int .i64 s.log,.slice TA s.tex.length tc,.slice P s.ps.length pc,.slice (some ⟨b,o,none⟩) s.ss.length qc,.int .i64 s.side]) (Own.step hbwA (owx HPW.out));have HGwA:=qh (Zaj wA (w.heap.size+1) 9 1 B2 (3+s.ps.length+j) d2 (Zck (Zbf s s.ps.length j))) (Zaj.step hbwA (gwx HGW.out)))
     (try go_wp2_with fail)
     refine hK.out _ _ ?_ (λhHeld2=>?_)
     ·exact λm v hv=>(hbwA.cell (p:=⟨G,m,none⟩) omm).trans (hHeld1 m v hv)
     clear hK K hHeld1
     (try simp only [LO,Act.put])
     refine wpAnyH_ready (rs:=[6]) kr qs ?_
     refine AllReadyH.cons rfl (λK hK=>?_) AllReadyH.nil
     go_simp
     (go_at_call 42;(with_reducible refine (HC2.out _ bll).mono ?_);rintro e wB ⟨rfl,hbwB⟩;have hzwB:=hbwB.size;(try simp at hzwB);have HBwB:=bh w hbwB;have HPwB:=qh (Own wB w.heap.size 30 [.int .i64 s.a,.int .i64 s.b,.int .i64 s.c,.int .i64 s.d,.bool s.e,.int .i64 s.f,.int .i64 s.g,.int .i64 s.log,.slice TA s.tex.length tc,.slice P s.ps.length pc,.slice (some ⟨b,o,none⟩) s.ss.length qc,.int .i64 s.side]) (Own.step hbwB (owx HPwA.out));have HGwB:=qh (Zaj wB (w.heap.size+1) 9 1 B2 (3+s.ps.length+j) d2 (Zck (Zbf s s.ps.length j))) (Zaj.step hbwB (gwx HGwA.out)))
     (try go_wp2_with fail)
     refine hK.out _ _ ?_ (λhHeld3=>?_)
     ·exact λm v hv=>(hbwB.cell (p:=⟨G,m,none⟩) omm).trans (hHeld2 m v hv)
     clear hK K hHeld2
     (try simp only [LO,Act.put])
     refine wpAnyH_ready (rs:=[9]) kr qs ?_
     refine AllReadyH.cons rfl (λK hK=>?_) AllReadyH.nil
     go_simp
     (go_at_call 46;(with_reducible refine (HC3.out _ bll).mono ?_);rintro e wC ⟨rfl,hbwC⟩;have hzwC:=hbwC.size;(try simp at hzwC);have HBwC:=bh w hbwC;have HPwC:=qh (Own wC w.heap.size 30 [.int .i64 s.a,.int .i64 s.b,.int .i64 s.c,.int .i64 s.d,.bool s.e,.int .i64 s.f,.int .i64 s.g,.int .i64 s.log,.slice TA s.tex.length tc,.slice P s.ps.length pc,.slice (some ⟨b,o,none⟩) s.ss.length qc,.int .i64 s.side]) (Own.step hbwC (owx HPwB.out));have HGwC:=qh (Zaj wC (w.heap.size+1) 9 1 B2 (3+s.ps.length+j) d2 (Zck (Zbf s s.ps.length j))) (Zaj.step hbwC (gwx HGwB.out)))
     (try go_wp2_with fail)
     refine hK.out _ _ ?_ (λhHeld4=>?_)
     ·exact λm v hv=>(hbwC.cell (p:=⟨G,m,none⟩) omm).trans (hHeld3 m v hv)
     clear hK K hHeld3
     (try simp only [LO,Act.put])
     refine wpAnyH_ready (rs:=[12]) kr qs ?_
     refine AllReadyH.cons rfl (λK hK=>?_) AllReadyH.nil
     go_simp
     (go_at_call 46;(with_reducible refine (HC4.out _ bll).mono ?_);rintro e wD ⟨rfl,hbwD⟩;have hzwD:=hbwD.size;(try simp at hzwD);have HBwD:=bh w hbwD;have HPwD:=qh (Own wD w.heap.size 30 [.int .i64 s.a,.int .i64 s.b,.int .i64 s.c,.int .i64 s.d,.bool s.e,.int .i64 s.f,.int .i64 s.g,.int .i64 s.log,.slice TA s.tex.length tc,.slice P s.ps.length pc,.slice (some ⟨b,o,none⟩) s.ss.length qc,.int .i64 s.side]) (Own.step hbwD (owx HPwC.out));have HGwD:=qh (Zaj wD (w.heap.size+1) 9 1 B2 (3+s.ps.length+j) d2 (Zck (Zbf s s.ps.length j))) (Zaj.step hbwD (gwx HGwC.out)))
     (try go_wp2_with fail)
     refine hK.out _ _ ?_ (λhHeld5=>?_)
     ·exact λm v hv=>(hbwD.cell (p:=⟨G,m,none⟩) omm).trans (hHeld4 m v hv)
     clear hK K hHeld4
     (try simp only [LO,Act.put])
     refine wpAnyH_ready (rs:=[13]) kr qs ?_
     refine AllReadyH.cons rfl (λK hK=>?_) AllReadyH.nil
     go_simp
     skip
     (try go_wp2_with fail)
     refine hK.out _ _ ?_ (λhHeld6=>?_)
     ·exact λm v hv=>((Below.alloc (Below.refl wD.heap.size wD) (Nat.le_refl _) _).cell (p:=⟨G,m,none⟩) omm).trans (hHeld5 m v hv)
     clear hK K hHeld5
     (try simp only [LO,Act.put])
     have HJ:=qh (∀ (wx:World) (A:OA),RS wx 1 A 5 5 [.string ⟨#[115,117,114,102,97,99,101]⟩,str F1,str F2,str F3,str F4]->CR 45 #[.slice A 5 5,.string ⟨#[32]⟩] wx (str Y)) (λwx A hr=>by
      rw [HSJ.out]
      exact Zln (ls:=[[115,117,114,102,97,99,101],F1,F2,F3,F4]) (sep:=[32]) wx hr qs qs (by rw [<- HSJ.out];have:=HTL.out;omega))
     refine wpAnyH_ready (rs:=[14]) kr qs ?_
     refine AllReadyH.cons rfl (λK hK=>?_) AllReadyH.nil
     go_simp
     (go_at_call 45;(refine (HJ.out _ _ (ltt 5)).mono ?_);rintro e wE ⟨rfl,hbwE⟩;have hzwE:=hbwE.size;(try simp at hzwE);have HBwE:=bh w hbwE;have HPwE:=qh (Own wE w.heap.size 30 [.int .i64 s.a,.int .i64 s.b,.int .i64 s.c,.int .i64 s.d,.bool s.e,.int .i64 s.f,.int .i64 s.g,.int .i64 s.log,.slice TA s.tex.length tc,.slice P s.ps.length pc,.slice (some ⟨b,o,none⟩) s.ss.length qc,.int .i64 s.side]) (Own.step hbwE (owx HPwD.out));have HGwE:=qh (Zaj wE (w.heap.size+1) 9 1 B2 (3+s.ps.length+j) d2 (Zck (Zbf s s.ps.length j))) (Zaj.step hbwE (gwx HGwD.out)))
     (try go_wp2_with fail)
     refine hK.out _ _ ?_ (λhHeld7=>?_)
     ·exact λm v hv=>(hbwE.cell (p:=⟨G,m,none⟩) omm).trans (hHeld6 m v hv)
     clear hK K hHeld6
     (try simp only [LO,Act.put])
     refine wpAnyH_ready (rs:=[15]) kr qs ?_
     refine AllReadyH.cons rfl (λK hK=>?_) AllReadyH.nil
     go_simp
     skip
     (try go_wp2_with fail)
     refine hK.out _ _ ?_ (λhHeld8=>?_)
     ·exact λm v hv=>((Below.alloc (Below.refl wE.heap.size wE) (Nat.le_refl _) _).cell (p:=⟨G,m,none⟩) omm).trans (hHeld7 m v hv)
     clear hK K hHeld7
     (try simp only [LO,Act.put])
     refine wpAnyH_ready (rs:=[16]) kr qs ?_
     refine AllReadyH.cons rfl (λK hK=>?_) AllReadyH.nil
     refine Zcs qr _ _ 50 qr (w.heap.size+1) 9 (.string ByteArray.empty) 1 16 Tryz.underlying50 T.infoString rfl qd (xs:=Zck (Zbf s s.ps.length j)) qr ?_ (ys:=[str Y]) qr ?_ (Zw7 _) ?_ ?_ ?_ ?_;(exact (gwx HGwE.out));(exact (ltt 1));(unfold maxLen;omega);(omega);(first|omega|(simp<;>omega));rintro A' c' w2 gA
     have g1:=gA.1
     have g2:=gA.2.1
     rw [<- HS.out] at g1
     have HG1:=hdQ g1
     have HB4:=qh (Bw w w2) (Below.trans (Below.alloc HBwE.out qo _) (g2.mono qo))
     have HP4:=qh (Own w2 w.heap.size 30 [.int .i64 s.a,.int .i64 s.b,.int .i64 s.c,.int .i64 s.d,.bool s.e,.int .i64 s.f,.int .i64 s.g,.int .i64 s.log,.slice TA s.tex.length tc,.slice P s.ps.length pc,.slice (some ⟨b,o,none⟩) s.ss.length qc,.int .i64 s.side]) (Own.below (Own.alloc HPwE.out _) g2 qo)
     have hfar:=gA.far (b:=G) omm (λhx=>by have:=hgl G hx;omega)
     refine hK.out _ _ ?_ (λhHeldL=>?_)
     ·exact λm v hv=>(hfar.1 m).trans (hHeld8 m v hv)
     clear hK K hHeld8 gA g1 g2 hfar
     (try simp only [LO,Act.put])
     refine tkH 17 ?_;(try simp only [LO,Act.put])
     refine wpAnyH_done kr ?_ _
     all_goals
      go_wp2_with fail
      go_roundw
      case rel=>exact ⟨j+1,_,_,qo,qg,rfl,HG1.out,HP4.out,HB4.out⟩
      case measure=>exact qn
    ·obtain rfl:j=s.ss.length:=by omega
     have HRS:=qh (RS wi 1 B2 (Zbk s).length d2 (Zck (Zbk s))) (by
      have:=HG3.out.rs
      rw [Zho] at this
      rw [show (Zbk s).length=3+s.ps.length+s.ss.length by rw [<- Zho,Zkp (Nat.le_refl _) (Nat.le_refl _)]]
      exact this)
     have HJL:=qh ((join (Zbk s) [10]).length<=660010) (Zmx HIS.out)
     have HLN:=qh ((Zbk s).length=3+s.ps.length+s.ss.length) (by rw [<- Zho,Zkp (Nat.le_refl _) (Nat.le_refl _)])
     have HJ:=qh (∀ wx,wx=wi->CR 45 #[.slice B2 (3+s.ps.length+s.ss.length) d2,.string ⟨#[10]⟩] wx (str (join (Zbk s) [10]))) (λwx hx=>by
      subst hx
      rw [<- HLN.out]
      exact Zln (sep:=[10]) _ HRS.out (by rw [HLN.out];omega) (by rw [HLN.out];omega) (by have:=HJL.out;omega))
     obtain ⟨Y,hY⟩:=qv (join (Zbk s) [10])
     rw [hY] at HJ HJL HF
     have s9:¬ 9223372036854775807<Y.length+1:=by have:=HJL.out;omega
     clear hY
     go_wp2_with (first|(go_at_call 45;(with_reducible refine (HJ.out _ rfl).mono ?_);rintro e wA ⟨rfl,hbA⟩)|fail)
     go_ret
     refine ⟨?_,Below.step hbA HB3.out HB3.out.size⟩
     rw [HF.out]
     show Ending.returned (Value.string (({ data:=Y.toArray }:ByteArray)++{ data:=[10].toArray }))=_
     rw [Zad]
end
end Go.Proofs.YticdknjoapdmeaaGreatDoor
