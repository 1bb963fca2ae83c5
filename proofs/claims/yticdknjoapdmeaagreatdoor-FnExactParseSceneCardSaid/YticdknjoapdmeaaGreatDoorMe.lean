/- Several texts in one: LexS, LexT, Phase, ParM, MkTxt, ParMk, ParEq, ParMw, ScM, PVec, PPat. -/
import Derived.Test.YticdknjoapdmeaaGreatDoorMc
import Derived.Test.YticdknjoapdmeaaGreatDoorMa
import Derived.BigQuiet
import Derived.Deep.Cut
import Derived.LoopTactic
import Derived.Lib.SlBytesConst
import Derived.Deep.RegionHeld3
import Derived.StillTail
import Derived.BigRegion
import Derived.Test.YticdknjoapdmeaaGreatDoorMd
set_option linter.unusedVariables false
set_option linter.unusedSimpArgs false
namespace Go.Proofs.YticdknjoapdmeaaGreatDoor
set_option maxHeartbeats 8000000
set_option maxRecDepth 100000
open Go.RowKit Go.Lib
theorem lx_at {l:List UInt8} {i:Nat} {b:UInt8} (h:l[i]? = some b):∀ hh:i<ByteArray.size ⟨l.toArray⟩,({ data:=l.toArray }:ByteArray)[i]'hh=b:=λhh=>(List.getElem?_eq_some_iff.1 h).2
theorem isDg_dec (b:UInt8):isDg b=(decide (48<=(b.toNat:Int))&&decide ((b.toNat:Int)<=57)):=by
 rw [Bool.eq_iff_iff,Zed];simp;omega
theorem isLt_dec (b:UInt8):isLt b=(decide (97<=(b.toNat:Int))&&decide ((b.toNat:Int)<=122)):=by
 rw [Bool.eq_iff_iff,isLt_nat];simp;omega
theorem S_l12Digit (b:UInt8) (w:World):Calls Tryz.prog 171 #[.int .u8 b.toNat] w λe w'=>e=.returned (.bool (isDg b))/\w=w':=by
 rw [isDg_dec]
 generalize (b.toNat:Int)=x
 by_cases h1:48<=x
 ·go_enter Tryz.func171,Tryz.ntmps171
  go_wp2_with fail
  go_ret
  exact ⟨Zad (by simp [h1]),rfl⟩
 ·go_enter Tryz.func171,Tryz.ntmps171
  go_wp2_with fail
  go_ret
  exact ⟨Zad (by simp;omega),rfl⟩
theorem S_l12Letter (b:UInt8) (w:World):Calls Tryz.prog 173 #[.int .u8 b.toNat] w λe w'=>e=.returned (.bool (isLt b))/\w=w':=by
 rw [isLt_dec]
 generalize (b.toNat:Int)=x
 by_cases h1:97<=x
 ·go_enter Tryz.func173,Tryz.ntmps173
  go_wp2_with fail
  go_ret
  exact ⟨Zad (by simp [h1]),rfl⟩
 ·go_enter Tryz.func173,Tryz.ntmps173
  go_wp2_with fail
  go_ret
  exact ⟨Zad (by simp;omega),rfl⟩
def Zcu (src:List UInt8) (a:Nat) (v:Value):Prop :=
 match numTok (src.drop a) with
 | none=>∃ (e:Nat) (n:Int),v=.tuple #[.int .i64 e,.int .i64 n,.bool false]/\a<=e/\e<=src.length
 | some (m,n)=>v=.tuple #[.int .i64 ((a+m:Nat):Int),.int .i64 (n:Int),.bool true]
theorem Zcu.no {src:List UInt8} {a e:Nat} {n:Int} (h:numTok (src.drop a)=none) (h1:a<=e) (h2:e<=src.length):Zcu src a (.tuple #[.int .i64 e,.int .i64 n,.bool false]):=by unfold Zcu;rw [h];exact ⟨e,n,rfl,h1,h2⟩
theorem Zcu.yes {src:List UInt8} {a m n:Nat} (h:numTok (src.drop a)=some (m,n)):Zcu src a (.tuple #[.int .i64 ((a+m:Nat):Int),.int .i64 (n:Int),.bool true]):=by unfold Zcu;rw [h]
theorem dig_of {b:UInt8} (h:48<=b.toNat/\b.toNat<=57):∃ d:Nat,d<=9/\IntKind.u8.wrap ((b.toNat:Int)-48)=d/\b.toNat-48=d:=by
 refine ⟨b.toNat-48,qo, ?_,rfl⟩
 rw [show (b.toNat:Int)-48=((b.toNat-48:Nat):Int) by omega]
 show IntKind.u8.wrap _=_
 unfold IntKind.wrap
 simp [IntKind.bits,IntKind.signed]
 omega
theorem S_l12Number {src:List UInt8} {a:Nat} (w:World) (ha:a<=src.length) (hs:src.length<=1048576) :
  Calls Tryz.prog 172 #[str src,.int .i64 a] w λe w'=>∃ v,e=.returned v/\Zcu src a v/\Below w.heap.size w w':=by
 have HD:=qh (∀ (b:UInt8) wx,Calls Tryz.prog 171 #[.int .u8 b.toNat] wx λe w'=>e=.returned (.bool (isDg b))/\wx=w') S_l12Digit
 have HSD:=qh (∀ j,(src.drop a)[j]? = src[a+j]?) (λj=>by rw [List.getElem?_drop])
 go_enter Tryz.func172,Tryz.ntmps172
 go_wp2_with fail
 go_loop [7,8] (λp v=>∃ i:Nat,a<=i/\i<=src.length/\i-a<=6/\p=.int .i64 i/\DG (src.drop a) (i-a)/\v=.int .i64 (valD ((src.drop a).take (i-a)):Int)) (λp _=>src.length-(RowKit.intOf p).toNat)
 case atStart=>exact ⟨a,Nat.le_refl _,ha,qo,rfl,by rw [Nat.sub_self];exact DG.zero _,by rw [Nat.sub_self];rfl⟩
 case round =>
  obtain ⟨i,hai,hil,hi6,rfl,hdg,rfl⟩:=hrel
  have hv6:valD ((src.drop a).take (i-a))<1000000:=Nat.lt_of_lt_of_le hdg.val (Nat.pow_le_pow_right qo hi6)
  have HDG:=hdQ hdg
  obtain ⟨V,hV⟩:=qv (valD ((src.drop a).take (i-a)))
  have HV:=hdQ hV
  rw [hV] at hv6 ⊢
  clear hdg hV
  have hat0:=HSD.out (i-a)
  rw [show a+(i-a)=i by omega] at hat0
  have HAT:=hdQ hat0
  clear hat0
  rcases Nat.lt_or_ge i src.length with hlt|hge
  ·obtain ⟨b,hb⟩:∃ b,src[i]? = some b:=⟨_,List.getElem?_eq_getElem hlt⟩
   have hat:=lx_at hb
   have HB:=hdQ (HAT.out.trans hb)
   have hlt':(i:Int)<src.length:=qo
   clear hb
   by_cases hdig:48<=b.toNat/\b.toNat<=57
   ·have HQ:=qh (∀ wx,Calls Tryz.prog 171 #[.int .u8 b.toNat] wx λe w'=>e=.returned (.bool true)/\wx=w') (λwx=>by have:=HD.out b wx;rw [(Zed b).2 hdig] at this;exact this)
    obtain ⟨d,hd9,hd0,hdn⟩:=dig_of hdig
    have HN:=hdQ (HDG.out.succ HB.out hdig)
    have HW:=hdQ (valD_succ HB.out)
    have hd2:IntKind.i64.wrap (d:Int)=d:=IntWalk.i64_in _ qo
    clear hdig
    by_cases h5:i-a=6
    ·have h5a:¬ (i:Int)-a<=5:=by omega
     have h5b:(4:Int)<(i:Int)-a:=qo
     have HF:=qh (numTok (src.drop a)=none) (numTok_big (by have:=HDG.out.span;omega))
     go_wp2_with (first|(go_at_call 171;refine (HQ.out _).mono ?_;rintro e w' ⟨rfl,rfl⟩)|fail)
     exact bodyPost_ret (v:=.tuple #[.int .i64 i,.int .i64 0,.bool false]) (by simp [results,Tryz.results172,go_sem]) rfl ⟨_,rfl,Zcu.no HF.out hai hil,bll⟩
    ·have h5a:(i:Int)-a<=5:=by omega
     go_wp2_with (first|(go_at_call 171;refine (HQ.out _).mono ?_;rintro e w' ⟨rfl,rfl⟩)|fail)
     go_round
     case rel=>exact ⟨i+1,qo,qo,qo,qg,by rw [show i+1-a=i-a+1 by omega];exact HN.out,by rw [show i+1-a=i-a+1 by omega,HW.out,HV.out,hdn];go_num⟩
     case measure=>exact qn
   ·have HQ:=qh (∀ wx,Calls Tryz.prog 171 #[.int .u8 b.toNat] wx λe w'=>e=.returned (.bool false)/\wx=w') (λwx=>by have:=HD.out b wx;rw [Zf7 hdig] at this;exact this)
    have HSP:=hdQ (HDG.out.span_not HB.out hdig)
    clear hdig
    by_cases h4:4<i-a
    ·have h5b:(4:Int)<(i:Int)-a:=by omega
     have HF:=qh (numTok (src.drop a)=none) (numTok_big (by rw [HSP.out];exact h4))
     go_wp2_with (first|(go_at_call 171;refine (HQ.out _).mono ?_;rintro e w' ⟨rfl,rfl⟩)|fail)
     exact bodyPost_ret (v:=.tuple #[.int .i64 i,.int .i64 0,.bool false]) (by simp [results,Tryz.results172,go_sem]) rfl ⟨_,rfl,Zcu.no HF.out hai hil,bll⟩
    ·have h5b:¬ (4:Int)<(i:Int)-a:=by omega
     have hne:((i:Int)==src.length)=false:=by simp;omega
     by_cases h46:b.toNat=46
     ·have H46:=qh ((src.drop a)[i-a]? = some 46) (by rw [HB.out];congr 1;exact UInt8.toNat_inj.1 h46)
      have HDR:=qh ((src.drop a).drop (i-a+1)=src.drop (i+1)) (by rw [List.drop_drop];congr 1;omega)
      have hi1:i+1<=src.length:=hlt
      obtain rfl:b=46:=UInt8.toNat_inj.1 h46
      have HQ46:=qh (∀ wx,Calls Tryz.prog 171 #[.int .u8 46] wx λe w'=>e=.returned (.bool false)/\wx=w') HQ.out
      clear h46
      go_wp2_with (first|(go_at_call 171;refine (HQ46.out _).mono ?_;rintro e w' ⟨rfl,rfl⟩)|fail)
      go_loop [7,10,11] (λp v u=>∃ j:Nat,i+1<=j/\j<=src.length/\j-(i+1)<=6/\p=.int .i64 j/\DG (src.drop (i+1)) (j-(i+1))/\v=.int .i64 (valD ((src.drop (i+1)).take (j-(i+1))):Int)/\u=.int .i64 ((10 ^ (j-(i+1)):Nat):Int)) (λp _ _=>src.length-(RowKit.intOf p).toNat)
      case atStart=>exact ⟨i+1,Nat.le_refl _,hi1,qo,qg,by rw [Nat.sub_self];exact DG.zero _,by rw [Nat.sub_self];rfl,by rw [Nat.sub_self];rfl⟩
      case round =>
       obtain ⟨j,haj,hjl,hj6,rfl,hdg,rfl,rfl⟩:=hrel
       have hf6:valD ((src.drop (i+1)).take (j-(i+1)))<1000000:=Nat.lt_of_lt_of_le hdg.val (Nat.pow_le_pow_right qo hj6)
       have HDG2:=hdQ hdg
       obtain ⟨F,hF⟩:=qv (valD ((src.drop (i+1)).take (j-(i+1))))
       have HFV:=hdQ hF
       rw [hF] at hf6 ⊢
       clear hdg hF hat
       have hat0:(src.drop (i+1))[j-(i+1)]? = src[j]? := by rw [List.getElem?_drop];congr 1;omega
       have HAT2:=hdQ hat0
       clear hat0
       rcases Nat.lt_or_ge j src.length with hlt2|hge
       ·obtain ⟨b2,hb2⟩:∃ b2,src[j]? = some b2:=⟨_,List.getElem?_eq_getElem hlt2⟩
        have hat2:=lx_at hb2
        have HB2:=hdQ (HAT2.out.trans hb2)
        have hlt2':(j:Int)<src.length:=qo
        clear hb2
        by_cases hdig:48<=b2.toNat/\b2.toNat<=57
        ·have HQ2:=qh (∀ wx,Calls Tryz.prog 171 #[.int .u8 b2.toNat] wx λe w'=>e=.returned (.bool true)/\wx=w') (λwx=>by have:=HD.out b2 wx;rw [(Zed b2).2 hdig] at this;exact this)
         obtain ⟨d,hd9,hd0,hdn⟩:=dig_of hdig
         have HN:=hdQ (HDG2.out.succ HB2.out hdig)
         have HW:=hdQ (valD_succ HB2.out)
         have hd2:IntKind.i64.wrap (d:Int)=d:=IntWalk.i64_in _ qo
         clear hdig
         by_cases h5:j-(i+1)=6
         ·have h5a:¬ (j:Int)-(i+1)<=5:=by omega
          have h5b:(4:Int)<(j:Int)-(i+1):=qo
          have e1:((j:Int)==((i:Int)+1))=false:=by simp;omega
          have HF:=qh (numTok (src.drop a)=none) (Zdu HSP.out H46.out rfl (by rw [HDR.out];have:=HDG2.out.span;omega))
          go_wp2_with (first|(go_at_call 171;refine (HQ.out _).mono ?_;rintro e w' ⟨rfl,rfl⟩)|(go_at_call 171;refine (HQ2.out _).mono ?_;rintro e w' ⟨rfl,rfl⟩)|fail)
          exact bodyPost_ret (v:=.tuple #[.int .i64 j,.int .i64 0,.bool false]) (by simp [results,Tryz.results172,go_sem]) rfl ⟨_,rfl,Zcu.no HF.out qo qo,bll⟩
         ·have h5a:(j:Int)-(i+1)<=5:=by omega
          have hp10:(10 ^ (j-(i+1)):Nat)<=1000000:=Nat.pow_le_pow_right (n:=10) qo hj6
          have HP10:=qh ((10 ^ (j+1-(i+1)):Nat)=10 ^ (j-(i+1))*10) (by rw [show j+1-(i+1)=j-(i+1)+1 by omega,Nat.pow_succ])
          obtain ⟨U,hU⟩:=qv (10 ^ (j-(i+1)))
          have HU:=hdQ hU
          rw [hU] at hp10 ⊢
          clear hU
          go_wp2_with (first|(go_at_call 171;refine (HQ.out _).mono ?_;rintro e w' ⟨rfl,rfl⟩)|(go_at_call 171;refine (HQ2.out _).mono ?_;rintro e w' ⟨rfl,rfl⟩)|fail)
          go_round
          case rel=>exact ⟨j+1,qo,qo,qo,qg,by rw [show j+1-(i+1)=j-(i+1)+1 by omega];exact HN.out,by rw [show j+1-(i+1)=j-(i+1)+1 by omega,HW.out,HFV.out,hdn];go_num,by rw [HP10.out,HU.out];go_num⟩
          case measure=>exact qn
        ·have HQ2:=qh (∀ wx,Calls Tryz.prog 171 #[.int .u8 b2.toNat] wx λe w'=>e=.returned (.bool false)/\wx=w') (λwx=>by have:=HD.out b2 wx;rw [Zf7 hdig] at this;exact this)
         have HSP2:=qh (Zba isDg ((src.drop a).drop (i-a+1))=j-(i+1)) (by rw [HDR.out];exact HDG2.out.span_not HB2.out hdig)
         clear hdig
         rcases (show j-(i+1)<1∨4<j-(i+1)∨(1<=j-(i+1)/\j-(i+1)<=4) by omega) with h7|h7|⟨h7,h8⟩
         ·have HF:=qh (numTok (src.drop a)=none) (Zdu HSP.out H46.out HSP2.out (.inl h7))
          have e1:((j:Int)==((i:Int)+1))=true:=by simp;omega
          go_wp2_with (first|(go_at_call 171;refine (HQ.out _).mono ?_;rintro e w' ⟨rfl,rfl⟩)|(go_at_call 171;refine (HQ2.out _).mono ?_;rintro e w' ⟨rfl,rfl⟩)|fail)
          exact bodyPost_ret (v:=.tuple #[.int .i64 j,.int .i64 0,.bool false]) (by simp [results,Tryz.results172,go_sem]) rfl ⟨_,rfl,Zcu.no HF.out qo qo,bll⟩
         ·have HF:=qh (numTok (src.drop a)=none) (Zdu HSP.out H46.out HSP2.out (.inr h7))
          have e1:((j:Int)==((i:Int)+1))=false:=by simp;omega
          have e2:(4:Int)<(j:Int)-(i+1):=qo
          go_wp2_with (first|(go_at_call 171;refine (HQ.out _).mono ?_;rintro e w' ⟨rfl,rfl⟩)|(go_at_call 171;refine (HQ2.out _).mono ?_;rintro e w' ⟨rfl,rfl⟩)|fail)
          exact bodyPost_ret (v:=.tuple #[.int .i64 j,.int .i64 0,.bool false]) (by simp [results,Tryz.results172,go_sem]) rfl ⟨_,rfl,Zcu.no HF.out qo qo,bll⟩
         ·have HF:=qh (numTok (src.drop a)=some (i-a+1+(j-(i+1)),V*256+F*256 / 10 ^ (j-(i+1)))) (by have:=numTok_dot HSP.out h4 H46.out HSP2.out qo;rw [HV.out,HDR.out,HFV.out] at this;exact this)
          obtain ⟨U,hU⟩:=qv (10 ^ (j-(i+1)))
          have hU0:0<U:=by rw [<- hU];exact Nat.pow_pos qo
          have hU1:U<=10000:=by rw [<- hU];exact Nat.pow_le_pow_right qo h8
          rw [hU] at HF
          rw [hU]
          have hU2:¬ U=0:=qo
          have hdl:F*256 / U<=F*256:=Nat.div_le_self _ _
          obtain ⟨Q,hQn⟩:=qv (F*256 / U)
          have hQl:Q<=F*256:=by rw [<- hQn];exact hdl
          have hQ:(F:Int)*256 / U=(Q:Int):=by rw [<- hQn];simp
          have hww:IntKind.i64.wrap ((V:Int)*256+IntKind.i64.wrap ((F:Int)*256 / U))=(V:Int)*256+(F:Int)*256 / U:=by rw [hQ,IntWalk.i64_in (Q:Int) qo,IntWalk.i64_in ((V:Int)*256+Q) qo]
          have hdv:Int.tdiv ((F:Int)*256) U=((F*256 / U:Nat):Int):=by rw [show ((F:Int)*256)=((F*256:Nat):Int) by omega];rfl
          have e1:((j:Int)==((i:Int)+1))=false:=by simp;omega
          have e2:¬ (4:Int)<(j:Int)-(i+1):=qo
          clear hU
          go_upto_region 20 with (first|(go_at_call 171;refine (HQ.out _).mono ?_;rintro e w' ⟨rfl,rfl⟩)|(go_at_call 171;refine (HQ2.out _).mono ?_;rintro e w' ⟨rfl,rfl⟩)|fail)
          go_quiet (fail)
          (try go_wp2_with fail)
          exact bodyPost_ret (v:=.tuple #[.int .i64 j,.int .i64 ((V*256+F*256 / U:Nat):Int),.bool true]) (by simp [results,Tryz.results172,go_sem,hdv];exact hQ.symm) rfl ⟨_,rfl,by have:=Zcu.yes HF.out;rw [show a+(i-a+1+(j-(i+1)))=j by omega] at this;exact this,bll⟩
       ·obtain ⟨n,hn⟩:=qv (src.length)
        obtain rfl:j=src.length:=qo
        have HSP2:=qh (Zba isDg ((src.drop a).drop (i-a+1))=src.length-(i+1)) (by rw [HDR.out];exact HDG2.out.span_end (by rw [HAT2.out];exact List.getElem?_eq_none (Nat.le_refl _)))
        clear hn
        rcases (show src.length-(i+1)<1∨4<src.length-(i+1)∨(1<=src.length-(i+1)/\src.length-(i+1)<=4) by omega) with h7|h7|⟨h7,h8⟩
        ·have HF:=qh (numTok (src.drop a)=none) (Zdu HSP.out H46.out HSP2.out (.inl h7))
         have e1:((src.length:Int)==((i:Int)+1))=true:=by simp;omega
         go_wp2_with fail
         exact bodyPost_ret (v:=.tuple #[.int .i64 src.length,.int .i64 0,.bool false]) (by simp [results,Tryz.results172,go_sem]) rfl ⟨_,rfl,Zcu.no HF.out qo qo,bll⟩
        ·have HF:=qh (numTok (src.drop a)=none) (Zdu HSP.out H46.out HSP2.out (.inr h7))
         have e1:((src.length:Int)==((i:Int)+1))=false:=by simp;omega
         have e2:(4:Int)<(src.length:Int)-(i+1):=qo
         go_wp2_with fail
         exact bodyPost_ret (v:=.tuple #[.int .i64 src.length,.int .i64 0,.bool false]) (by simp [results,Tryz.results172,go_sem]) rfl ⟨_,rfl,Zcu.no HF.out qo qo,bll⟩
        ·have HF:=qh (numTok (src.drop a)=some (i-a+1+(src.length-(i+1)),V*256+F*256 / 10 ^ (src.length-(i+1)))) (by have:=numTok_dot HSP.out h4 H46.out HSP2.out qo;rw [HV.out,HDR.out,HFV.out] at this;exact this)
         obtain ⟨U,hU⟩:=qv (10 ^ (src.length-(i+1)))
         have hU0:0<U:=by rw [<- hU];exact Nat.pow_pos qo
         have hU1:U<=10000:=by rw [<- hU];exact Nat.pow_le_pow_right qo h8
         rw [hU] at HF
         rw [hU]
         have hU2:¬ U=0:=qo
         have hdl:F*256 / U<=F*256:=Nat.div_le_self _ _
         obtain ⟨Q,hQn⟩:=qv (F*256 / U)
         have hQl:Q<=F*256:=by rw [<- hQn];exact hdl
         have hQ:(F:Int)*256 / U=(Q:Int):=by rw [<- hQn];simp
         have hww:IntKind.i64.wrap ((V:Int)*256+IntKind.i64.wrap ((F:Int)*256 / U))=(V:Int)*256+(F:Int)*256 / U:=by rw [hQ,IntWalk.i64_in (Q:Int) qo,IntWalk.i64_in ((V:Int)*256+Q) qo]
         have hdv:Int.tdiv ((F:Int)*256) U=((F*256 / U:Nat):Int):=by rw [show ((F:Int)*256)=((F*256:Nat):Int) by omega];rfl
         have e1:((src.length:Int)==((i:Int)+1))=false:=by simp;omega
         have e2:¬ (4:Int)<(src.length:Int)-(i+1):=qo
         clear hU
         go_upto_region 20 with fail
         go_quiet (fail)
         (try go_wp2_with fail)
         exact bodyPost_ret (v:=.tuple #[.int .i64 src.length,.int .i64 ((V*256+F*256 / U:Nat):Int),.bool true]) (by simp [results,Tryz.results172,go_sem,hdv];exact hQ.symm) rfl ⟨_,rfl,by have:=Zcu.yes HF.out;rw [show a+(i-a+1+(src.length-(i+1)))=src.length by omega] at this;exact this,bll⟩
     ·have HF:=qh (numTok (src.drop a)=some (i-a,V*256)) (by have:=numTok_int HSP.out h4 (by rw [HB.out];intro e;injection e with e;subst e;exact h46 rfl);rw [HV.out] at this;exact this)
      have h46':((b.toNat:Int) != 46)=true:=by simp;omega
      go_wp2_with (first|(go_at_call 171;refine (HQ.out _).mono ?_;rintro e w' ⟨rfl,rfl⟩)|fail)
      exact bodyPost_ret (v:=.tuple #[.int .i64 i,.int .i64 ((V*256:Nat):Int),.bool true]) (by simp [results,Tryz.results172,go_sem]) rfl ⟨_,rfl,by have:=Zcu.yes HF.out;rw [show a+(i-a)=i by omega] at this;exact this,bll⟩
  ·obtain rfl:i=src.length:=by omega
   have HSP:=hdQ (HDG.out.span_end (by rw [HAT.out];exact List.getElem?_eq_none (Nat.le_refl _)))
   by_cases h4:4<src.length-a
   ·have h5b:(4:Int)<(src.length:Int)-a:=by omega
    have HF:=qh (numTok (src.drop a)=none) (numTok_big (by rw [HSP.out];exact h4))
    go_wp2_with fail
    exact bodyPost_ret (v:=.tuple #[.int .i64 src.length,.int .i64 0,.bool false]) (by simp [results,Tryz.results172,go_sem]) rfl ⟨_,rfl,Zcu.no HF.out hai hil,bll⟩
   ·have h5b:¬ (4:Int)<(src.length:Int)-a:=by omega
    have HF:=qh (numTok (src.drop a)=some (src.length-a,V*256)) (by have:=numTok_int HSP.out h4 (by rw [HAT.out,List.getElem?_eq_none (Nat.le_refl _)];simp);rw [HV.out] at this;exact this)
    have hne:((src.length:Int)==src.length)=true:=qs
    go_wp2_with fail
    exact bodyPost_ret (v:=.tuple #[.int .i64 src.length,.int .i64 ((V*256:Nat):Int),.bool true]) (by simp [results,Tryz.results172,go_sem]) rfl ⟨_,rfl,by have:=Zcu.yes HF.out;rw [show a+(src.length-a)=src.length by omega] at this;exact this,bll⟩
abbrev tokV (x:Zaq):Value:=.agg #[.int .i64 x.1,str x.2.1,.int .i64 x.2.2.1,.int .i64 x.2.2.2]
def cTok (x:Zaq):List Value:=[.int .i64 x.1,str x.2.1,.int .i64 x.2.2.1,.int .i64 x.2.2.2]
abbrev rTok (l:List Zaq):List Value:=rowOf cTok l
theorem rTok_at {l:List Zaq} {k:Nat} (hk:k<l.length):(rTok l)[k*4]? = some (.int .i64 l[k].1)/\(rTok l)[k*4+1]? = some (str l[k].2.1)/\(rTok l)[k*4+2]? = some (.int .i64 l[k].2.2.1)/\(rTok l)[k*4+3]? = some (.int .i64 l[k].2.2.2):=by
 have h:=rowOf_at (f:=cTok) (s:=4) (λ_=>rfl) l k
 exact ⟨h 0 hk qo,h 1 hk qo,h 2 hk qo,h 3 hk qo⟩
theorem rTok_one (l:List Zaq):∀ u∈rTok l,u.oneCell'=true:=by
 intro u hu
 obtain ⟨x,_,hx⟩:=List.mem_flatMap.1 hu
 simp only [cTok,List.mem_cons,List.not_mem_nil,or_false] at hx
 rcases hx with rfl|rfl|rfl|rfl<;>rfl
theorem rTok_snoc (l:List Zaq) (x:Zaq):rTok l++rTok [x]=rTok (l++[x]):=by simp [rTok,rowOf]
theorem lex_extract (l:List UInt8) (a b:Nat):({ data:=l.toArray }:ByteArray).extract a b=⟨((l.take b).drop a).toArray⟩:=by
 apply ByteArray.ext
 rw [ByteArray.data_extract]
 apply Array.ext'
 simp [List.extract_eq_take_drop,List.drop_take]
theorem Zf5 (l:List UInt8) (a m:Nat):({ data:=l.toArray }:ByteArray).extract a (a+m)=⟨((l.drop a).take m).toArray⟩:=by
 rw [lex_extract,List.drop_take]
 congr 3;omega
def Zch (src:List UInt8) (a:Nat) (v:Value):Prop :=
 match Zau (src.drop a) with
 | none=>∃ (x:Zaq) (e:Nat),v=.tuple #[tokV x,.int .i64 e,.bool false]
 | some (k,m,n)=>v=.tuple #[tokV (k,(src.drop a).take m,(n:Int),(a:Int)),.int .i64 ((a+m:Nat):Int),.bool true]
theorem Zch.no {src:List UInt8} {a e:Nat} {x:Zaq} (h:Zau (src.drop a)=none):Zch src a (.tuple #[tokV x,.int .i64 e,.bool false]):=by unfold Zch;rw [h];exact ⟨x,e,rfl⟩
theorem Zch.yes {src:List UInt8} {a m n:Nat} {k:Int} (h:Zau (src.drop a)=some (k,m,n)):Zch src a (.tuple #[tokV (k,(src.drop a).take m,(n:Int),(a:Int)),.int .i64 ((a+m:Nat):Int),.bool true]):=by unfold Zch;rw [h]
theorem drop_head {src:List UInt8} {a:Nat} {b:UInt8} (h:src[a]? = some b):∃ l,src.drop a=b::l:=by
 obtain ⟨hl,rfl⟩:=List.getElem?_eq_some_iff.1 h
 exact ⟨_,List.drop_eq_getElem_cons hl⟩
theorem scan_num {l:List UInt8} {b:UInt8} (h:∃ q,l=b::q) (hd:isDg b=true):Zau l=(numTok l).map λx=>(1,x.1,x.2):=by
 obtain ⟨q,rfl⟩:=h
 unfold Zau
 simp only [hd,if_true]
def isNm (c:UInt8):Bool:=isLt c||isDg c
theorem scan_name {l:List UInt8} {b:UInt8} (h:∃ q,l=b::q) (hd:isDg b=false) (hl:isLt b=true):Zau l=if 8<Zba isNm l then none else some (2,Zba isNm l,0):=by
 obtain ⟨q,rfl⟩:=h
 unfold Zau
 simp only [hd,hl,if_true,Bool.false_eq_true,if_false]
 rfl
theorem scan_sym {l:List UInt8} {b:UInt8} (h:∃ q,l=b::q) (hd:isDg b=false) (hl:isLt b=false):Zau l=if isSy b then some (3,1,0) else none:=by
 obtain ⟨q,rfl⟩:=h
 unfold Zau
 simp only [hd,hl,Bool.false_eq_true,if_false]
def NG (l:List UInt8) (k:Nat):Prop:=∀ j,j<k->∃ b,l[j]? = some b/\isNm b=true
theorem NG.succ {l:List UInt8} {k:Nat} {b:UInt8} (h:NG l k) (hb:l[k]? = some b) (hd:isNm b=true):NG l (k+1):=by
 intro j hj
 by_cases e:j=k
 ·subst e;exact ⟨b,hb,hd⟩
 ·exact h j qo
theorem isSy_yes {k:Nat} {x:UInt8} (h:symB[k]? = some x):isSy x=true:=by
 unfold isSy
 rw [List.contains_iff_mem]
 exact List.mem_of_getElem? h
theorem isSy_no {b:UInt8} (h:∀ j,j<9->symB[j]? ≠ some b):isSy b=false:=by
 cases hs:isSy b with
 | false=>rfl
 | true =>
  unfold isSy at hs
  rw [List.contains_iff_mem] at hs
  obtain ⟨j,hj,e⟩:=List.mem_iff_getElem.1 hs
  exact absurd (by rw [List.getElem?_eq_getElem hj,e]) (h j hj)
theorem sym_cell (w:World) (X:Obj) (e:TypeId) {k:Nat} {x:UInt8} (h:symB[k]? = some x) :
  ((w.alloc X).alloc (.cells #[.int .u8 43,.int .u8 45,.int .u8 42,.int .u8 47,.int .u8 40,.int .u8 41,.int .u8 44,.int .u8 61,.int .u8 59] e (9,10))).cell? ⟨w.heap.size+1,k,none⟩=some (.int .u8 x.toNat):=by
 have hh:=heap_alloc_new (w.alloc X) (.cells #[.int .u8 43,.int .u8 45,.int .u8 42,.int .u8 47,.int .u8 40,.int .u8 41,.int .u8 44,.int .u8 61,.int .u8 59] e (9,10))
 rw [World.size_alloc] at hh
 have hs:(#[.int .u8 43,.int .u8 45,.int .u8 42,.int .u8 47,.int .u8 40,.int .u8 41,.int .u8 44,.int .u8 61,.int .u8 59]:Array Value)=(symB.map (λb=>Value.int .u8 b.toNat)).toArray:=rfl
 have e2:(symB.map (λb=>Value.int .u8 b.toNat))[k]? = some (.int .u8 x.toNat):=by rw [List.getElem?_map,h];rfl
 unfold World.cell?
 dsimp only
 rw [hh,hs]
 show (symB.map (λb=>Value.int .u8 b.toNat)).toArray[k]? = _
 rw [List.getElem?_toArray]
 exact e2
theorem symB_at {k:Nat} (hk:k<9):∃ x,symB[k]? = some x:=⟨_,List.getElem?_eq_getElem hk⟩
theorem T.infoToken:(Tryz.prog.info? 101).map (λi=>(i.zero,i.size,i.bytes))=some (some (.agg #[.int .i64 0,.string ByteArray.empty,.int .i64 0,.int .i64 0]),4,40):=kr
theorem S_l12Scan {src:List UInt8} {a:Nat} (w:World) (ha:a<src.length) (hs:src.length<=1048576) :
  Calls Tryz.prog 120 #[str src,.int .i64 a] w λe w'=>∃ v,e=.returned v/\Zch src a v/\Below w.heap.size w w':=by
 obtain ⟨b,hb⟩:∃ b,src[a]? = some b:=⟨_,List.getElem?_eq_getElem ha⟩
 have hat:=lx_at hb
 have HQ:=hdQ (drop_head hb)
 have ha':(a:Int)<src.length:=qo
 clear hb
 have HDG:=qh (∀ (b:UInt8) wx,Calls Tryz.prog 171 #[.int .u8 b.toNat] wx λe w'=>e=.returned (.bool (isDg b))/\wx=w') S_l12Digit
 have HLT:=qh (∀ (b:UInt8) wx,Calls Tryz.prog 173 #[.int .u8 b.toNat] wx λe w'=>e=.returned (.bool (isLt b))/\wx=w') S_l12Letter
 cases hd:isDg b with
 | true =>
  have HD1:=qh (∀ wx,Calls Tryz.prog 171 #[.int .u8 b.toNat] wx λe w'=>e=.returned (.bool true)/\wx=w') (λwx=>by have:=HDG.out b wx;rw [hd] at this;exact this)
  have HSC:=hdQ (scan_num HQ.out hd)
  have HNU:=qh (∀ wx,Calls Tryz.prog 172 #[str src,.int .i64 a] wx λe w'=>∃ v,e=.returned v/\Zcu src a v/\Below wx.heap.size wx w') (λwx=>S_l12Number wx (Nat.le_of_lt ha) hs)
  clear hd
  go_enter Tryz.func120,Tryz.ntmps120
  go_wp2_with (first|(go_at_call 171;refine (HD1.out _).mono ?_;rintro e w' ⟨rfl,rfl⟩)|fail)
  refine (HNU.out _).mono ?_
  rintro e w1 ⟨v,rfl,hv,hb1⟩
  have hz1:=hb1.size
  (try simp at hz1)
  have c0:∀ o,w1.cell? ⟨w.heap.size,o,none⟩=_:=λo=>hb1.cell (p:=⟨w.heap.size,o,none⟩) qs
  have f0:∀ o,w1.frozen? ⟨w.heap.size,o,none⟩=_:=λo=>hb1.frozen (p:=⟨w.heap.size,o,none⟩) qs
  have HB1:=bh w hb1
  clear hb1
  unfold Zcu at hv
  cases hn:numTok (src.drop a) with
  | none =>
   rw [hn] at hv
   obtain ⟨e,n,rfl,he1,he2⟩:=hv
   have HF:=qh (Zau (src.drop a)=none) (by rw [HSC.out,hn];rfl)
   have i1:(a:Int)<=e:=qo
   have i2:(e:Int)<=src.length:=qo
   obtain ⟨u,hu⟩:=qv ((src.take e).drop a)
   have hex:({ data:=src.toArray }:ByteArray).extract a e=⟨u.toArray⟩:=by rw [lex_extract,hu]
   clear hn hu
   go_wp2_with fail
   exact bodyPost_ret (v:=.tuple #[tokV (1,u,n,(a:Int)),.int .i64 e,.bool false]) (by simp [results,Tryz.results120,go_sem, *]) rfl ⟨_,rfl,Zch.no HF.out,bll⟩
  | some x =>
   obtain ⟨m,n⟩:=x
   rw [hn] at hv
   dsimp only at hv
   subst hv
   have HF:=qh (Zau (src.drop a)=some (1,m,n)) (by rw [HSC.out,hn];rfl)
   have hm:=(numTok_len hn).1
   rw [List.length_drop] at hm
   have hex:({ data:=src.toArray }:ByteArray).extract a (a+m)=⟨((src.drop a).take m).toArray⟩:=Zf5 _ _ _
   have i1:(a:Int)<=((a+m:Nat):Int):=qo
   have i2:((a+m:Nat):Int)<=src.length:=qo
   obtain ⟨E,hE⟩:=qv (a+m)
   have HE:=hdQ hE
   rw [hE] at i1 i2 hex ⊢
   obtain ⟨u,hu⟩:=qv ((src.drop a).take m)
   have HU:=hdQ hu
   rw [hu] at hex
   clear hn hE hu
   go_wp2_with fail
   exact bodyPost_ret (v:=.tuple #[tokV (1,u,(n:Int),(a:Int)),.int .i64 E,.bool true]) (by simp [results,Tryz.results120,go_sem, *]) rfl ⟨_,rfl,by have:=Zch.yes HF.out;rw [HE.out,HU.out] at this;exact this,bll⟩
 | false =>
  have HD0:=qh (∀ wx,Calls Tryz.prog 171 #[.int .u8 b.toNat] wx λe w'=>e=.returned (.bool false)/\wx=w') (λwx=>by have:=HDG.out b wx;rw [hd] at this;exact this)
  cases hl:isLt b with
  | true =>
   have HL1:=qh (∀ wx,Calls Tryz.prog 173 #[.int .u8 b.toNat] wx λe w'=>e=.returned (.bool true)/\wx=w') (λwx=>by have:=HLT.out b wx;rw [hl] at this;exact this)
   have HSC:=hdQ (scan_name HQ.out hd hl)
   clear hd hl
   go_enter Tryz.func120,Tryz.ntmps120
   go_wp2_with (first|(go_at_call 171;refine (HD0.out _).mono ?_;rintro e w' ⟨rfl,rfl⟩)|(go_at_call 173;refine (HL1.out _).mono ?_;rintro e w' ⟨rfl,rfl⟩)|fail)
   go_loop [11] (λp=>∃ i:Nat,a<=i/\i<=src.length/\p=.int .i64 i/\NG (src.drop a) (i-a)) (λp=>src.length-(RowKit.intOf p).toNat)
   case atStart=>exact ⟨a,Nat.le_refl _,qo,rfl,by rw [Nat.sub_self];exact λj hj=>absurd hj qo⟩
   case round =>
    obtain ⟨i,hai,hil,rfl,hng⟩:=hrel
    have HNG:=hdQ hng
    clear hng
    have hat0:(src.drop a)[i-a]? = src[i]? := by rw [List.getElem?_drop];congr 1;omega
    have HAT:=hdQ hat0
    clear hat0
    have FIN:=qh (∀ u:List UInt8,u=(src.take i).drop a->Zba isNm (src.drop a)=i-a->Zch src a (.tuple #[tokV (2,u,0,(a:Int)),.int .i64 i,.bool (decide ((i:Int)-a<=8))])) (λu hu hsp=>by
     by_cases h8:8<i-a
     ·rw [decide_eq_false qo]
      exact Zch.no (by rw [HSC.out,hsp,if_pos h8])
     ·rw [decide_eq_true qo]
      have:=Zch.yes (src:=src) (a:=a) (m:=i-a) (n:=0) (k:=2) (by rw [HSC.out,hsp,if_neg h8])
      rw [show a+(i-a)=i by omega,<- List.drop_take,<- hu] at this
      exact this)
    obtain ⟨u,hu⟩:=qv ((src.take i).drop a)
    have HU:=hdQ hu
    have hex:({ data:=src.toArray }:ByteArray).extract a i=⟨u.toArray⟩:=by rw [lex_extract,hu]
    clear hu
    have i1:(a:Int)<=i:=qo
    have i2:(i:Int)<=src.length:=qo
    rcases Nat.lt_or_ge i src.length with hlt|hge
    ·obtain ⟨c,hc⟩:∃ c,src[i]? = some c:=⟨_,List.getElem?_eq_getElem hlt⟩
     have hatc:=lx_at hc
     have HC:=hdQ (HAT.out.trans hc)
     have hlt':(i:Int)<src.length:=qo
     clear hc
     have ARM:=qh (∀ wx,Calls Tryz.prog 171 #[.int .u8 c.toNat] wx λe w'=>e=.returned (.bool (isDg c))/\wx=w') (HDG.out c)
     cases hcl:isLt c with
     | true =>
      have HNX:=hdQ (HNG.out.succ HC.out (by unfold isNm;rw [hcl];rfl))
      have HLc:=qh (∀ wx,Calls Tryz.prog 173 #[.int .u8 c.toNat] wx λe w'=>e=.returned (.bool true)/\wx=w') (λwx=>by have:=HLT.out c wx;rw [hcl] at this;exact this)
      clear hcl
      go_wp2_with (first|(go_at_call 173;refine (HLc.out _).mono ?_;rintro e w' ⟨rfl,rfl⟩)|fail)
      go_round
      case rel=>exact ⟨i+1,qo,qo,qg,by rw [show i+1-a=i-a+1 by omega];exact HNX.out⟩
      case measure=>exact qn
     | false =>
      have HLc:=qh (∀ wx,Calls Tryz.prog 173 #[.int .u8 c.toNat] wx λe w'=>e=.returned (.bool false)/\wx=w') (λwx=>by have:=HLT.out c wx;rw [hcl] at this;exact this)
      cases hcd:isDg c with
      | true =>
       have HNX:=hdQ (HNG.out.succ HC.out (by unfold isNm;rw [hcl,hcd];rfl))
       have HDc:=qh (∀ wx,Calls Tryz.prog 171 #[.int .u8 c.toNat] wx λe w'=>e=.returned (.bool true)/\wx=w') (λwx=>by have:=HDG.out c wx;rw [hcd] at this;exact this)
       clear hcl hcd
       go_wp2_with (first|(go_at_call 173;refine (HLc.out _).mono ?_;rintro e w' ⟨rfl,rfl⟩)|(go_at_call 171;refine (HDc.out _).mono ?_;rintro e w' ⟨rfl,rfl⟩)|fail)
       go_round
       case rel=>exact ⟨i+1,qo,qo,qg,by rw [show i+1-a=i-a+1 by omega];exact HNX.out⟩
       case measure=>exact qn
      | false =>
       have HSP:=qh (Zba isNm (src.drop a)=i-a) (Zfx HNG.out (λc' hc'=>by rw [HC.out] at hc';injection hc' with hc';subst hc';unfold isNm;rw [hcl,hcd];rfl))
       have HDc:=qh (∀ wx,Calls Tryz.prog 171 #[.int .u8 c.toNat] wx λe w'=>e=.returned (.bool false)/\wx=w') (λwx=>by have:=HDG.out c wx;rw [hcd] at this;exact this)
       clear hcl hcd
       go_wp2_with (first|(go_at_call 173;refine (HLc.out _).mono ?_;rintro e w' ⟨rfl,rfl⟩)|(go_at_call 171;refine (HDc.out _).mono ?_;rintro e w' ⟨rfl,rfl⟩)|fail)
       exact bodyPost_ret (v:=.tuple #[tokV (2,u,0,(a:Int)),.int .i64 i,.bool (decide ((i:Int)-a<=8))]) (by simp [results,Tryz.results120,go_sem, *]) rfl ⟨_,rfl,FIN.out u HU.out.symm HSP.out,bll⟩
    ·obtain rfl:i=src.length:=by omega
     have HSP:=qh (Zba isNm (src.drop a)=src.length-a) (Zfx HNG.out (λc' hc'=>by rw [HAT.out,List.getElem?_eq_none (Nat.le_refl _)] at hc';cases hc'))
     go_wp2_with fail
     exact bodyPost_ret (v:=.tuple #[tokV (2,u,0,(a:Int)),.int .i64 src.length,.bool (decide ((src.length:Int)-a<=8))]) (by simp [results,Tryz.results120,go_sem, *]) rfl ⟨_,rfl,FIN.out u HU.out.symm HSP.out,bll⟩
  | false =>
   have HL0:=qh (∀ wx,Calls Tryz.prog 173 #[.int .u8 b.toNat] wx λe w'=>e=.returned (.bool false)/\wx=w') (λwx=>by have:=HLT.out b wx;rw [hl] at this;exact this)
   have HSC:=hdQ (scan_sym HQ.out hd hl)
   clear hd hl
   have kc:∀ (X:Obj) (C:Array Value) (n c:Nat),(convert 36 36 (.slice (some ⟨w.heap.size+1,0,none⟩) n c)).run Tryz.prog ((w.alloc X).alloc (.cells C 5))=.ok (.slice (some ⟨w.heap.size+1,0,none⟩) n c) ((w.alloc X).alloc (.cells C 5 (C.size,C.size+1))):=λX C n c=>by
    have:=Lib.run_convert_bytes_const (P:=Tryz.prog) (w.alloc X) 36 5 C n c Tryz.underlying36 Tryz.underlying5
    rwa [World.size_alloc] at this
   go_enter Tryz.func120,Tryz.ntmps120
   go_wp2_with (first|(go_at_call 171;refine (HD0.out _).mono ?_;rintro e w' ⟨rfl,rfl⟩)|(go_at_call 173;refine (HL0.out _).mono ?_;rintro e w' ⟨rfl,rfl⟩)|fail)
   go_loop [13,70] (λ_ p=>∃ k:Nat,k<=9/\p=.int .i64 k/\∀ j,j<k->symB[j]? ≠ some b) (λ_ p=>9-(RowKit.intOf p).toNat)
   case atStart=>exact ⟨0,qo,rfl,λj hj=>absurd hj qo⟩
   case round =>
    obtain ⟨k,hk9,rfl,hno⟩:=hrel
    have HNO:=hdQ hno
    clear hno
    by_cases hk:k<9
    ·obtain ⟨x,hx⟩:=symB_at hk
     have hc:=sym_cell w (.cells #[.int .i64 0,.string ⟨#[]⟩,.int .i64 0,.int .i64 0] 101) 5 hx
     have hk':(k:Int)<9:=qo
     by_cases e:x=b
     ·subst e
      have HF:=qh (Zau (src.drop a)=some (3,1,0)) (by rw [HSC.out,if_pos (isSy_yes hx)])
      have hex:({ data:=src.toArray }:ByteArray).extract a (a+1)=⟨((src.drop a).take 1).toArray⟩:=Zf5 _ _ _
      obtain ⟨u,hu⟩:=qv ((src.drop a).take 1)
      have HU:=hdQ hu
      rw [hu] at hex
      clear hu hx
      have i1:(a:Int)+1<=src.length:=qo
      go_wp2_with fail
      exact bodyPost_ret (v:=.tuple #[tokV (3,u,0,(a:Int)),.int .i64 ((a+1:Nat):Int),.bool true]) (by simp [results,Tryz.results120,go_sem, *]) rfl ⟨_,rfl,by have:=Zch.yes HF.out;rw [HU.out] at this;exact this,bll⟩
     ·have e':((x.toNat:Int)==b.toNat)=false:=by
       rw [beq_eq_false_iff_ne];intro h;exact e (UInt8.toNat_inj.1 qo)
      have HN:=qh (∀ j,j<k+1->symB[j]? ≠ some b) (λj hj=>by
       by_cases ej:j=k
       ·subst ej;rw [hx];intro h;injection h with h;exact e h
       ·exact HNO.out j qo)
      clear hx
      go_wp2_with fail
      go_round
      case rel=>exact ⟨k+1,qo,qg,HN.out⟩
      case measure=>exact qn
    ·obtain rfl:k=9:=by omega
     have HF:=qh (Zau (src.drop a)=none) (by rw [HSC.out,isSy_no HNO.out];rfl)
     go_wp2_with fail
     exact bodyPost_ret (v:=.tuple #[tokV (0,[],0,0),.int .i64 a,.bool false]) (by simp [results,Tryz.results120,go_sem, *]) rfl ⟨_,rfl,Zch.no HF.out,bll⟩
def TkTo (src:List UInt8) (a:Nat) (l:List Zaq):Prop:=l.length<=a/\∀ n,src.length<a+n->tokz src n a l=tokz src (src.length+1) 0 []
theorem TkTo.zero (src:List UInt8):TkTo src 0 []:=⟨Nat.le_refl _,λn h=>tokz_fuel _ _ _ _ h qo⟩
theorem TkTo.space {src:List UInt8} {a:Nat} {l:List Zaq} {b:UInt8} (h:TkTo src a l) (hb:src[a]? = some b) (hs:isSp b=true):TkTo src (a+1) l :=
 ⟨by have:=h.1;omega,λn hn=>by rw [<- h.2 (n+1) qo,Zck hb hs]⟩
theorem TkTo.tok {src:List UInt8} {a m v:Nat} {k:Int} {l:List Zaq} {b:UInt8} (h:TkTo src a l) (hb:src[a]? = some b) (hs:isSp b=false) (hk:Zau (src.drop a)=some (k,m,v)):TkTo src (a+m) (l++[(k,(src.drop a).take m,(v:Int),(a:Int))]) :=
 ⟨by have:=h.1;have:=Zcf hk;simp;omega,λn hn=>by
  rw [<- h.2 (n+m) qo]
  have:=Zcf hk
  obtain ⟨j,rfl⟩:∃ j,m=j+1:=⟨m-1,qo⟩
  rw [show n+(j+1)=(n+j)+1 by omega,Zex hb hs hk]
  exact tokz_fuel _ _ _ _ qo qo⟩
theorem TkTo.bad {src:List UInt8} {a:Nat} {l:List Zaq} {b:UInt8} (h:TkTo src a l) (hlen:¬ 2000<src.length) (hb:src[a]? = some b) (hs:isSp b=false) (hk:Zau (src.drop a)=none):toksF src=.error a:=by
 unfold toksF
 rw [if_neg hlen,<- h.2 (src.length+1) qo,Zfw hb hs hk]
 rfl
theorem TkTo.done {src:List UInt8} {l:List Zaq} (h:TkTo src src.length l) (hlen:¬ 2000<src.length):toksF src=.ok (l++[(0,[],0,(src.length:Int))]):=by
 unfold toksF
 rw [if_neg hlen,<- h.2 1 qo,Zd0 (Nat.le_refl _)]
 rfl
theorem toksF_long {src:List UInt8} (h:2000<src.length):toksF src=.error 0:=by unfold toksF;rw [if_pos h]
def Zcb (src:List UInt8) (t:TypeId) (w:World) (e:Ending) (w':World):Prop :=
 match toksF src with
 | .error o=>e=.returned (.tuple #[.slice none 0 0,.int .i64 o])/\Below w.heap.size w w'
 | .ok T=>∃ A c,e=.returned (.tuple #[.slice A T.length c,.int .i64 (-1)])/\Zah w' w.heap.size t 4 A T.length c (rTok T)/\Below w.heap.size w w'
theorem Zcb.no {src:List UInt8} {t:TypeId} {w w':World} {o:Nat} (h:toksF src=.error o) (hb:Below w.heap.size w w'):Zcb src t w (.returned (.tuple #[.slice none 0 0,.int .i64 o])) w':=by
 unfold Zcb;rw [h];exact ⟨rfl,hb⟩
theorem Zcb.yes {src:List UInt8} {t:TypeId} {w w':World} {T:List Zaq} {A:Option Addr} {n c:Nat} (h:toksF src=.ok T) (hn:n=T.length) (hg:Zah w' w.heap.size t 4 A n c (rTok T)) (hb:Below w.heap.size w w'):Zcb src t w (.returned (.tuple #[.slice A n c,.int .i64 (-1)])) w':=by
 subst hn;unfold Zcb;rw [h];exact ⟨_,_,rfl,hg,hb⟩
theorem isSp_no {b:UInt8} (h1:¬ b=32) (h2:¬ b=10):isSp b=false:=by simp [isSp,h1,h2]
theorem S_Tokenize {src:List UInt8} (w:World) (hs:src.length<=1048576) :
  Calls Tryz.prog 59 #[str src] w (Zcb src 101 w):=by
 rcases Nat.lt_or_ge 2000 src.length with hlen|hlen
 ·have HF:=hdQ (toksF_long hlen)
  have h1:(2000:Int)<src.length:=qo
  go_enter Tryz.func59,Tryz.ntmps59
  go_wp2_with fail
  go_ret2
  exact Zcb.no HF.out (Below.refl _ _)
 ·have h1:¬ (2000:Int)<src.length:=by omega
  have HL:=qh (¬ 2000<src.length) qo
  have HG0:=qh (Zah (w.alloc (.cells #[] 101)) w.heap.size 101 4 (some ⟨w.heap.size,0,none⟩) 0 0 []) (Zah.lit w #[] 0 rfl (Nat.le_refl _) (Nat.zero_le _))
  go_enter Tryz.func59,Tryz.ntmps59
  go_wp2_with fail
  go_loopw [4,5] (λo_ a_ wr=>∃ (a:Nat) (l:List Zaq) (A:Option Addr) (c:Nat),a<=src.length/\a_=.int .i64 a/\o_=.slice A l.length c/\TkTo src a l/\Zah wr w.heap.size 101 4 A l.length c (rTok l)/\Below w.heap.size w wr) (λ_ a_ _=>src.length-(RowKit.intOf a_).toNat)
  case atStart=>exact ⟨0,[],_,_,Nat.zero_le _,rfl,rfl,TkTo.zero _,HG0.out,bll⟩
  case round =>
   obtain ⟨a,l,A,c,hal,rfl,rfl,ht,hg,hb⟩:=hrel
   obtain ⟨wo,rfl⟩:=qe wr
   have hla:=ht.1
   have hz:=hb.size
   have HT:=hdQ ht
   have HG:=hdQ hg
   have HB:=hdQ hb
   clear ht hg hb HG0
   rcases Nat.lt_or_ge a src.length with hlt|hge
   ·obtain ⟨b,hb⟩:∃ b,src[a]? = some b:=⟨_,List.getElem?_eq_getElem hlt⟩
    have hat:=lx_at hb
    have HBt:=hdQ hb
    have hlt':(a:Int)<src.length:=qo
    clear hb
    by_cases h32:b=32
    ·subst h32
     have HN:=hdQ (HT.out.space HBt.out qd)
     go_wp2_with fail
     go_roundw
     case rel=>exact ⟨a+1,l,_,_,qo,qg,rfl,HN.out,HG.out,HB.out⟩
     case measure=>exact qn
    ·by_cases h10:b=10
     ·subst h10
      have HN:=hdQ (HT.out.space HBt.out qd)
      go_wp2_with fail
      go_roundw
      case rel=>exact ⟨a+1,l,_,_,qo,qg,rfl,HN.out,HG.out,HB.out⟩
      case measure=>exact qn
     ·have HSP:=hdQ (isSp_no h32 h10)
      have e1:((b.toNat:Int)==32)=false:=by rw [beq_eq_false_iff_ne];intro h;exact h32 (UInt8.toNat_inj.1 (by show b.toNat=32;omega))
      have e2:((b.toNat:Int)==10)=false:=by rw [beq_eq_false_iff_ne];intro h;exact h10 (UInt8.toNat_inj.1 (by show b.toNat=10;omega))
      have HSC:=qh (∀ wx,Calls Tryz.prog 120 #[str src,.int .i64 a] wx λe w'=>∃ v,e=.returned v/\Zch src a v/\Below wx.heap.size wx w') (λwx=>S_l12Scan wx hlt hs)
      clear h32 h10
      cases hk:Zau (src.drop a) with
      | none =>
       have HF:=hdQ (HT.out.bad HL.out HBt.out HSP.out hk)
       have HC:=qh (∀ wx,Calls Tryz.prog 120 #[str src,.int .i64 a] wx λe w'=>∃ (x:Zaq) (e':Nat),e=.returned (.tuple #[tokV x,.int .i64 e',.bool false])/\Below wx.heap.size wx w') (λwx=>(HSC.out wx).mono (λe w' h=>by obtain ⟨v,rfl,hv,hb⟩:=h;unfold Zch at hv;rw [hk] at hv;obtain ⟨x,e',rfl⟩:=hv;exact ⟨x,e',rfl,hb⟩))
       clear hk
       go_wp2_with (first|(go_at_call 120;refine (HC.out _).mono ?_;rintro e w1 ⟨x,e',rfl,hb1⟩;have hz1:=hb1.size;have HB1:=qh (Below w.heap.size w w1) (Below.step hb1 HB.out HB.out.size);clear hb1)|fail)
       go_ret2
       exact Zcb.no HF.out bll
      | some q =>
       obtain ⟨k,m,v⟩:=q
       have hm:=Zcf hk
       rw [List.length_drop] at hm
       have HN:=hdQ (HT.out.tok HBt.out HSP.out hk)
       obtain ⟨u,hu⟩:=qv ((src.drop a).take m)
       obtain ⟨E,hE⟩:=qv (a+m)
       have HC:=qh (∀ wx,CB_ Tryz.prog 120 #[str src,.int .i64 a] wx (.tuple #[tokV (k,u,(v:Int),(a:Int)),.int .i64 E,.bool true])) (λwx=>(HSC.out wx).mono (λe w' h=>by obtain ⟨v,rfl,hv,hb⟩:=h;unfold Zch at hv;rw [hk] at hv;dsimp only at hv;rw [hu,hE] at hv;subst hv;exact ⟨rfl,hb⟩))
       rw [hu,hE] at HN
       have hE1:E<=src.length:=qo
       have hE2:a<E:=qo
       clear hk hu hE hm
       go_wp2_with (first|(go_at_call 120;refine (HC.out _).mono ?_;rintro e w1 ⟨rfl,hb1⟩;have hz1:=hb1.size;have HB1:=qh (Below w.heap.size w w1) (Below.step hb1 HB.out HB.out.size);have HG1:=hdQ (Zah.step hb1 HG.out);clear hb1)|(at_builtin;refine wpA (w.heap.size) Tryz.underlying94 T.infoToken (rTok l) (rTok [(k,u,(v:Int),(a:Int))]) (rTok_one _) ?_ ?_ ?_;exact (gwx HG1.out);exact (ltt 1);rintro A' c' w2 gA;have g1:=gA.1;have g2:=gA.2.1;rw [rTok_snoc] at g1;have HG2:=hdQ g1;have HB2:=qh (Below w.heap.size w w2) (Below.trans bll g2);clear gA g1 g2)|fail)
       go_roundw
       case rel=>exact ⟨E,_,_,_,hE1,rfl,by rw [List.length_append];rfl,HN.out,by rw [List.length_append];exact HG2.out,HB2.out⟩
       case measure=>exact qn
   ·obtain rfl:a=src.length:=by omega
    have HF:=hdQ (HT.out.done HL.out)
    go_wp2_with (first|(at_builtin;refine wpA (w.heap.size) Tryz.underlying94 T.infoToken (rTok l) (rTok [(0,[],0,(src.length:Int))]) (rTok_one _) ?_ ?_ ?_;exact (gwx HG.out);exact (ltt 1);rintro A' c' w2 gA;have g1:=gA.1;have g2:=gA.2.1;rw [rTok_snoc] at g1;have HG2:=hdQ g1;have HB2:=qh (Below w.heap.size w w2) (Below.trans bll g2);clear gA g1 g2)|fail)
    go_ret2
    exact Zcb.yes HF.out (by rw [List.length_append];rfl) HG2.out HB2.out
end Go.Proofs.YticdknjoapdmeaaGreatDoor
namespace Go.Proofs.YticdknjoapdmeaaGreatDoor
set_option maxRecDepth 512
variable {P:Program} {ops:Array Oper} {Q:Exit->Act->World->Prop} {md:Region.Mode} {S:World->Prop} {m:Nat}
def wpAnyM (P:Program) (md:Region.Mode) (ops:Array Oper) (Q:Exit->Act->World->Prop) (S:World->Prop) (m:Nat):Nat->Array Bool->Act->World->Prop
 | 0,listed,a,w=>Region.ready md ops listed=[]/\Q .normal a w
 | fuel+1,listed,a,w =>
  (Region.ready md ops listed=[]->Q .normal a w) /\
  ∀ i∈Region.ready md ops listed,wpOp P ops Q i (λa' w'=>(i≠m->S w')/\wpAnyM P md ops Q S m fuel (listed.setIfInBounds i true) a' w') a w
theorem wpAny_of_M:∀ (fuel:Nat) (listed:Array Bool) (a:Act) (w:World),wpAnyM P md ops Q S m fuel listed a w->wpAny P md ops Q fuel listed a w
 | 0,_,_,_,h=>h
 | fuel+1,_,_,_,h=>⟨h.1,λi hi=>wpOp_mono (λa' w' h'=>wpAny_of_M fuel _ a' w' h'.2) (h.2 i hi)⟩
theorem wpAnyM_first {i:Nat} {oi:Oper} {v:Value} (hi:ops[i]? = some oi) (hsel:∀ (j:Nat) (o:Oper) cs b,ops[j]? = some o->o.op ≠ .select cs b)
  (hQ:∀ c a w,Q (.panic c) (a.put oi.dst v) w->Q (.panic c) a w) (hm:Region.waitsFor md ops m i=true) :
  ∀ (fuel:Nat) (listed:Array Bool) (a:Act) (w:World),
   (∀ j oj,ops[j]? = some oj->j≠i->listed.getD j true=false->(∀ e∈oj.after,Region.binds md e=true->e.on≠i)->oi.apart ops oj=true) ->
   i∈Region.ready md ops listed->YieldsIf P ops S oi v a->S w ->
   wpAnyM P md ops Q S m fuel (listed.setIfInBounds i true) (a.put oi.dst v) w->wpAnyM P md ops Q S m (fuel+1) listed a w:=by
 intro fuel
 induction fuel with
 | zero =>
  intro listed a w _ hr hy hS H
  refine ⟨λh=>(by rw [h] at hr;cases hr),λj hj=>?_⟩
  by_cases hji:j=i
  ·subst hji;exact hy.wpOp hi hS ⟨λ_=>hS,H⟩
  ·have:=ready_mono hj hji
   rw [H.1] at this
   cases this
 | succ fuel ih =>
  intro listed a w hfree hr hy hS H
  refine ⟨λh=>(by rw [h] at hr;cases hr),λj hj=>?_⟩
  by_cases hji:j=i
  ·subst hji;exact hy.wpOp hi hS ⟨λ_=>hS,H⟩
  ·have h1:=H.2 j (ready_mono hj hji)
   obtain ⟨hjun,oj,hoj,hall⟩:=mem_ready.1 hj
   have hno:∀ e∈oj.after,Region.binds md e=true->e.on≠i:=λe he hb heq=>by
    have h1:=hall e he hb
    have h0:=(mem_ready.1 hr).1
    rw [heq,getD_both h0] at h1
    cases h1
   have hjm:j≠m:=λe=>by
    obtain ⟨om,hom,e',he',hb',hon⟩:=Region.waitsFor_spec hm
    rw [<- e,hoj] at hom
    obtain rfl:=Option.some.inj hom
    exact hno e' he' hb' hon
   have h2:=wpOp_putIf hoj (hfree j oj hoj hji hjun hno) (λcs b=>hsel i oi cs b hi) (λcs b=>hsel j oj cs b hoj) hQ hy h1
   have hfree':∀ k ok,ops[k]? = some ok->k≠i->(listed.setIfInBounds j true).getD k true=false ->
     (∀ e∈ok.after,Region.binds md e=true->e.on≠i)->oi.apart ops ok=true:=λk ok hk hki hun hno=>by
    refine hfree k ok hk hki ?_ hno
    by_cases hjk:j=k
    ·subst hjk;exact hjun
    ·rw [getD_set_ne true hjk] at hun;exact hun
   refine wpOp_mono (λa' w' h3=>⟨h3.2.1,ih (listed.setIfInBounds j true) a' w' hfree' (ready_mono hr (Ne.symm hji)) h3.1 (h3.2.1 hjm) ?_⟩) h2
   rw [Array.setIfInBounds_comm _ _ hji]
   exact h3.2.2
theorem wpAnyM_take {i:Nat} {oi:Oper} {v:Value} {fuel:Nat} {listed:Array Bool} {a:Act} {w:World} (hi:ops[i]? = some oi)
  (hs:Region.noSelect ops=true) (hm:Region.waitsFor md ops m i=true) (hf:Region.free md ops listed i=true) (hr:(Region.ready md ops listed).contains i=true)
  (hQ:∀ c a w,Q (.panic c) (a.put oi.dst v) w->Q (.panic c) a w) (hy:YieldsIf P ops S oi v a) (hS:S w)
  (h:wpAnyM P md ops Q S m fuel (listed.setIfInBounds i true) (a.put oi.dst v) w):wpAnyM P md ops Q S m (fuel+1) listed a w :=
 wpAnyM_first hi (Region.noSelect_spec hs) hQ hm fuel listed a w (Region.free_spec hi hf) (by simpa using hr) hy hS h
theorem Zag {i:Nat} {o:Oper} {fuel:Nat} {listed:Array Bool} {a:Act} {w:World} (ho:ops[i]? = some o) (hr:Region.ready md ops listed=[i])
  (h:∀ K':Act->World->Prop,Shut (∀ a w,(i≠m->S w)->((i≠m->S w)->wpAnyM P md ops Q S m fuel (listed.setIfInBounds i true) a w)->K' a w)->if Region.wanted o (yielded ops a.tmps)=true then Oper.wp P o a w K' Q else K' (a.put o.dst undef) w) :
  wpAnyM P md ops Q S m (fuel+1) listed a w:=by
 refine ⟨λh0=>(by rw [hr] at h0;cases h0),λj hj=>?_⟩
 rw [hr] at hj
 obtain rfl:j=i:=by simpa using hj
 exact wpOp_step ho (λK' hK=>h K' (λa w hS hW=>hK a w ⟨hS,hW hS⟩))
theorem Zcx {listed:Array Bool} {a:Act} {w:World} (hr:Region.ready md ops listed=[]) (h:Q .normal a w):∀ fuel,wpAnyM P md ops Q S m fuel listed a w
 | 0=>⟨hr,h⟩
 | _+1=>⟨λ_=>h,by rw [hr];simp⟩
theorem Zcw {id:Nat} {a:Act} {w:World} (m:Nat) (hm:P.follows .mixedOrders=true) (hS:S w.drew)
  (h:S w.drew->wpAnyM P .any ops Q S m ops.size (Array.replicate ops.size false) a w.drew):(Code.region id ops true).wp P Q a w :=
 wp_region_any hm (wpAny_of_M _ _ _ _ (h hS))
theorem tkM {P:Program} {md:Region.Mode} {ops:Array Oper} {Q:Exit->Act->World->Prop} {S:World->Prop} {m:Nat} (i:Nat) {oi:Oper} {v:Value} {fuel:Nat} {listed:Array Bool} {a:Act} {w:World}
  (h:wpAnyM P md ops Q S m fuel (listed.setIfInBounds i true) (a.put oi.dst v) w) (hi:ops[i]? = some oi:=by rfl) (hv:∀ w,S w->(execOp a.eval oi).run P w=.ok (.value v) w:=by intro w hSw;(try dsimp only at hSw);go_simp;try with_reducible rfl)
  (hs:Region.noSelect ops=true:=by kernel_rfl) (hm:Region.waitsFor md ops m i=true:=by kernel_rfl) (hf:Region.free md ops listed i=true:=by kernel_rfl) (hr:(Region.ready md ops listed).contains i=true:=by kernel_rfl)
  (hQ:∀ c a w,Q (.panic c) (a.put oi.dst v) w->Q (.panic c) a w:=by exact λ_ _ _ h=>h) (hw:Region.wanted oi (yielded ops a.tmps)=true:=by rfl) (hS:S w:=by assumption):wpAnyM P md ops Q S m (fuel+1) listed a w :=
 wpAnyM_take hi hs hm hf hr hQ (Or.inl ⟨hw,hv⟩) hS h
set_option maxRecDepth 100000
open Go.RowKit Go.Lib
def cAss (x:Zaa):List Value:=[str x.1,.int .i64 x.2]
abbrev rAss (l:List Zaa):List Value:=rowOf cAss l
theorem rAss_len (l:List Zaa):(rAss l).length=l.length*2:=rowOf_len (f:=cAss) (s:=2) (λ_=>rfl) l
theorem rAss_at {l:List Zaa} {k:Nat} (hk:k<l.length):(rAss l)[k*2]? = some (str l[k].1)/\(rAss l)[k*2+1]? = some (.int .i64 l[k].2):=by
 have h:=rowOf_at (f:=cAss) (s:=2) (λ_=>rfl) l k
 exact ⟨h 0 hk qo,h 1 hk qo⟩
theorem rAss_one (l:List Zaa):∀ u∈rAss l,u.oneCell'=true:=by
 intro u hu
 obtain ⟨x,_,hx⟩:=List.mem_flatMap.1 hu
 simp only [cAss,List.mem_cons,List.not_mem_nil,or_false] at hx
 rcases hx with rfl|rfl<;>rfl
theorem rAss_snoc (l:List Zaa) (x:Zaa):rAss l++rAss [x]=rAss (l++[x]):=by simp [rAss,rowOf]
abbrev nodeV (op:Int) (name:List UInt8) (num:Int) (v:Value):Value:=.agg #[.int .i64 op,str name,.int .i64 num,v]
theorem node_one (op:Int) (name:List UInt8) (num:Int) (v:Value) (hv:v.oneCell'=true:=by rfl):∀ u∈[.int .i64 op,str name,.int .i64 num,v],u.oneCell'=true:=by
 intro u hu
 simp only [List.mem_cons,List.not_mem_nil,or_false] at hu
 rcases hu with rfl|rfl|rfl|rfl<;>first|rfl|exact hv
def NodeC (w:World) (X:List Nat) (cs:List Value) (x:Zac):Prop :=
 ∃ A c,cs=[.int .i64 x.1,str x.2.1,.int .i64 x.2.2.1,.slice A x.2.2.2.length c]/\Zbu w 1 A x.2.2.2.length c 3 (ints x.2.2.2)/\∀ y,y∈gOf A->y∉X
theorem NodeC.one {w:World} {X:List Nat} {cs:List Value} {x:Zac} (h:NodeC w X cs x):∀ u∈cs,u.oneCell'=true:=by
 obtain ⟨A,c,rfl,_⟩:=h
 intro u hu
 simp only [List.mem_cons,List.not_mem_nil,or_false] at hu
 rcases hu with rfl|rfl|rfl|rfl<;>rfl
theorem NodeC.len {w:World} {X:List Nat} {cs:List Value} {x:Zac} (h:NodeC w X cs x):cs.length=4:=by
 obtain ⟨A,c,rfl,_⟩:=h;rfl
theorem RS.keep {w w':World} {size n c:Nat} {A:Option Addr} {xs:List Value} (h:RS w size A n c xs) (hz:w.heap.size<=w'.heap.size) (hg:0<n->∀ x,x∈gOf A->x<w.heap.size->w'.heap[x]? = w.heap[x]?):RS w' size A n c xs:=by
 obtain ⟨hl,A',c',hs,h1,h2,hr⟩:=h
 injection hs with e1 _ e2
 subst e1;subst e2
 refine ⟨hl,A,c,rfl,h1,h2,λhn=>?_⟩
 obtain ⟨b,o,rfl,h4,h5,h6⟩:=hr hn
 refine ⟨b,o,rfl,h4,Nat.lt_of_lt_of_le h5 hz,λj hj=>?_⟩
 rw [<- h6 j hj]
 exact World.cell?_of_block (hg hn b (by simp [gOf]) h5)
theorem Zbu.keep {w w':World} {sz n c:Nat} {A:Option Addr} {t:TypeId} {cs:List Value} (h:Zbu w sz A n c t cs) (hg:∀ x,x∈gOf A->x<w.heap.size->w'.heap[x]? = w.heap[x]?):Zbu w' sz A n c t cs:=by
 obtain ⟨h1,h2,h3,h4⟩:=h
 refine ⟨h1,h2,h3, ?_⟩
 rcases h4 with ⟨rfl,h5⟩|⟨g,ds,rfl,ho⟩
 ·exact .inl ⟨rfl,h5⟩
 ·exact .inr ⟨g,ds,rfl,(hg g (by simp [gOf]) ho.lt).trans ho⟩
theorem NodeC.move {w w':World} {X Y:List Nat} {cs:List Value} {x:Zac} (h:NodeC w X cs x) (hX:∀ y,y∉X->y<w.heap.size->w'.heap[y]? = w.heap[y]?) (hY:∀ y,y∈Y->y∈X∨w.heap.size<=y):NodeC w' Y cs x:=by
 obtain ⟨A,c,rfl,hr,ha⟩:=h
 refine ⟨A,c,rfl,hr.keep (λy hy hl=>hX y (ha y hy) hl),λy hy hyY=>?_⟩
 have:=hr.lt y hy
 rcases hY y hyY with h1|h1
 ·exact ha y hy h1
 ·omega
def Zb4 (w:World) (X:List Nat) (cs:List Value) (ns:List Zac):Prop:=∀ (i:Nat) (h:i<ns.length),NodeC w X ((cs.drop (i*4)).take 4) ns[i]
theorem Zb4.move {w w':World} {X Y:List Nat} {cs:List Value} {ns:List Zac} (h:Zb4 w X cs ns) (hX:∀ y,y∉X->y<w.heap.size->w'.heap[y]? = w.heap[y]?) (hY:∀ y,y∈Y->y∈X∨w.heap.size<=y):Zb4 w' Y cs ns:=λi hi=>(h i hi).move hX hY
theorem Zb4.keep {w w':World} {X:List Nat} {cs:List Value} {ns:List Zac} (h:Zb4 w X cs ns) (hX:∀ y,y∉X->y<w.heap.size->w'.heap[y]? = w.heap[y]?):Zb4 w' X cs ns:=h.move hX (λy hy=>.inl hy)
theorem Zb4.set_ {w:World} {X Y:List Nat} {cs:List Value} {ns:List Zac} (h:Zb4 w X cs ns) (hY:∀ y,y∈Y->y∈X∨w.heap.size<=y):Zb4 w Y cs ns:=h.move (λ_ _ _=>rfl) hY
theorem Zb4.nil (w:World) (X:List Nat) (cs:List Value):Zb4 w X cs []:=λi h=>absurd h qs
theorem Zb4.snoc {w:World} {X:List Nat} {cs zs:List Value} {ns:List Zac} {x:Zac} (h:Zb4 w X cs ns) (hl:cs.length=ns.length*4) (hz:NodeC w X zs x):Zb4 w X (cs++zs) (ns++[x]):=by
 intro i hi
 rcases Nat.lt_or_ge i ns.length with h1|h1
 ·rw [List.getElem_append_left h1]
  have:(i+1)*4<=ns.length*4:=Nat.mul_le_mul_right _ h1
  rw [List.drop_append_of_le_length qo,List.take_append_of_le_length (by rw [List.length_drop];omega)]
  exact h i h1
 ·have e:i=ns.length:=by simp at hi;omega
  subst e
  rw [List.getElem_concat_length rfl,<- hl,List.drop_left,<- hz.len,List.take_length]
  exact hz
def Zfv (cs:List Value) (n:Nat):Prop:=∀ (i j:Nat) (A B:Option Addr) (l m c d:Nat),i<j->j<n->cs[i*4+3]? = some (.slice A l c)->cs[j*4+3]? = some (.slice B m d)->∀ y,y∈gOf A->y∉gOf B
theorem Zfv.nil (cs:List Value):Zfv cs 0:=λi j _ _ _ _ _ _ _ hj=>absurd hj qo
theorem Zb4.arg {w:World} {X:List Nat} {cs:List Value} {ns:List Zac} (h:Zb4 w X cs ns) (hl:cs.length=ns.length*4) {i:Nat} (hi:i<ns.length) {A:Option Addr} {l c:Nat} (hA:cs[i*4+3]? = some (.slice A l c)):∀ y,y∈gOf A->y∉X:=by
 obtain ⟨A',c',hcs,hr,ha⟩:=h i hi
 have e:((cs.drop (i*4)).take 4)[3]? = some (.slice A l c):=by rw [List.getElem?_take_of_lt qo,List.getElem?_drop,hA]
 rw [hcs] at e
 simp only [List.getElem?_cons_succ,List.getElem?_cons_zero,Option.some.injEq,Value.slice.injEq] at e
 obtain ⟨rfl,rfl,rfl⟩:=e
 exact ha
theorem Zfv.snoc {w:World} {X:List Nat} {cs:List Value} {ns:List Zac} {A:Option Addr} {l c:Nat} {v0 v1 v2:Value} (h:Zfv cs ns.length) (hn:Zb4 w X cs ns) (hl:cs.length=ns.length*4) (hX:∀ y,y∈gOf A->y∈X):Zfv (cs++[v0,v1,v2,.slice A l c]) (ns.length+1):=by
 intro i j A1 B1 l1 m1 c1 d1 hij hj h1 h2 y hy
 have hi:i*4+3<cs.length:=by rw [hl];omega
 rw [List.getElem?_append_left hi] at h1
 rcases Nat.lt_or_ge j ns.length with hjl|hjl
 ·rw [List.getElem?_append_left (by rw [hl];omega)] at h2
  exact h i j A1 B1 l1 m1 c1 d1 hij hjl h1 h2 y hy
 ·obtain rfl:j=ns.length:=by omega
  rw [List.getElem?_append_right (by rw [hl];omega),hl,show ns.length*4+3-ns.length*4=3 by omega] at h2
  simp only [List.getElem?_cons_succ,List.getElem?_cons_zero,Option.some.injEq,Value.slice.injEq] at h2
  obtain ⟨rfl,rfl,rfl⟩:=h2
  exact λq=>hn.arg hl qo h1 y hy (hX y q)
theorem Only.al {B:Nat} {G:List Nat} {w w':World} (h:Only B G w w') (hB:B<=w'.heap.size) (o:Obj):Only B G w (w'.alloc o) :=
 ⟨h.os,h.tape,h.output,Nat.le_trans h.size qs,λy hy hG=>(Below.heap_alloc w' o y qo).trans (h.block y hy hG)⟩
theorem Only.mono' {B:Nat} {G H:List Nat} {w w':World} (h:Only B G w w') (hG:∀ x,x∈G->x∈H):Only B H w w':=⟨h.os,h.tape,h.output,h.size,λy hy hH=>h.block y hy (λhx=>hH (hG y hx))⟩
theorem Only.sub {B C:Nat} {G H:List Nat} {a b c:World} (h:Only B G a b) (k:Only C H b c) (hB:B<=C) (hH:∀ x,x∈H->x∈G∨B<=x):Only B G a c :=
 ⟨k.os.trans h.os,k.tape.trans h.tape,k.output.trans h.output,Nat.le_trans h.size k.size,λy hy hG=>(k.block y qo (λhyH=>by rcases hH y hyH with h1|h1;exact hG h1;omega)).trans (h.block y hy hG)⟩
theorem T.infoNode:(Tryz.prog.info? 155).map (λi=>(i.zero,i.size,i.bytes))=some (some (.agg #[.int .i64 0,.string ByteArray.empty,.int .i64 0,.slice none 0 0]),4,56):=kr
theorem T.infoAss:(Tryz.prog.info? 106).map (λi=>(i.zero,i.size,i.bytes))=some (some (.agg #[.string ByteArray.empty,.int .i64 0]),2,24):=kr
structure PMem (w:World) (B base:Nat) (TA:Option Addr) (tc:Nat) (T:List Zaq) (AA:Option Addr) (ac:Nat) (as_:List Zaa) (X:List Nat) (NA:Option Addr) (nc:Nat) (ns:List Zac):Prop where
 tok:RS w 4 TA T.length tc (rTok T)
 ass:Zah w base 106 2 AA as_.length ac (rAss as_)
 nod:∃ cs,Zah w base 155 4 NA ns.length nc cs/\Zb4 w (B::(gOf NA++gOf AA++X)) cs ns/\Zfv cs ns.length
 apT:∀ x,x∈gOf TA->x≠B/\x∉gOf NA/\x∉gOf AA/\x∉X
 apN:∀ x,x∈gOf NA->x≠B/\x∉gOf AA/\x∉X
 apA:∀ x,x∈gOf AA->x≠B/\x∉X
 low:base<=w.heap.size
 blt:B<w.heap.size
 tlt:∀ x,x∈gOf TA->x<w.heap.size
 xlt:∀ x,x∈X->x<w.heap.size/\x≠B
 cap:ns.length<=60
section
variable {w w':World} {B base:Nat} {TA:Option Addr} {tc:Nat} {T:List Zaq} {AA:Option Addr} {ac:Nat} {as_:List Zaa} {X Y:List Nat} {NA:Option Addr} {nc:Nat} {ns:List Zac}
theorem PMem.keepX (h:PMem w B base TA tc T AA ac as_ X NA nc ns) (hz:w.heap.size<=w'.heap.size) (hb:∀ x,x≠B->x∉X->x<w.heap.size->w'.heap[x]? = w.heap[x]?):PMem w' B base TA tc T AA ac as_ X NA nc ns:=by
 obtain ⟨cs,hg,hn,hp⟩:=h.nod
 exact ⟨h.tok.keep hz (λ_ x hx hl=>hb x (h.apT x hx).1 (h.apT x hx).2.2.2 hl),h.ass.keep (λx hx=>hb x (h.apA x hx).1 (h.apA x hx).2 (h.ass.lt x hx)),⟨cs,hg.keep (λx hx=>hb x (h.apN x hx).1 (h.apN x hx).2.2 (hg.lt x hx)),hn.keep (λy hy hl=>hb y (λe=>hy (by simp [e])) (λe=>hy (by simp [e])) hl),hp⟩,h.apT,h.apN,h.apA,Nat.le_trans h.low hz,Nat.lt_of_lt_of_le h.blt hz,λx hx=>Nat.lt_of_lt_of_le (h.tlt x hx) hz,λx hx=>⟨Nat.lt_of_lt_of_le (h.xlt x hx).1 hz,(h.xlt x hx).2⟩,h.cap⟩
theorem PMem.keep (h:PMem w B base TA tc T AA ac as_ X NA nc ns) (hz:w.heap.size<=w'.heap.size) (hb:∀ x,x≠B->x<w.heap.size->w'.heap[x]? = w.heap[x]?):PMem w' B base TA tc T AA ac as_ X NA nc ns:=h.keepX hz (λx h1 _ h2=>hb x h1 h2)
theorem PMem.step (hb:Below w.heap.size w w') (h:PMem w B base TA tc T AA ac as_ X NA nc ns):PMem w' B base TA tc T AA ac as_ X NA nc ns:=h.keep hb.size (λx _ hl=>hb.block x hl)
theorem PMem.set_ (h:PMem w B base TA tc T AA ac as_ X NA nc ns) (i:Nat) (v:Value):PMem (w.setCell ⟨B,i,none⟩ v) B base TA tc T AA ac as_ X NA nc ns:=h.keep (by simp [World.setCell]) (λx hx _=>Below.heap_setCell _ _ _ _ hx)
theorem PMem.drew (h:PMem w B base TA tc T AA ac as_ X NA nc ns):PMem w.drew B base TA tc T AA ac as_ X NA nc ns:=h.keep (Nat.le_refl _) (λ_ _ _=>rfl)
theorem PMem.own (h:PMem w B base TA tc T AA ac as_ X NA nc ns) (hb:Below w.heap.size w w') (hY:∀ y,y∈Y->y<w'.heap.size/\(y∈X∨w.heap.size<=y)):PMem w' B base TA tc T AA ac as_ Y NA nc ns:=by
 obtain ⟨cs,hg,hn,hp⟩:=h.nod
 have k:=h.step hb
 have hN:=hg.lt
 have hA:=h.ass.lt
 have hT:=h.tlt
 have hB:=h.blt
 refine ⟨k.tok,k.ass,⟨cs,hg.step hb,hn.move (λy _ hl=>hb.block y hl) (λy hy=>?_),hp⟩,λx hx=>?_,λx hx=>?_,λx hx=>?_,k.low,k.blt,k.tlt,λx hx=>⟨(hY x hx).1, ?_⟩,h.cap⟩
 ·simp only [List.mem_cons,List.mem_append] at hy ⊢
  rcases hy with rfl|(hy|hy)|hy
  ·exact .inl (.inl rfl)
  ·exact .inl (.inr (.inl (.inl hy)))
  ·exact .inl (.inr (.inl (.inr hy)))
  ·exact (hY y hy).2.imp (λq=>.inr (.inr q)) id
 ·obtain ⟨h1,h2,h3,h4⟩:=h.apT x hx
  refine ⟨h1,h2,h3,λq=>?_⟩
  have:=hT x hx
  rcases (hY x q).2 with r|r
  ·exact h4 r
  ·omega
 ·obtain ⟨h1,h2,h3⟩:=h.apN x hx
  refine ⟨h1,h2,λq=>?_⟩
  have:=hN x hx
  rcases (hY x q).2 with r|r
  ·exact h3 r
  ·omega
 ·obtain ⟨h1,h2⟩:=h.apA x hx
  refine ⟨h1,λq=>?_⟩
  have:=hA x hx
  rcases (hY x q).2 with r|r
  ·exact h2 r
  ·omega
 ·rcases (hY x hx).2 with r|r
  ·exact (h.xlt x r).2
  ·omega
theorem PMem.tokAt (h:PMem w B base TA tc T AA ac as_ X NA nc ns) {a:Nat} (ha:a<T.length):T.length<=tc/\tc<=maxLen/\∃ b o,TA=some ⟨b,o,none⟩/\b<w.heap.size/\b≠B/\w.cell? ⟨b,o+a*4,none⟩=some (.int .i64 (kd T a))/\w.cell? ⟨b,o+a*4+1,none⟩=some (str (tx T a))/\w.cell? ⟨b,o+a*4+2,none⟩=some (.int .i64 (nm T a))/\w.cell? ⟨b,o+a*4+3,none⟩=some (.int .i64 (of_ T a)):=by
 obtain ⟨h1,h2,h3⟩:=h.tok.open_
 obtain ⟨b,o,hA,hb,hc⟩:=h3 qo
 obtain ⟨q0,q1,q2,q3⟩:=rTok_at ha
 have e:tk T a=T[a]:=by unfold tk;simp [ha]
 refine ⟨h1,h2,b,o,hA,hb,(h.apT b (by rw [hA];simp [gOf])).1, ?_, ?_, ?_, ?_⟩
 ·rw [hc _ qo,q0];unfold kd;rw [e]
 ·rw [Nat.add_assoc,hc _ qo,q1];unfold tx;rw [e]
 ·rw [Nat.add_assoc,hc _ qo,q2];unfold nm;rw [e]
 ·rw [Nat.add_assoc,hc _ qo,q3];unfold of_;rw [e]
theorem PMem.emit {A A':Option Addr} {c c':Nat} {cs:List Value} {op num:Int} {name:List UInt8} {args:List Int} (h0:PMem w B base TA tc T AA ac as_ (gOf A++X) NA nc ns) (hl:ns.length<60) (hg:Zah w base 155 4 NA ns.length nc cs) (hn0:Zb4 w (B::(gOf NA++gOf AA++(gOf A++X))) cs ns) (hp:Zfv cs ns.length)
  (hr:Zbu w 1 A args.length c 3 (ints args)) (hAX:∀ y,y∈gOf A->y∉X)
  (ap:Za5 w base 155 4 NA ns.length (cs++[.int .i64 op,str name,.int .i64 num,.slice A args.length c]) A' (ns.length+1) c' w'):PMem w' B base TA tc T AA ac as_ X A' c' (ns++[(op,name,num,args)])/\Only w.heap.size (gOf NA) w w'/\(∀ y,y∈gOf A'->y∈gOf NA∨y=w.heap.size):=by
 have h:PMem w B base TA tc T AA ac as_ X NA nc ns:=h0.own (Below.refl _ _) (λy hy=>⟨(h0.xlt y (by simp [hy])).1,.inl (by simp [hy])⟩)
 have hn:Zb4 w (B::(gOf NA++gOf AA++X)) cs ns:=hn0.set_ (λy hy=>.inl (by simp only [List.mem_cons,List.mem_append] at hy ⊢;rcases hy with q|(q|q)|q<;>simp [q]))
 have hz:NodeC w (B::(gOf NA++gOf AA++X)) [.int .i64 op,str name,.int .i64 num,.slice A args.length c] (op,name,num,args):=⟨A,c,rfl,hr,λy hy=>by
  simp only [List.mem_cons,List.mem_append,not_or]
  exact ⟨(h0.xlt y (by simp [hy])).2,⟨λq=>(h0.apN y q).2.2 (by simp [hy]),λq=>(h0.apA y q).2 (by simp [hy])⟩,hAX y hy⟩⟩
 have hp2:Zfv (cs++[.int .i64 op,str name,.int .i64 num,.slice A args.length c]) (ns.length+1):=hp.snoc hn0 hg.len (λy hy=>by simp [hy])
 have hblk:∀ y,y<w.heap.size->y∉gOf NA->w'.heap[y]? = w.heap[y]? := λy hy hN=>ap.2.2.1.block y hy (by cases NA<;>simp_all [gOf])
 have hsz:=ap.2.2.2.1
 have hA:∀ y,y∈gOf A'->y∈gOf NA∨y=w.heap.size:=λy hy=>by
  rcases ap.2.2.2.2 with e|e
  ·rw [e] at hy;exact .inl hy
  ·rw [e] at hy;right;simpa using hy
 refine ⟨⟨h.tok.keep hsz (λ_ x hx hl=>hblk x hl (h.apT x hx).2.1),h.ass.keep (λx hx=>hblk x (h.ass.lt x hx) (λhN=>(h.apN x hN).2.1 hx)),⟨cs++[.int .i64 op,str name,.int .i64 num,.slice A args.length c], ?_, ?_, ?_⟩,λy hy=>?_,λy hy=>?_,h.apA,Nat.le_trans h.low hsz,Nat.lt_of_lt_of_le h.blt hsz,λx hx=>Nat.lt_of_lt_of_le (h.tlt x hx) hsz,λx hx=>⟨Nat.lt_of_lt_of_le (h.xlt x hx).1 hsz,(h.xlt x hx).2⟩,by simp;omega⟩,⟨ap.2.1.os,ap.2.1.tape,ap.2.1.output,hsz,λy hy hN=>hblk y hy hN⟩,hA⟩
 ·have:=ap.1
  rw [List.length_append]
  exact this
 ·refine (Zb4.snoc hn hg.len hz).move (λy hy hl=>hblk y hl (λhN=>hy (by simp [hN]))) (λy hy=>?_)
  simp only [List.mem_cons,List.mem_append] at hy ⊢
  rcases hy with rfl|(hy|hy)|hy
  ·exact .inl (.inl rfl)
  ·rcases hA y hy with h2|h2
   ·exact .inl (.inr (.inl (.inl h2)))
   ·exact .inr qo
  ·exact .inl (.inr (.inl (.inr hy)))
  ·exact .inl (.inr (.inr hy))
 ·rw [List.length_append];exact hp2
 ·obtain ⟨h1,h2,h3⟩:=h.apT y hy
  refine ⟨h1,λhA'=>?_,h3⟩
  have:=h.tlt y hy
  rcases hA y hA' with h4|h4
  ·exact h2 h4
  ·omega
 ·rcases hA y hy with h4|h4
  ·exact h.apN y h4
  ·have:=h.blt
   exact ⟨qo,λh5=>by have:=h.ass.lt y h5;omega,λh5=>by have:=(h.xlt y h5).1;omega⟩
theorem PMem.put {W:World} {A A':Option Addr} {c c':Nat} {cs:List Value} {op num:Int} {name:List UInt8} {args:List Int} (h:PMem w B base TA tc T AA ac as_ (gOf A++X) NA nc ns) (hl:ns.length<60) (hb:Below w.heap.size w W) (hg:Zah w base 155 4 NA ns.length nc cs) (hn:Zb4 w (B::(gOf NA++gOf AA++(gOf A++X))) cs ns) (hp:Zfv cs ns.length)
  (hr:Zbu w 1 A args.length c 3 (ints args)) (hAX:∀ y,y∈gOf A->y∉X)
  (ap:Za5 W base 155 4 NA ns.length (cs++[.int .i64 op,str name,.int .i64 num,.slice A args.length c]) A' (ns.length+1) c' w'):PMem w' B base TA tc T AA ac as_ X A' c' (ns++[(op,name,num,args)])/\Only w.heap.size (gOf NA) w w'/\(∀ y,y∈gOf A'->y∈gOf NA∨w.heap.size<=y):=by
 obtain ⟨h1,h2,h3⟩:=PMem.emit (h.step hb) hl (hg.step hb) (hn.keep (λy _ hl=>hb.block y hl)) hp (hr.step hb) hAX ap
 exact ⟨h1,Only.sub (Only.of_below hb _) h2 hb.size (λx hx=>.inl hx),λy hy=>(h3 y hy).imp id (λe=>by rw [e];exact hb.size)⟩
theorem PMem.app {e:TypeId} {size n n' c' base':Nat} {xs:List Value} {PA PA':Option Addr} (h:PMem w B base TA tc T AA ac as_ (gOf PA++X) NA nc ns) (ap:Za5 w base' e size PA n xs PA' n' c' w'):PMem w' B base TA tc T AA ac as_ (gOf PA'++X) NA nc ns:=by
 have hblk:∀ y,y<w.heap.size->y∉gOf PA->w'.heap[y]? = w.heap[y]? := λy hy hN=>ap.2.2.1.block y hy (by cases PA<;>simp_all [gOf])
 have hsz:=ap.2.2.2.1
 have h1:PMem w' B base TA tc T AA ac as_ (gOf PA++X) NA nc ns:=h.keepX hsz (λx _ hX hl=>hblk x hl (λq=>hX (by simp [q])))
 have hlt:=ap.1.lt
 rcases ap.2.2.2.2 with q|q
 ·rw [q];exact h1
 ·rw [q]
  obtain ⟨cs,hg,hn,hp⟩:=h.nod
  have hN:=hg.lt
  have hA:=h.ass.lt
  refine ⟨h1.tok,h1.ass,⟨cs,hg.keep (λx hx=>hblk x (hN x hx) (λr=>(h.apN x hx).2.2 (by simp [r]))),hn.move (λy hy hl=>hblk y hl (λr=>hy (by simp [r]))) (λy hy=>?_),hp⟩,λx hx=>?_,λx hx=>?_,λx hx=>?_,h1.low,h1.blt,h1.tlt,λx hx=>?_,h.cap⟩
  ·simp only [List.mem_cons,List.mem_append,List.not_mem_nil,or_false] at hy ⊢
   rcases hy with rfl|(hy|hy)|hy|hy
   ·exact .inl (.inl rfl)
   ·exact .inl (.inr (.inl (.inl hy)))
   ·exact .inl (.inr (.inl (.inr hy)))
   ·right;omega
   ·exact .inl (.inr (.inr (.inr hy)))
  ·obtain ⟨a1,a2,a3,a4⟩:=h.apT x hx
   have:=h.tlt x hx
   exact ⟨a1,a2,a3,λr=>by simp at r;rcases r with r|r;omega;exact a4 (by simp [r])⟩
  ·obtain ⟨a1,a2,a3⟩:=h.apN x hx
   have:=hN x hx
   exact ⟨a1,a2,λr=>by simp at r;rcases r with r|r;omega;exact a3 (by simp [r])⟩
  ·obtain ⟨a1,a2⟩:=h.apA x hx
   have:=hA x hx
   exact ⟨a1,λr=>by simp at r;rcases r with r|r;omega;exact a2 (by simp [r])⟩
  ·simp only [List.mem_cons,List.mem_append,List.not_mem_nil,or_false] at hx
   rcases hx with rfl|hx
   ·have:=hlt w.heap.size (by rw [q];simp)
    have:=h.blt
    exact ⟨qo,qo⟩
   ·have:=h.xlt x (by simp [hx])
    exact ⟨qo,this.2⟩
theorem PMem.assign {W:World} {A':Option Addr} {c':Nat} {x:Zaa} (h0:PMem w B base TA tc T AA ac as_ X NA nc ns) (hb:Below w.heap.size w W)
  (ap:Za5 W base 106 2 AA as_.length (rAss as_++rAss [x]) A' (as_.length+1) c' w'):PMem w' B base TA tc T A' c' (as_++[x]) X NA nc ns/\Only w.heap.size (gOf AA) w w'/\(∀ y,y∈gOf A'->y∈gOf AA∨w.heap.size<=y):=by
 have h:=h0.step hb
 have hblk:∀ y,y<W.heap.size->y∉gOf AA->w'.heap[y]? = W.heap[y]? := λy hy hN=>ap.2.2.1.block y hy (by cases AA<;>simp_all [gOf])
 have hsz:=ap.2.2.2.1
 have hA:∀ y,y∈gOf A'->y∈gOf AA∨y=W.heap.size:=λy hy=>by
  rcases ap.2.2.2.2 with e|e
  ·rw [e] at hy;exact .inl hy
  ·rw [e] at hy;right;simpa using hy
 obtain ⟨cs,hg,hn,hp⟩:=h.nod
 refine ⟨⟨h.tok.keep hsz (λ_ x hx hl=>hblk x hl (h.apT x hx).2.2.1), ?_,⟨cs,hg.keep (λx hx=>hblk x (hg.lt x hx) (h.apN x hx).2.1), ?_,hp⟩,λy hy=>?_,λy hy=>?_,λy hy=>?_,Nat.le_trans h.low hsz,Nat.lt_of_lt_of_le h.blt hsz,λx hx=>Nat.lt_of_lt_of_le (h.tlt x hx) hsz,λx hx=>⟨Nat.lt_of_lt_of_le (h.xlt x hx).1 hsz,(h.xlt x hx).2⟩,h.cap⟩,Only.sub (Only.of_below hb _) ⟨ap.2.1.os,ap.2.1.tape,ap.2.1.output,hsz,λy hy hN=>hblk y hy hN⟩ hb.size (λx hx=>.inl hx),λy hy=>(hA y hy).imp id (λe=>by rw [e];exact hb.size)⟩
 ·have:=ap.1
  rw [rAss_snoc] at this
  rw [List.length_append]
  exact this
 ·refine hn.move (λy hy hl=>hblk y hl (λhN=>hy (by simp [hN]))) (λy hy=>?_)
  simp only [List.mem_cons,List.mem_append] at hy ⊢
  rcases hy with rfl|(hy|hy)|hy
  ·exact .inl (.inl rfl)
  ·exact .inl (.inr (.inl (.inl hy)))
  ·rcases hA y hy with h2|h2
   ·exact .inl (.inr (.inl (.inr h2)))
   ·exact .inr qo
  ·exact .inl (.inr (.inr hy))
 ·obtain ⟨h1,h2,h3,h4⟩:=h.apT y hy
  refine ⟨h1,h2,λq=>?_,h4⟩
  have:=h.tlt y hy
  rcases hA y q with r|r
  ·exact h3 r
  ·omega
 ·obtain ⟨h1,h2,h3⟩:=h.apN y hy
  refine ⟨h1,λq=>?_,h3⟩
  have:=hg.lt y hy
  rcases hA y q with r|r
  ·exact h2 r
  ·omega
 ·rcases hA y hy with r|r
  ·exact h.apA y r
  ·have:=h.blt
   exact ⟨qo,λq=>by have:=(h.xlt y q).1;omega⟩
end
def Zbm (w:World) (base:Nat) (NA:Option Addr) (nc:Nat) (ns:List Zac) (AA:Option Addr) (ac:Nat) (as_:List Zaa):Prop :=
 Zah w base 106 2 AA as_.length ac (rAss as_)/\(∃ cs,Zah w base 155 4 NA ns.length nc cs/\Zb4 w (gOf NA++gOf AA++List.range base) cs ns/\Zfv cs ns.length)/\(∀ x,x∈gOf NA->x∉gOf AA)/\ns.length<=60/\as_.length<=1048576
theorem Zbm.nil (w:World) (base:Nat):Zbm w base none 0 [] none 0 []:=⟨Zah.nil _ _ _ _,⟨[],Zah.nil _ _ _ _,Zb4.nil _ _ _,Zfv.nil _⟩,(λx hx=>by cases hx),qs,qs⟩
theorem PMem.progM {w:World} {B base:Nat} {TA:Option Addr} {tc:Nat} {T:List Zaq} {AA:Option Addr} {ac:Nat} {as_:List Zaa} {NA:Option Addr} {nc:Nat} {ns:List Zac} (h:PMem w B base TA tc T AA ac as_ (List.range base) NA nc ns) (ha:as_.length<=1048576):Zbm w base NA nc ns AA ac as_:=by
 obtain ⟨cs,hg,hn,hp⟩:=h.nod
 exact ⟨h.ass,⟨cs,hg,hn.set_ (λy hy=>.inl (by simp only [List.mem_cons,List.mem_append] at hy ⊢;rcases hy with (q|q)|q<;>simp [q])),hp⟩,λx hx=>(h.apN x hx).2.1,h.cap,ha⟩
theorem Zbm.mono {w:World} {base b:Nat} {NA:Option Addr} {nc:Nat} {ns:List Zac} {AA:Option Addr} {ac:Nat} {as_:List Zaa} (h:Zbm w base NA nc ns AA ac as_) (hb:b<=base):Zbm w b NA nc ns AA ac as_:=by
 obtain ⟨h1,⟨cs,hg,hn,hp⟩,h3,h4,h5⟩:=h
 exact ⟨h1.mono hb,⟨cs,hg.mono hb,hn.set_ (λy hy=>.inl (by simp only [List.mem_append,List.mem_range] at hy ⊢;rcases hy with (q|q)|q;simp [q];simp [q];right;omega)),hp⟩,h3,h4,h5⟩
def Zbr (src:List UInt8) (w:World) (e:Ending) (w':World):Prop :=
 ∃ NA nc AA ac,e=.returned (.tuple #[.agg #[.slice NA (parF src).1.1.length nc,.slice AA (parF src).1.2.length ac],.int .i64 (parF src).2])/\Zbm w' w.heap.size NA nc (parF src).1.1 AA ac (parF src).1.2/\Below w.heap.size w w'
theorem Zbr.mk_ {src:List UInt8} {w w':World} {NA:Option Addr} {nc:Nat} {AA:Option Addr} {ac:Nat} {ns:List Zac} {as_:List Zaa} {o:Int} {n m:Nat} (h:parF src=((ns,as_),o)) (hn:n=ns.length) (hm:m=as_.length) (hp:Zbm w' w.heap.size NA nc ns AA ac as_) (hb:Below w.heap.size w w') :
  Zbr src w (.returned (.tuple #[.agg #[.slice NA n nc,.slice AA m ac],.int .i64 o])) w':=by
 subst hn;subst hm
 unfold Zbr
 rw [h]
 exact ⟨NA,nc,AA,ac,rfl,hp,hb⟩
def mtGo:Nat->Nat->List UInt8->List UInt8
 | 0,_,out=>out
 | f+1,k,out=>if k=0 then out else mtGo f (k / 10) (UInt8.ofNat (48+k % 10)::out)
def markT (k:Nat):List UInt8:=109::mtGo (k+1) k []
theorem mtGo_zero (f:Nat) (out:List UInt8):mtGo f 0 out=out:=by cases f<;>simp [mtGo]
theorem mtGo_pos {f k:Nat} {out:List UInt8} (h:k≠0):mtGo (f+1) k out=mtGo f (k / 10) (UInt8.ofNat (48+k % 10)::out):=by rw [mtGo,if_neg h]
set_option maxHeartbeats 2000000 in
theorem L_markText {k:Nat} (w:World) (h0:0<k) (h1:k<=1099511627776) :
  Calls Tryz.prog 144 #[.int .i64 k] w λe w'=>e=.returned (str (markT k))/\Below w.heap.size w w':=by
 have hk:¬ (k:Int)<=0:=qo
 obtain ⟨T,hT⟩:=qv (mtGo (k+1) k [])
 have HT:=qh (markT k=109::T) (by unfold markT;rw [hT])
 have HST:=qh (mtGo (k+1) k []=T) hT
 clear hT
 go_enter Tryz.func144,Tryz.ntmps144
 go_wp2_with fail
 go_loopw [0,3] (λq s wr=>∃ (m f:Nat) (out:List UInt8),m<=k/\q=.int .i64 m/\s=str out/\m<f/\out.length+f=k+1/\mtGo f m out=T/\Below w.heap.size w wr) (λq _ _=>(RowKit.intOf q).toNat)
 case atStart=>exact ⟨k,k+1,[],Nat.le_refl _,rfl,rfl,qo,qs,HST.out,Below.refl _ _⟩
 case round =>
  obtain ⟨m,f,out,hmk,rfl,rfl,hf,hlf,hg,hb⟩:=hrel
  obtain ⟨wo,rfl⟩:=qe wr
  have HB:=hdQ hb
  have hz:=hb.size
  have HG:=hdQ hg
  clear hb hg HST
  by_cases hm:m=0
  ·subst hm
   have HG0:=qh (out=T) (by have:=HG.out;rw [mtGo_zero] at this;exact this)
   have hl1:1+out.length<=9223372036854775807:=qo
   have hcat:({ data := #[109] }++{ data:=out.toArray }:ByteArray)=⟨(109::out).toArray⟩:=Zab [109] out
   go_wp2_with fail
   go_ret
   rw [HT.out,<- HG0.out]
   exact ⟨rfl,HB.out⟩
  ·obtain ⟨f',rfl⟩:∃ f',f=f'+1:=⟨f-1,qo⟩
   have hm0:(0:Int)<m:=qo
   obtain ⟨r,hr⟩:=qv (m % 10)
   obtain ⟨q,hq⟩:=qv (m / 10)
   have hr9:r<10:=qo
   have hqm:q<m:=qo
   have e1:Int.tmod (m:Int) 10=r:=by rw [<- hr];rfl
   have e2:Int.tdiv (m:Int) 10=q:=by rw [<- hq];rfl
   have HN:=qh (mtGo f' q (UInt8.ofNat (48+r)::out)=T) (by have:=HG.out;rw [mtGo_pos hm,hr,hq] at this;exact this)
   have hw1:IntKind.i64.wrap ((48:Int)+r)=48+r:=IntWalk.i64_in _ qo
   have hw2:=u8_dig hr9
   have hcv:=conv_byte (dgt r) (48+r) (ofNat_dig hr9)
   have hdg:UInt8.ofNat (48+r)=dgt r:=rfl
   rw [hdg] at HN
   generalize dgt r=bb at *
   have hl1:1+out.length<=9223372036854775807:=qo
   have hcat:({ data := #[bb] }++{ data:=out.toArray }:ByteArray)=⟨(bb::out).toArray⟩:=Zab [bb] out
   clear hr hq hm hdg
   go_wp2_with fail
   go_roundw
   case rel=>exact ⟨q,f',bb::out,qo,rfl,rfl,qo,by simp;omega,HN.out,bll⟩
   case measure=>exact qn
def mk1 (k:Nat) (x:Zac):Zac:=((k:Int),markT (k+1),((k+2:Nat):Int),Zby ((k+3:Nat):Int) x.2.2.2.length)
def mkN:Nat->List Zac->List Zac
 | _,[]=>[]
 | k,x::xs=>mk1 k x::mkN (k+3+x.2.2.2.length) xs
def szN:List Zac->Nat
 | []=>0
 | x::xs=>3+x.2.2.2.length+szN xs
def mixN (k:Nat) (ns:List Zac) (m:Nat):List Zac:=(mkN k ns).take m++ns.drop m
theorem Zep (k:Nat) (ns:List Zac):(mkN k ns).length=ns.length:=by
 induction ns generalizing k with
 | nil=>rfl
 | cons x xs ih=>simp [mkN,ih]
theorem mixN_zero (k:Nat) (ns:List Zac):mixN k ns 0=ns:=by simp [mixN]
theorem mixN_all (k:Nat) (ns:List Zac):mixN k ns ns.length=mkN k ns:=by
 unfold mixN
 rw [List.take_of_length_le (by rw [Zep];exact Nat.le_refl _),List.drop_length,List.append_nil]
theorem mixN_cons (k:Nat) (x:Zac) (xs:List Zac) (m:Nat):mixN k (x::xs) (m+1)=mk1 k x::mixN (k+3+x.2.2.2.length) xs m:=by simp [mixN,mkN]
theorem mixN_len (k:Nat) (ns:List Zac) (m:Nat) (hm:m<=ns.length):(mixN k ns m).length=ns.length:=by
 unfold mixN
 rw [List.length_append,List.length_take,List.length_drop,Zep]
 omega
theorem mixN_at {k:Nat} {ns:List Zac} {m:Nat} (hm:m<ns.length):(mixN k ns m)[m]'(by rw [mixN_len _ _ _ (Nat.le_of_lt hm)];exact hm)=ns[m]:=by
 unfold mixN
 rw [List.getElem_append_right (by rw [List.length_take,Zep];omega)]
 simp only [List.length_take,Zep,List.getElem_drop]
 congr 1
 omega
theorem mixN_succ {ns:List Zac}:∀ {k m:Nat} (hm:m<ns.length),mixN k ns (m+1)=(mixN k ns m).set m (mk1 (k+szN (ns.take m)) ns[m]):=by
 induction ns with
 | nil=>intro k m hm;simp at hm
 | cons x xs ih =>
  intro k m hm
  cases m with
  | zero=>simp [mixN,mkN,szN]
  | succ m =>
   have:=ih (k:=k+3+x.2.2.2.length) (m:=m) (by simpa using hm)
   rw [mixN_cons,mixN_cons,List.set_cons_succ,this]
   congr 2
   simp only [List.take_succ_cons,szN,List.getElem_cons_succ]
   congr 1
   omega
theorem szN_succ {ns:List Zac}:∀ {m:Nat} (hm:m<ns.length),szN (ns.take (m+1))=szN (ns.take m)+3+ns[m].2.2.2.length:=by
 induction ns with
 | nil=>intro m hm;simp at hm
 | cons x xs ih =>
  intro m hm
  cases m with
  | zero=>simp [szN]
  | succ m =>
   have:=ih (m:=m) (by simpa using hm)
   simp only [List.take_succ_cons,szN,List.getElem_cons_succ] at this ⊢
   omega
theorem szN_le {ns:List Zac} {b:Nat} (h:∀ x,x∈ns->x.2.2.2.length<=b):szN ns<=ns.length*(3+b):=by
 induction ns with
 | nil=>simp [szN]
 | cons x xs ih =>
  have h1:=h x qs
  have h2:=ih (λy hy=>h y (by simp [hy]))
  simp only [szN,List.length_cons,Nat.succ_mul]
  omega
def mkA1 (k:Nat):Zaa:=(markT k,((k+1:Nat):Int))
def mkA:Nat->List Zaa->List Zaa
 | _,[]=>[]
 | k,x::xs=>mkA1 k::mkA (k+2) xs
def mixA (k:Nat) (l:List Zaa) (m:Nat):List Zaa:=(mkA k l).take m++l.drop m
theorem mkA_len (k:Nat) (l:List Zaa):(mkA k l).length=l.length:=by
 induction l generalizing k with
 | nil=>rfl
 | cons x xs ih=>simp [mkA,ih]
theorem mixA_zero (k:Nat) (l:List Zaa):mixA k l 0=l:=by simp [mixA]
theorem mixA_all (k:Nat) (l:List Zaa):mixA k l l.length=mkA k l:=by
 unfold mixA
 rw [List.take_of_length_le (by rw [mkA_len];exact Nat.le_refl _),List.drop_length,List.append_nil]
theorem mixA_cons (k:Nat) (x:Zaa) (xs:List Zaa) (m:Nat):mixA k (x::xs) (m+1)=mkA1 k::mixA (k+2) xs m:=by simp [mixA,mkA]
theorem mixA_len (k:Nat) (l:List Zaa) (m:Nat) (hm:m<=l.length):(mixA k l m).length=l.length:=by
 unfold mixA
 rw [List.length_append,List.length_take,List.length_drop,mkA_len]
 omega
theorem mixA_succ {l:List Zaa}:∀ {k m:Nat} (hm:m<l.length),mixA k l (m+1)=(mixA k l m).set m (mkA1 (k+2*m)):=by
 induction l with
 | nil=>intro k m hm;simp at hm
 | cons x xs ih =>
  intro k m hm
  cases m with
  | zero=>simp [mixA,mkA]
  | succ m =>
   have:=ih (k:=k+2) (m:=m) (by simpa using hm)
   rw [mixA_cons,mixA_cons,List.set_cons_succ,this]
   congr 2
   simp only [mkA1]
   rw [show k+2+2*m=k+2*(m+1) by omega]
theorem mkN_at {ns:List Zac}:∀ {k m:Nat} (hm:m<ns.length),(mkN k ns)[m]'(by rw [Zep];exact hm)=mk1 (k+szN (ns.take m)) ns[m]:=by
 induction ns with
 | nil=>intro k m hm;simp at hm
 | cons x xs ih =>
  intro k m hm
  cases m with
  | zero=>simp [mkN,szN]
  | succ m =>
   have:=ih (k:=k+3+x.2.2.2.length) (m:=m) (by simpa using hm)
   simp only [mkN,List.getElem_cons_succ,this,List.take_succ_cons,szN]
   congr 1
   omega
theorem mkA_at {l:List Zaa}:∀ {k m:Nat} (hm:m<l.length),(mkA k l)[m]'(by rw [mkA_len];exact hm)=mkA1 (k+2*m):=by
 induction l with
 | nil=>intro k m hm;simp at hm
 | cons x xs ih =>
  intro k m hm
  cases m with
  | zero=>simp [mkA]
  | succ m =>
   have:=ih (k:=k+2) (m:=m) (by simpa using hm)
   simp only [mkA,List.getElem_cons_succ,this]
   rw [show k+2+2*m=k+2*(m+1) by omega]
theorem Zah.own_ {w:World} {base g size n c:Nat} {e:TypeId} {xs ds:List Value} (h:Own w g e (xs++ds)) (hl:xs.length=n*size) (hd:(xs++ds).length=c*size) (hb:base<=g) (hn:n<=c) (hc:c<=maxLen):Zah w base e size (some ⟨g,0,none⟩) n c xs:=by
 refine ⟨hl,.inr ⟨g,c,⟨xs++ds⟩,rfl,hb,h,hn,hc,hd, ?_⟩⟩
 show (xs++ds).take (n*size)=xs
 rw [<- hl];exact List.take_left' rfl
theorem Zah.open_ {w:World} {base n c size:Nat} {e:TypeId} {A:Option Addr} {xs:List Value} (h:Zah w base e size A n c xs) (hn:0<n):∃ g ds,A=some ⟨g,0,none⟩/\base<=g/\Own w g e (xs++ds)/\n<=c/\c<=maxLen/\(xs++ds).length=c*size:=by
 rcases h.shape with ⟨_,h0,_⟩|⟨g,cur,rfl,h1,h2,h3,h4,h5,h6⟩
 ·omega
 ·refine ⟨g,cur.toList.drop (n*size),rfl,h1, ?_,h3,h4, ?_⟩
  ·unfold Own
   rw [<- h6,List.take_append_drop]
   exact h2
  ·rw [<- h6,List.take_append_drop];exact h5
section
variable {w w':World} {base:Nat} {NA:Option Addr} {nc:Nat} {ns:List Zac} {AA:Option Addr} {ac:Nat} {as_:List Zaa}
theorem part_other {cs:List Value} {m i:Nat} {v0 v1 v2:Value} (h:i≠m):((((cs.set (m*4) v0).set (m*4+1) v1).set (m*4+2) v2).drop (i*4)).take 4=(cs.drop (i*4)).take 4:=by
 refine List.ext_getElem? λj=>?_
 rcases Nat.lt_or_ge j 4 with hj|hj
 ·rw [List.getElem?_take_of_lt hj,List.getElem?_take_of_lt hj,List.getElem?_drop,List.getElem?_drop,List.getElem?_set_ne qo,List.getElem?_set_ne qo,List.getElem?_set_ne qo]
 ·rw [List.getElem?_eq_none (by rw [List.length_take];omega),List.getElem?_eq_none (by rw [List.length_take];omega)]
theorem part_same {cs:List Value} {m n:Nat} {v0 v1 v2:Value} {A:Option Addr} {l c:Nat} (hl:cs.length=n*4) (hm:m<n) (h3:cs[m*4+3]? = some (.slice A l c)):((((cs.set (m*4) v0).set (m*4+1) v1).set (m*4+2) v2).drop (m*4)).take 4=[v0,v1,v2,.slice A l c]:=by
 refine List.ext_getElem? λj=>?_
 have hb:m*4+3<cs.length:=by rw [hl];omega
 rcases j with _|_|_|_|j
 ·rw [List.getElem?_take_of_lt qo,List.getElem?_drop]
  show (((cs.set (m*4) v0).set (m*4+1) v1).set (m*4+2) v2)[m*4]? = _
  rw [List.getElem?_set_ne qo,List.getElem?_set_ne qo,List.getElem?_set_self qo];rfl
 ·rw [List.getElem?_take_of_lt qo,List.getElem?_drop,List.getElem?_set_ne qo,List.getElem?_set_self (by rw [List.length_set];omega)];rfl
 ·rw [List.getElem?_take_of_lt qo,List.getElem?_drop,List.getElem?_set_self (by simp only [List.length_set];omega)];rfl
 ·rw [List.getElem?_take_of_lt qo,List.getElem?_drop,List.getElem?_set_ne qo,List.getElem?_set_ne qo,List.getElem?_set_ne qo,h3];rfl
 ·rw [List.getElem?_eq_none (by rw [List.length_take];omega),List.getElem?_eq_none qs]
theorem Zbm.open_ (h:Zbm w base NA nc ns AA ac as_) {m:Nat} (hm:m<ns.length):∃ (g:Nat) (cs ds:List Value) (A:Option Addr) (c:Nat),NA=some ⟨g,0,none⟩/\base<=g/\Own w g 155 (cs++ds)/\cs.length=ns.length*4/\ns.length<=nc/\nc<=maxLen /\
  (cs.drop (m*4)).take 4=[.int .i64 ns[m].1,str ns[m].2.1,.int .i64 ns[m].2.2.1,.slice A ns[m].2.2.2.length c]/\Zbu w 1 A ns[m].2.2.2.length c 3 (ints ns[m].2.2.2)/\(∀ y,y∈gOf A->y≠g/\base<=y) /\
  (∀ (w':World) (k k2:Int) (t:List UInt8) (xs:List Int),Own w' g 155 ((((cs.set (m*4) (.int .i64 k)).set (m*4+1) (str t)).set (m*4+2) (.int .i64 k2))++ds)->Zbu w' 1 A xs.length c 3 (ints xs)->xs.length=ns[m].2.2.2.length->Only w.heap.size (g::gOf A) w w'->Zbm w' base NA nc (ns.set m (k,t,k2,xs)) AA ac as_):=by
 obtain ⟨h1,⟨cs,hg,hn,hp⟩,h3,h4,h5⟩:=h
 have hlen:=hg.len
 obtain ⟨g,ds,hNA,hbg,ho,hcap,hmax,hdl⟩:=hg.open_ qo
 subst hNA
 obtain ⟨A,c,hcs,hr,ha⟩:=hn m hm
 have hAg:∀ y,y∈gOf A->y≠g/\base<=y:=λy hy=>by
  have:=ha y hy
  simp only [List.mem_append,List.mem_range,gOf,List.mem_cons,List.not_mem_nil,or_false,not_or] at this
  exact ⟨this.1.1,qo⟩
 have hA3:cs[m*4+3]? = some (.slice A ns[m].2.2.2.length c):=by
  have:((cs.drop (m*4)).take 4)[3]? = some (.slice A ns[m].2.2.2.length c):=by rw [hcs];rfl
  rwa [List.getElem?_take_of_lt qo,List.getElem?_drop] at this
 refine ⟨g,cs,ds,A,c,rfl,hbg,ho,hlen,hcap,hmax,hcs,hr,hAg,λw' k k2 t xs ho' hr' hxl hO=>?_⟩
 have hgl:g<w.heap.size:=ho.lt
 have hX:∀ y,y∈gOf AA->y∉g::gOf A:=λy hy q=>by
  rcases List.mem_cons.1 q with r|r
  ·exact h3 g (by simp [gOf]) (r ▸ hy)
  ·exact ha y r (by simp [hy])
 refine ⟨h1.only hO (λy hy=>⟨h1.lt y hy,hX y hy⟩),⟨((cs.set (m*4) (.int .i64 k)).set (m*4+1) (str t)).set (m*4+2) (.int .i64 k2), ?_,λi hi=>?_, ?_⟩,h3,by simpa using h4,h5⟩
 ·rw [List.length_set]
  exact Zah.own_ ho' (by simpa using hlen) (by simpa using hdl) hbg hcap hmax
 ·rw [List.length_set] at hi
  by_cases him:i=m
  ·subst him
   rw [part_same hlen hm hA3,List.getElem_set_self]
   refine ⟨A,c, ?_,hr',ha⟩
   simp only [hxl]
  ·rw [part_other him,List.getElem_set_ne qo]
   obtain ⟨A2,c2,hcs2,hr2,ha2⟩:=hn i hi
   refine ⟨A2,c2,hcs2,hr2.keep (λy hy hl=>hO.block y hl (λq=>?_)),ha2⟩
   have hB3:cs[i*4+3]? = some (.slice A2 ns[i].2.2.2.length c2):=by
    have:((cs.drop (i*4)).take 4)[3]? = some (.slice A2 ns[i].2.2.2.length c2):=by rw [hcs2];rfl
    rwa [List.getElem?_take_of_lt qo,List.getElem?_drop] at this
   rcases List.mem_cons.1 q with r|r
   ·exact ha2 y hy (by simp [gOf,r])
   ·rcases Nat.lt_or_ge i m with q2|q2
    ·exact hp i m A2 A _ _ _ _ q2 hm hB3 hA3 y hy r
    ·exact hp m i A A2 _ _ _ _ qo hi hA3 hB3 y r hy
 ·rw [List.length_set]
  intro i j A1 B1 l1 m1 c1 d1 hij hj e1 e2
  rw [List.getElem?_set_ne qo,List.getElem?_set_ne qo,List.getElem?_set_ne qo] at e1 e2
  exact hp i j A1 B1 l1 m1 c1 d1 hij hj e1 e2
end
theorem rAss_set {l:List Zaa}:∀ {m:Nat} {x:Zaa},m<l.length->rAss (l.set m x)=((rAss l).set (m*2) (str x.1)).set (m*2+1) (.int .i64 x.2):=by
 induction l with
 | nil=>intro m x hm;simp at hm
 | cons a l ih =>
  intro m x hm
  have e:∀ (b:Zaa) (r:List Zaa),rAss (b::r)=str b.1 :: .int .i64 b.2::rAss r:=λ_ _=>rfl
  cases m with
  | zero=>rw [List.set_cons_zero,e,e];rfl
  | succ m =>
   rw [List.set_cons_succ,e,e,ih (by simpa using hm),show (m+1)*2=m*2+1+1 by omega]
   simp only [List.set_cons_succ]
section
variable {w w':World} {base:Nat} {NA:Option Addr} {nc:Nat} {ns:List Zac} {AA:Option Addr} {ac:Nat} {as_:List Zaa}
theorem Zbm.openA (h:Zbm w base NA nc ns AA ac as_) {m:Nat} (hm:m<as_.length):∃ (g:Nat) (ds:List Value),AA=some ⟨g,0,none⟩/\base<=g/\Own w g 106 (rAss as_++ds)/\as_.length<=ac/\ac<=maxLen /\
  (∀ (w':World) (x:Zaa),Own w' g 106 (((rAss as_).set (m*2) (str x.1)).set (m*2+1) (.int .i64 x.2)++ds)->Only w.heap.size [g] w w'->Zbm w' base NA nc ns AA ac (as_.set m x)):=by
 obtain ⟨h1,⟨cs,hg,hn,hp⟩,h3,h4,h5⟩:=h
 obtain ⟨g,ds,rfl,hbg,ho,hcap,hmax,hdl⟩:=h1.open_ qo
 refine ⟨g,ds,rfl,hbg,ho,hcap,hmax,λw' x ho' hO=>?_⟩
 have hgN:g∉gOf NA:=λq=>h3 g q (by simp [gOf])
 refine ⟨?_,⟨cs,hg.only hO (λy hy=>⟨hg.lt y hy,λq=>hgN (by simp at q;exact q ▸ hy)⟩),hn.keep (λy hy hl=>hO.block y hl (λq=>hy (by simp at q;simp [gOf,q]))),hp⟩,h3,h4,by simpa using h5⟩
 rw [List.length_set,rAss_set hm]
 have hl:=rAss_len as_
 exact Zah.own_ ho' (by simpa using hl) (by simpa using hdl) hbg hcap hmax
end
def nodeFP (lo:Nat) (w:World) (ys:List Value) (x:Zac):Prop:=∃ A c,ys=[.int .i64 x.1,str x.2.1,.int .i64 x.2.2.1,.slice A x.2.2.2.length c]/\RS w 1 A x.2.2.2.length c (ints x.2.2.2)/\lowA lo A
def nodeF:Elem Zac where
 sz:=4
 P:=nodeFP
 len:=by rintro lo w ys x ⟨A,c,rfl,_⟩;rfl
 one:=by rintro lo w ys x ⟨A,c,rfl,_⟩;rfl
 keep:=by rintro lo w w' ys x ⟨A,c,rfl,h2,h3⟩ hu;exact ⟨A,c,rfl,h2.up h3 hu,h3⟩
 mono:=by rintro lo lo' w ys x ⟨A,c,rfl,h2,h3⟩ hl;exact ⟨A,c,rfl,h2,λy hy=>Nat.le_trans hl (h3 y hy)⟩
def assFP (lo:Nat) (w:World) (ys:List Value) (x:Zaa):Prop:=ys=[str x.1,.int .i64 x.2]
def assF:Elem Zaa where
 sz:=2
 P:=assFP
 len:=by rintro lo w ys x rfl;rfl
 one:=by rintro lo w ys x rfl;rfl
 keep:=by rintro lo w w' ys x h hu;exact h
 mono:=by rintro lo lo' w ys x h hl;exact h
theorem rAss_part {l:List Zaa} {i:Nat} (hi:i<l.length):((rAss l).drop (i*2)).take 2=[str l[i].1,.int .i64 l[i].2]:=by
 refine List.ext_getElem? λj=>?_
 obtain ⟨h0,h1⟩:=rAss_at hi
 rcases j with _|_|j
 ·rw [List.getElem?_take_of_lt qo,List.getElem?_drop];simpa using h0
 ·rw [List.getElem?_take_of_lt qo,List.getElem?_drop];simpa using h1
 ·rw [List.getElem?_eq_none (by rw [List.length_take];omega),List.getElem?_eq_none qs]
theorem Zbm.rows {w:World} {base:Nat} {NA:Option Addr} {nc:Nat} {ns:List Zac} {AA:Option Addr} {ac:Nat} {as_:List Zaa} (h:Zbm w base NA nc ns AA ac as_):RowL nodeF 0 w (.slice NA ns.length nc) ns/\RowL assF 0 w (.slice AA as_.length ac) as_:=by
 obtain ⟨h1,⟨cs,hg,hn,hp⟩,h3,h4,h5⟩:=h
 refine ⟨⟨NA,nc,cs,rfl,hg.rs,λ_ _=>Nat.zero_le _,λi hi=>?_⟩,⟨AA,ac,rAss as_,rfl,h1.rs,λ_ _=>Nat.zero_le _,λi hi=>rAss_part hi⟩⟩
 obtain ⟨A,c,e,hr,_⟩:=hn i hi
 exact ⟨A,c,e,hr.rs,λ_ _=>Nat.zero_le _⟩
theorem part_cells {cs:List Value} {m:Nat} {a b c d:Value} (h:(cs.drop (m*4)).take 4=[a,b,c,d]):cs[m*4]? = some a/\cs[m*4+1]? = some b/\cs[m*4+2]? = some c/\cs[m*4+3]? = some d:=by
 have e:∀ j,j<4->cs[m*4+j]? = [a,b,c,d][j]? := λj hj=>by rw [<- h,List.getElem?_take_of_lt hj,List.getElem?_drop]
 exact ⟨e 0 qo,e 1 qo,e 2 qo,e 3 qo⟩
theorem some_lt {cs:List Value} {i:Nat} {a:Value} (h:cs[i]? = some a):i<cs.length:=by
 rcases Nat.lt_or_ge i cs.length with q|q
 ·exact q
 ·rw [List.getElem?_eq_none q] at h;cases h
def LowN (w:World) (NA:Option Addr) (n hi:Nat):Prop:=(∀ y,y∈gOf NA->y<hi)/\∀ (j:Nat),j<n->∀ (A:Option Addr) (l c g:Nat),NA=some ⟨g,0,none⟩->w.cell? ⟨g,j*4+3,none⟩=some (.slice A l c)->∀ y,y∈gOf A->y<hi
theorem Zbm.lowN {w:World} {base:Nat} {NA:Option Addr} {nc:Nat} {ns:List Zac} {AA:Option Addr} {ac:Nat} {as_:List Zaa} (h:Zbm w base NA nc ns AA ac as_):LowN w NA ns.length w.heap.size:=by
 refine ⟨λy hy=>by obtain ⟨_,⟨cs,hg,_⟩,_⟩:=h;exact hg.lt y hy,λj hj A l c g hg hc y hy=>?_⟩
 obtain ⟨g',cs,ds,A',c',hNA,hbg,ho,hlen,hnc,hmax,hcs,hr,hAg,hch⟩:=h.open_ hj
 rw [hNA] at hg
 injection hg with hg
 injection hg with hg
 subst hg
 obtain ⟨q0,q1,q2,q3⟩:=part_cells hcs
 have l3:=some_lt q3
 rw [ho.cell,List.getElem?_append_left qo,q3] at hc
 injection hc with hc
 injection hc with e1 e2 e3
 subst e1
 exact hr.lt y hy
theorem LowN.step {w w':World} {NA:Option Addr} {n hi:Nat} (h:LowN w NA n hi) (hb:Below w.heap.size w w') (hi2:hi<=w.heap.size):LowN w' NA n hi :=
 ⟨h.1,λj hj A l c g hg hc y hy=>h.2 j hj A l c g hg (by
  have hgl:g<w.heap.size:=by have:=h.1 g (by rw [hg];simp [gOf]);omega
  rw [hb.cell (p:=⟨g,j*4+3,none⟩) hgl] at hc;exact hc) y hy⟩
theorem L_markNodeSL {base:Nat} {NA:Option Addr} {nc:Nat} {ns:List Zac} {AA:Option Addr} {ac:Nat} {as_:List Zaa} {k hi:Nat} (w:World) (h:Zbm w base NA nc ns AA ac as_) (hlow:LowN w NA ns.length hi) (hb:base<=w.heap.size) (hx:∀ x,x∈ns->x.2.2.2.length<=3) (h0:0<k) (h1:k<=1048576) :
  Calls Tryz.prog 85 #[.slice NA ns.length nc,.int .i64 k] w λe w'=>e=.returned (.int .i64 ((k+szN ns:Nat):Int))/\Zbm w' base NA nc (mkN k ns) AA ac as_/\Below base w w'/\LowN w' NA ns.length hi/\(∀ y,hi<=y->y<w.heap.size->w'.heap[y]? = w.heap[y]?):=by
 have hcap:=h.2.2.2.1
 have HP:=hdQ h
 have HX:=hdQ hx
 have HLW:=hdQ hlow
 clear h hx hlow
 go_enter Tryz.func85,Tryz.ntmps85
 go_wp2_with fail
 go_loopw [1,5] (λq i wr=>∃ m:Nat,m<=ns.length/\q=.int .i64 ((k+szN (ns.take m):Nat):Int)/\i=.int .i64 m/\Zbm wr base NA nc (mixN k ns m) AA ac as_/\Below base w wr/\LowN wr NA ns.length hi/\(∀ y,hi<=y->y<w.heap.size->wr.heap[y]? = w.heap[y]?)) (λ_ i _=>ns.length-(RowKit.intOf i).toNat)
 case atStart=>exact ⟨0,Nat.zero_le _,by simp [szN],rfl,by rw [mixN_zero];exact HP.out,Below.refl _ _,HLW.out,λ_ _ _=>rfl⟩
 case round =>
  obtain ⟨m,hm,rfl,rfl,hp,hbw,hlo,hmid⟩:=hrel
  obtain ⟨wo,rfl⟩:=qe wr
  have hz:=hbw.size
  have HPm:=hdQ hp
  have HBm:=hdQ hbw
  have HLO:=hdQ hlo
  have HMID:=hdQ hmid
  clear hp hbw hlo hmid HLW
  by_cases hlt:m<ns.length
  ·have hlm:m<(mixN k ns m).length:=by rw [mixN_len _ _ _ hm];exact hlt
   obtain ⟨g,cs,ds,A,c,hNA,hbg,ho,hlen,hnc,hmax,hcs,hr,hAg,hch⟩:=HPm.out.open_ hlm
   have hat:=mixN_at (k:=k) hlt
   have hsl:(mixN k ns m).length=ns.length:=mixN_len _ _ _ hm
   rw [hat] at hcs hr hch
   rw [hsl] at hlen hnc
   subst hNA
   have hargs:=HX.out _ (List.getElem_mem hlt)
   have hsz:szN (ns.take m)<=m*6:=by
    have:=szN_le (ns:=ns.take m) (b:=3) (λx hx=>HX.out x (List.mem_of_mem_take hx))
    rw [List.length_take] at this
    have h2:min m ns.length*(3+3)=m*6:=by rw [Nat.min_eq_left hm]
    omega
   have hsuc:=szN_succ hlt
   have HSUC:=hdQ (mixN_succ (k:=k) hlt)
   obtain ⟨K,hK⟩:=qv (k+szN (ns.take m))
   have hKb:K<=2097152:=qo
   have hK0:0<K:=qo
   obtain ⟨x,hxe⟩:=qv (ns[m])
   have HND:Hid (Zbm wo base (some ⟨g,0,none⟩) nc (mixN k ns m) AA ac as_):=HPm
   rw [hxe] at hcs hr hch hargs hsuc
   rw [hK] at HSUC ⊢
   obtain ⟨q0,q1,q2,q3⟩:=part_cells hcs
   have l3:=some_lt q3
   have HO:=hdQ ho
   have HR:=hdQ hr
   have HCH:=hdQ hch
   have HAG:=hdQ hAg
   have d0:wo.cell? ⟨g,m*4,none⟩=some (.int .i64 x.1):=by rw [ho.cell,List.getElem?_append_left qo];exact q0
   have hAh:∀ y,y∈gOf A->y<hi:=HLO.out.2 m hlt A _ c g rfl (by rw [ho.cell,List.getElem?_append_left qo];exact q3)
   have hgh:g<hi:=HLO.out.1 g (by simp [gOf])
   have df:=ho.frozen
   have dl:=ho.lt
   unfold maxLen at hmax
   have hw1:IntKind.i64.wrap ((K:Int)+1)=((K+1:Nat):Int):=by rw [show (K:Int)+1=((K+1:Nat):Int) by omega];exact IntWalk.i64_in _ qo
   have hlt':(m:Int)<ns.length:=qo
   have hw2:IntKind.i64.wrap ((K:Int)+1+1)=(K:Int)+2:=by rw [show (K:Int)+1+1=(K:Int)+2 by omega];exact IntWalk.i64_in _ qo
   have hw3:IntKind.i64.wrap ((K:Int)+2+1)=(K:Int)+3:=by rw [show (K:Int)+2+1=(K:Int)+3 by omega];exact IntWalk.i64_in _ qo
   have hw1:IntKind.i64.wrap ((K:Int)+1)=(K:Int)+1:=IntWalk.i64_in _ qo
   have HMT:=qh (∀ wx,CB_ Tryz.prog 144 #[.int .i64 ((K:Int)+1)] wx (str (markT (K+1)))) (λwx=>by have:=L_markText (k:=K+1) wx qo qo;rw [show ((K+1:Nat):Int)=(K:Int)+1 by omega] at this;exact this)
   have HMI:=qh (∀ (wx:World) (zs:List Value),Zbu wx 1 A x.2.2.2.length c 3 zs->Calls Tryz.prog 84 #[.slice A x.2.2.2.length c,.int .i64 ((K:Int)+3)] wx λe w'=>e=.returned (.int .i64 ((K:Int)+3+x.2.2.2.length))/\Zbu w' 1 A x.2.2.2.length c 3 (ints (Zby ((K:Int)+3) x.2.2.2.length))/\Only wx.heap.size (gOf A) wx w') (λwx zs hz=>L_markIntSG wx hz qo qo qo)
   obtain ⟨T,hT⟩:=qv (markT (K+1))
   rw [hT] at HMT
   have HTE:=hdQ hT
   obtain ⟨n,hn⟩:=qv (x.2.2.2.length)
   have HNE:=hdQ hn
   rw [hn] at HMI hargs hsuc q3
   have HR':Hid (Zbu wo 1 A n c 3 (ints x.2.2.2)):=hdQ (by rw [<- hn];exact HR.out)
   have hnn:¬ (K:Int)+3+n<0:=qo
   have hKK:=qh ((K:Int)+3+n=((k+szN (ns.take (m+1)):Nat):Int)) qo
   clear ho hr hch hAg hat hcs hT hn hsuc hsz
   go_wp2_with fail
   (with_reducible refine (HMT.out _).mono ?_)
   rintro e w2 ⟨rfl,hb2⟩
   have ho2:=Own.step hb2 (HO.out.set_left (m*4) qo (.int .i64 K))
   have hz2:=hb2.size
   have hAf:∀ y,y∈gOf A->y≠g:=λy hy=>(HAG.out y hy).1
   have HO2:=hdQ ho2
   have HRx:=qh (Zbu ((w2.setCell ⟨g,m*4+1,none⟩ (str T)).setCell ⟨g,m*4+2,none⟩ (.int .i64 ((K:Int)+2))) 1 A n c 3 (ints x.2.2.2)) (Zbu.far (Zbu.far (Zbu.step hb2 (Zbu.far HR'.out (p:=⟨g,m*4,none⟩) hAf _)) (p:=⟨g,m*4+1,none⟩) hAf _) (p:=⟨g,m*4+2,none⟩) hAf _)
   have hOa:Only wo.heap.size (g::gOf A) wo (wo.setCell ⟨g,m*4,none⟩ (.int .i64 K)):=(Only.refl _ _ _).setCell qs _
   have HOb:=hdQ (hOa.sub (Only.of_below hb2 []) hOa.size (λx hx=>by cases hx))
   have HOc:=hdQ ((HOb.out.setCell (p:=⟨g,m*4+1,none⟩) qs (str T)).setCell (p:=⟨g,m*4+2,none⟩) qs (.int .i64 ((K:Int)+2)))
   have HO4:=hdQ ((ho2.set_left (m*4+1) (by simp;omega) (str T)).set_left (m*4+2) (by simp;omega) (.int .i64 ((K:Int)+2)))
   have e1:w2.cell? ⟨g,m*4+1,none⟩=some (str x.2.1):=by rw [ho2.cell,List.getElem?_append_left (by simp;omega),List.getElem?_set_ne qo];exact q1
   have e2:w2.cell? ⟨g,m*4+2,none⟩=some (.int .i64 x.2.2.1):=by rw [ho2.cell,List.getElem?_append_left (by simp;omega),List.getElem?_set_ne qo];exact q2
   have e3:w2.cell? ⟨g,m*4+3,none⟩=some (.slice A n c):=by rw [ho2.cell,List.getElem?_append_left (by simp;omega),List.getElem?_set_ne qo];exact q3
   have ef:=ho2.frozen
   have el:=ho2.lt
   clear hb2 hOa d0 df ho2
   go_wp2_with fail
   (with_reducible refine (HMI.out _ _ HRx.out).mono ?_)
   rintro e w5 ⟨rfl,hr5,hO5⟩
   have hO':=hO5.own HO4.out HO4.out.lt (λq=>hAf g q rfl)
   have hOd:=HOc.out.sub hO5 HOc.out.size (λx hx=>.inl (by simp [hx]))
   have HP5:=qh (Zbm w5 base (some ⟨g,0,none⟩) nc (mixN k ns (m+1)) AA ac as_) (by
    have hl:(Zby ((K:Int)+3) n).length=n:=by simp [Zby]
    have h9:=HCH.out w5 K ((K:Int)+2) T (Zby ((K:Int)+3) n) hO' (by rw [hl];exact hr5) (by rw [hl,HNE.out]) hOd
    have e9:mk1 K x=((K:Int),T,(K:Int)+2,Zby ((K:Int)+3) n):=by
     unfold mk1
     rw [HTE.out,HNE.out]
     have a2:((K+2:Nat):Int)=(K:Int)+2:=qo
     have a3:((K+3:Nat):Int)=(K:Int)+3:=qo
     rw [a2,a3]
    rw [HSUC.out,hxe,e9]
    exact h9)
   have HB5:=qh (Below base w w5) (HBm.out.trans (Only.below hOd qo (λy hy=>by
    rcases List.mem_cons.1 hy with rfl|hy
    ·exact hbg
    ·exact (HAG.out y hy).2)))
   have HLO5:=qh (LowN w5 (some ⟨g,0,none⟩) ns.length hi) ⟨HLO.out.1,λj hj A' l' c' g' hg' hc y hy=>HLO.out.2 j hj A' l' c' g' hg' (by
    injection hg' with hg'
    injection hg' with hg'
    subst hg'
    have hjl:j*4+3<cs.length:=by rw [hlen];omega
    rw [hO'.cell,List.getElem?_append_left (by simp;omega),List.getElem?_set_ne qo,List.getElem?_set_ne qo,List.getElem?_set_ne qo] at hc
    rw [HO.out.cell,List.getElem?_append_left hjl]
    exact hc) y hy⟩
   have HMID5:=qh (∀ y,hi<=y->y<w.heap.size->w5.heap[y]? = w.heap[y]?) (λy h1 h2=>(hOd.block y qo (λq=>by
    rcases List.mem_cons.1 q with r|r
    ·omega
    ·have:=hAh y r;omega)).trans (HMID.out y h1 h2))
   clear hr5 hO5 hO' hOd e1 e2 e3 ef
   go_wp2_with fail
   go_roundw
   case rel=>exact ⟨m+1,qo,by rw [hKK.out],qg,HP5.out,HB5.out,HLO5.out,HMID5.out⟩
   case measure=>exact qn
  ·obtain rfl:m=ns.length:=by omega
   go_wp2_with fail
   go_ret
   rw [mixN_all] at HPm
   rw [List.take_length]
   exact ⟨rfl,HPm.out,HBm.out,HLO.out,HMID.out⟩
theorem L_markAssignmentSL {base:Nat} {NA:Option Addr} {nc:Nat} {ns:List Zac} {AA:Option Addr} {ac:Nat} {as_:List Zaa} {k hi:Nat} (w:World) (h:Zbm w base NA nc ns AA ac as_) (hAA:∀ y,y∈gOf AA->y<hi) (hb:base<=w.heap.size) (h0:0<k) (h1:k<=1048576) :
  Calls Tryz.prog 86 #[.slice AA as_.length ac,.int .i64 k] w λe w'=>e=.returned (.int .i64 ((k+2*as_.length:Nat):Int))/\Zbm w' base NA nc ns AA ac (mkA k as_)/\Below base w w'/\(∀ y,y∉gOf AA->y<w.heap.size->w'.heap[y]? = w.heap[y]?):=by
 have hcap:=h.2.2.2.2
 have HP:=hdQ h
 have HAA:=hdQ hAA
 clear h hAA
 go_enter Tryz.func86,Tryz.ntmps86
 go_wp2_with fail
 go_loopw [1,5] (λq i wr=>∃ m:Nat,m<=as_.length/\q=.int .i64 ((k+2*m:Nat):Int)/\i=.int .i64 m/\Zbm wr base NA nc ns AA ac (mixA k as_ m)/\Below base w wr/\(∀ y,y∉gOf AA->y<w.heap.size->wr.heap[y]? = w.heap[y]?)) (λ_ i _=>as_.length-(RowKit.intOf i).toNat)
 case atStart=>exact ⟨0,Nat.zero_le _,qs,rfl,by rw [mixA_zero];exact HP.out,Below.refl _ _,λ_ _ _=>rfl⟩
 case round =>
  obtain ⟨m,hm,rfl,rfl,hp,hbw,hmid⟩:=hrel
  obtain ⟨wo,rfl⟩:=qe wr
  have hz:=hbw.size
  have HPm:=hdQ hp
  have HBm:=hdQ hbw
  have HMID:=hdQ hmid
  clear hp hbw hmid
  by_cases hlt:m<as_.length
  ·have hsl:(mixA k as_ m).length=as_.length:=mixA_len _ _ _ hm
   obtain ⟨g,ds,hAA,hbg,ho,hnc,hmax,hch⟩:=HPm.out.openA (m:=m) (by rw [hsl];exact hlt)
   have hat:=rAss_at (l:=mixA k as_ m) (k:=m) (by rw [hsl];exact hlt)
   have hln:=rAss_len (mixA k as_ m)
   have HSUC:=hdQ (mixA_succ (k:=k) hlt)
   rw [hsl] at hnc hln
   subst hAA
   obtain ⟨K,hK⟩:=qv (k+2*m)
   have hKb:K<=3145728:=qo
   have hK0:0<K:=qo
   rw [hK] at HSUC ⊢
   generalize hL:mixA k as_ m=L at *
   have hLm:m<L.length:=by rw [hsl];exact hlt
   generalize hx:L[m]=x at *
   obtain ⟨q0,q1⟩:=hat
   have HO:=hdQ ho
   have HCH:=hdQ hch
   have d0:wo.cell? ⟨g,m*2,none⟩=some (str x.1):=by rw [ho.cell,List.getElem?_append_left qo];exact q0
   have df:=ho.frozen
   have dl:=ho.lt
   unfold maxLen at hmax
   have hw1:IntKind.i64.wrap ((K:Int)+1)=(K:Int)+1:=IntWalk.i64_in _ qo
   have hw2:IntKind.i64.wrap ((K:Int)+1+1)=(K:Int)+2:=by rw [show (K:Int)+1+1=(K:Int)+2 by omega];exact IntWalk.i64_in _ qo
   have hlt':(m:Int)<as_.length:=qo
   have HMT:=qh (∀ wx,CB_ Tryz.prog 144 #[.int .i64 K] wx (str (markT K))) (λwx=>L_markText wx qo qo)
   obtain ⟨T,hT⟩:=qv (markT K)
   rw [hT] at HMT
   have HTE:=hdQ hT
   have hKK:=qh ((K:Int)+2=((k+2*(m+1):Nat):Int)) qo
   clear ho hch hT
   go_wp2_with fail
   (with_reducible refine (HMT.out _).mono ?_)
   rintro e w2 ⟨rfl,hb2⟩
   have ho2:=Own.step hb2 HO.out
   have hz2:=hb2.size
   have HO3:=hdQ ((ho2.set_left (m*2) qo (str T)).set_left (m*2+1) (by simp;omega) (.int .i64 ((K:Int)+1)))
   have e0:w2.cell? ⟨g,m*2,none⟩=some (str x.1):=by rw [ho2.cell,List.getElem?_append_left qo];exact q0
   have e1:w2.cell? ⟨g,m*2+1,none⟩=some (.int .i64 x.2):=by rw [ho2.cell,List.getElem?_append_left qo];exact q1
   have ef:=ho2.frozen
   have el:=ho2.lt
   have hOb:Only wo.heap.size [g] wo w2:=Only.of_below hb2 _
   have hOc:=(hOb.setCell (p:=⟨g,m*2,none⟩) qs (str T)).setCell (p:=⟨g,m*2+1,none⟩) qs (.int .i64 ((K:Int)+1))
   have HP5:=qh (Zbm ((w2.setCell ⟨g,m*2,none⟩ (str T)).setCell ⟨g,m*2+1,none⟩ (.int .i64 ((K:Int)+1))) base NA nc ns (some ⟨g,0,none⟩) ac (mixA k as_ (m+1))) (by
    have h9:=HCH.out _ (T,(K:Int)+1) HO3.out hOc
    have e9:mkA1 K=(T,(K:Int)+1):=by
     unfold mkA1
     rw [HTE.out,show ((K+1:Nat):Int)=(K:Int)+1 by omega]
    rw [HSUC.out,e9]
    exact h9)
   have HB5:=qh (Below base w ((w2.setCell ⟨g,m*2,none⟩ (str T)).setCell ⟨g,m*2+1,none⟩ (.int .i64 ((K:Int)+1)))) (HBm.out.trans (Only.below hOc qo (λy hy=>by simp at hy;omega)))
   have hgh:g<hi:=HAA.out g (by simp [gOf])
   have HMID5:=qh (∀ y,y∉gOf (some ⟨g,0,none⟩)->y<w.heap.size->((w2.setCell ⟨g,m*2,none⟩ (str T)).setCell ⟨g,m*2+1,none⟩ (.int .i64 ((K:Int)+1))).heap[y]? = w.heap[y]?) (λy h1 h2=>(hOc.block y qo (λq=>h1 (by simp at q;subst q;simp [gOf]))).trans (HMID.out y h1 h2))
   clear hb2 hOb hOc ho2 d0 df HO3
   go_wp2_with fail
   go_roundw
   case rel=>exact ⟨m+1,qo,by rw [hKK.out],qg,HP5.out,HB5.out,HMID5.out⟩
   case measure=>exact qn
  ·obtain rfl:m=as_.length:=by omega
   go_wp2_with fail
   go_ret
   rw [mixA_all] at HPm
   exact ⟨rfl,HPm.out,HBm.out,HMID.out⟩
theorem Zbm.keep {w w':World} {base:Nat} {NA:Option Addr} {nc:Nat} {ns:List Zac} {AA:Option Addr} {ac:Nat} {as_:List Zaa} (h:Zbm w base NA nc ns AA ac as_) (hk:∀ x,base<=x->x<w.heap.size->w'.heap[x]? = w.heap[x]?):Zbm w' base NA nc ns AA ac as_:=by
 obtain ⟨h1,⟨cs,hg,hn,hp⟩,h3,h4,h5⟩:=h
 exact ⟨h1.keep (λx hx=>hk x (h1.ge x hx) (h1.lt x hx)),⟨cs,hg.keep (λx hx=>hk x (hg.ge x hx) (hg.lt x hx)),hn.keep (λy hy hl=>hk y (by simp only [List.mem_append,List.mem_range,not_or] at hy;omega) hl),hp⟩,h3,h4,h5⟩
theorem Zbm.keepHi {w w':World} {base hi:Nat} {NA:Option Addr} {nc:Nat} {ns:List Zac} {AA:Option Addr} {ac:Nat} {as_:List Zaa} (h:Zbm w base NA nc ns AA ac as_) (hlow:LowN w NA ns.length hi) (hA:∀ y,y∈gOf AA->y<hi) (hk:∀ x,base<=x->x<hi->x<w.heap.size->w'.heap[x]? = w.heap[x]?):Zbm w' base NA nc ns AA ac as_/\LowN w' NA ns.length hi:=by
 obtain ⟨h1,⟨cs,hg,hn,hp⟩,h3,h4,h5⟩:=h
 have hN:∀ x,x∈gOf NA->w'.heap[x]? = w.heap[x]? := λx hx=>hk x (hg.ge x hx) (hlow.1 x hx) (hg.lt x hx)
 have hcell:∀ g,NA=some ⟨g,0,none⟩->∀ o,w'.cell? ⟨g,o,none⟩=w.cell? ⟨g,o,none⟩:=λg hgN o=>World.cell?_of_block (hN g (by rw [hgN];simp [gOf]))
 refine ⟨⟨h1.keep (λx hx=>hk x (h1.ge x hx) (hA x hx) (h1.lt x hx)),⟨cs,hg.keep hN,λi hi'=>?_,hp⟩,h3,h4,h5⟩,hlow.1,λj hj A l c g hgN hc y hy=>hlow.2 j hj A l c g hgN (by rw [<- hcell g hgN];exact hc) y hy⟩
 obtain ⟨A,c,e,hr,ha⟩:=hn i hi'
 have hpos:0<ns.length:=Nat.zero_lt_of_lt hi'
 refine ⟨A,c,e,hr.keep (λy hy hl=>?_),ha⟩
 have hyb:base<=y:=by
  have:=ha y hy
  simp only [List.mem_append,List.mem_range,not_or] at this
  omega
 refine hk y hyb ?_ hl
 obtain ⟨g,ds,hgN,hgb,ho,hnc,hmax,hlen⟩:=hg.open_ hpos
 have hcl:=hg.len
 have h3':cs[i*4+3]? = some (.slice A ns[i].2.2.2.length c):=by
  have:((cs.drop (i*4)).take 4)[3]? = some (.slice A ns[i].2.2.2.length c):=by rw [e];rfl
  rw [List.getElem?_take_of_lt qo,List.getElem?_drop] at this
  exact this
 have hlt:=some_lt h3'
 exact hlow.2 i hi' A _ c g hgN (by rw [ho.cell,List.getElem?_append_left hlt,h3']) y hy
theorem LowN.mono {w:World} {NA:Option Addr} {n hi hi':Nat} (h:LowN w NA n hi) (hh:hi<=hi'):LowN w NA n hi':=⟨λy hy=>Nat.lt_of_lt_of_le (h.1 y hy) hh,λj hj A l c g a b y hy=>Nat.lt_of_lt_of_le (h.2 j hj A l c g a b y hy) hh⟩
structure ProgAtM (w:World) (base:Nat) (cs:List Value) (i:Nat) (p:Zae) (lo hi:Nat):Prop where
 ex:∃ (NA:Option Addr) (nc:Nat) (AA:Option Addr) (ac:Nat),cs[i*2]? = some (.slice NA p.1.length nc)/\cs[i*2+1]? = some (.slice AA p.2.length ac)/\Zbm w lo NA nc p.1 AA ac p.2/\LowN w NA p.1.length hi/\(∀ y,y∈gOf AA->y<hi)
 b0:base<=lo
 b1:lo<=hi
 b2:hi<=w.heap.size
def Zcq (w:World) (base:Nat) (X:List Nat) (P:Option Addr) (pc:Nat) (ps:List Zae):Prop :=
 ∃ (cs:List Value) (lo hi:Nat->Nat),Zah w base 62 2 P ps.length pc cs/\(∀ (i:Nat) (h:i<ps.length),ProgAtM w base cs i ps[i] (lo i) (hi i))/\(∀ i j,i<j->j<ps.length->hi i<=lo j)/\(∀ x,x∈gOf P++X->∀ i,i<ps.length->x<lo i∨hi i<=x)/\(∀ x,x∈X->x∉gOf P)
theorem ProgAtM.keep {w w':World} {base:Nat} {cs:List Value} {i:Nat} {p:Zae} {lo hi:Nat} (h:ProgAtM w base cs i p lo hi) (hz:w.heap.size<=w'.heap.size) (hk:∀ x,lo<=x->x<hi->w'.heap[x]? = w.heap[x]?):ProgAtM w' base cs i p lo hi:=by
 obtain ⟨⟨NA,nc,AA,ac,h1,h2,h3,h4,h5⟩,b0,b1,b2⟩:=h
 obtain ⟨k1,k2⟩:=h3.keepHi h4 h5 (λx a b _=>hk x a b)
 exact ⟨⟨NA,nc,AA,ac,h1,h2,k1,k2,h5⟩,b0,b1,Nat.le_trans b2 hz⟩
theorem Zcq.keep {w w':World} {base:Nat} {X:List Nat} {P:Option Addr} {pc:Nat} {ps:List Zae} (h:Zcq w base X P pc ps) (hz:w.heap.size<=w'.heap.size) (hk:∀ x,base<=x->x<w.heap.size->x∉X->w'.heap[x]? = w.heap[x]?):Zcq w' base X P pc ps:=by
 obtain ⟨cs,lo,hi,h1,h2,h3,h4,h5⟩:=h
 refine ⟨cs,lo,hi,h1.keep (λx hx=>hk x (h1.ge x hx) (h1.lt x hx) (λq=>h5 x q hx)),λi hi'=>(h2 i hi').keep hz (λx a b=>?_),h3,h4,h5⟩
 have q:=h2 i hi'
 have b0:=q.b0
 have b2:=q.b2
 refine hk x qo qo (λhX=>?_)
 have:=h4 x (by simp [hX]) i hi'
 omega
theorem Zcq.step {w w':World} {base:Nat} {X:List Nat} {P:Option Addr} {pc:Nat} {ps:List Zae} (hb:Below w.heap.size w w') (h:Zcq w base X P pc ps):Zcq w' base X P pc ps:=h.keep hb.size (λx _ hl _=>hb.block x hl)
theorem Zcq.nil (w:World) (base:Nat) (X:List Nat):Zcq w base X none 0 []:=⟨[],λ_=>0,λ_=>0,Zah.nil _ _ _ _,(λi h=>absurd h qs),(λi j _ h=>absurd h qs),(λx _ i h=>absurd h qs),(λx _ h=>by cases h)⟩
theorem Zcq.snoc {u v w w':World} {base:Nat} {X:List Nat} {P P':Option Addr} {pc c':Nat} {ps:List Zae} {p:Zae} {NA AA:Option Addr} {nc ac:Nat} {cs:List Value} {lo hi:Nat->Nat}
  (h1:Zah u base 62 2 P ps.length pc cs) (h2:∀ (i:Nat) (h:i<ps.length),ProgAtM u base cs i ps[i] (lo i) (hi i)) (h3:∀ i j,i<j->j<ps.length->hi i<=lo j) (h4:∀ x,x∈gOf P++X->∀ i,i<ps.length->x<lo i∨hi i<=x) (h5:∀ x,x∈X->x∉gOf P)
  (hX:∀ x,x∈X->x<u.heap.size) (hbu:base<=u.heap.size) (hb:Below u.heap.size u v) (hpm:Zbm v u.heap.size NA nc p.1 AA ac p.2) (hvw:Below v.heap.size v w)
  (ap:Za5 w base 62 2 P ps.length (cs++[.slice NA p.1.length nc,.slice AA p.2.length ac]) P' (ps.length+1) c' w'):Zcq w' base X P' c' (ps++[p]):=by
 have huv:=hb.size
 have hvz:=hvw.size
 have hsz:=ap.2.2.2.1
 have hlow:=hpm.lowN
 have hAA:∀ y,y∈gOf AA->y<v.heap.size:=λy hy=>hpm.1.lt y hy
 have hcl:cs.length=ps.length*2:=h1.len
 have hblk:∀ y,y<w.heap.size->y∉gOf P->w'.heap[y]? = w.heap[y]? := λy hy hN=>ap.2.2.1.block y hy (by cases P<;>simp_all [gOf])
 have hP':∀ y,y∈gOf P'->y∈gOf P∨y=w.heap.size:=λy hy=>by
  rcases ap.2.2.2.2 with e|e
  ·rw [e] at hy;exact .inl hy
  ·rw [e] at hy;right;simpa using hy
 have hPu:∀ y,y∈gOf P->y<u.heap.size:=h1.lt
 refine ⟨cs++[.slice NA p.1.length nc,.slice AA p.2.length ac],λi=>if i=ps.length then u.heap.size else lo i,λi=>if i=ps.length then v.heap.size else hi i,by rw [List.length_append];exact ap.1,λi hi'=>?_,λi j hij hj=>?_,λx hx i hi'=>?_,λx hx hPx=>?_⟩
 ·rcases Nat.lt_or_ge i ps.length with hlt|hge
  ·have hne:¬ i=ps.length:=by omega
   (try dsimp only)
   rw [if_neg hne,if_neg hne,List.getElem_append_left hlt]
   have q:=h2 i hlt
   have k:=q.keep (w':=w') qo (λx a b=>by
    have:=q.b2
    rw [hblk x qo (λhN=>by have:=h4 x (by simp [hN]) i hlt;omega),hvw.block x qo,hb.block x qo])
   obtain ⟨⟨NA',nc',AA',ac',e1,e2,e3⟩,b0,b1,b2⟩:=k
   exact ⟨⟨NA',nc',AA',ac',by rw [List.getElem?_append_left qo];exact e1,by rw [List.getElem?_append_left qo];exact e2,e3⟩,b0,b1,b2⟩
  ·obtain rfl:i=ps.length:=by simp at hi';omega
   (try dsimp only)
   rw [if_pos rfl,if_pos rfl,List.getElem_concat_length rfl]
   obtain ⟨k1,k2⟩:=hpm.keepHi hlow hAA (w':=w') (λx a b _=>by rw [hblk x qo (λhN=>by have:=hPu x hN;omega),hvw.block x b])
   refine ⟨⟨NA,nc,AA,ac, ?_, ?_,k1,k2,hAA⟩,hbu,huv,qo⟩
   ·rw [List.getElem?_append_right qo,hcl,Nat.sub_self];rfl
   ·rw [List.getElem?_append_right qo,hcl,show ps.length*2+1-ps.length*2=1 by omega];rfl
 ·simp only [List.length_append,List.length_cons,List.length_nil] at hj
  have hi0:¬ i=ps.length:=qo
  (try dsimp only)
  rw [if_neg hi0]
  by_cases hje:j=ps.length
  ·rw [if_pos hje];exact (h2 i qo).b2
  ·rw [if_neg hje];exact h3 i j hij qo
 ·simp only [List.length_append,List.length_cons,List.length_nil] at hi'
  have hx':(x∈gOf P++X)∨x=w.heap.size:=by
   rcases List.mem_append.1 hx with hx|hx
   ·rcases hP' x hx with q|q
    ·exact .inl (by simp [q])
    ·exact .inr q
   ·exact .inl (by simp [hx])
  have hxu:(x∈gOf P++X)->x<u.heap.size:=λq=>by
   rcases List.mem_append.1 q with q|q
   ·exact hPu x q
   ·exact hX x q
  (try dsimp only)
  by_cases hie:i=ps.length
  ·rw [if_pos hie,if_pos hie]
   rcases hx' with q|q
   ·exact .inl (hxu q)
   ·right;omega
  ·rw [if_neg hie,if_neg hie]
   rcases hx' with q|q
   ·exact h4 x q i qo
   ·right;have:=(h2 i qo).b2;omega
 ·rcases hP' x hPx with q|q
  ·exact h5 x hx q
  ·have:=hX x hx;omega
theorem Zcq.rowL {w:World} {base:Nat} {X:List Nat} {P:Option Addr} {pc:Nat} {ps:List Zae} (h:Zcq w base X P pc ps) (hB:∀ p∈ps,progB p):RowL progE 0 w (.slice P ps.length pc) ps:=by
 obtain ⟨cs,lo,hi,h1,h2,h3,h4,h5⟩:=h
 refine ⟨P,pc,cs,rfl,h1.rs,λ_ _=>Nat.zero_le _,λi hi'=>?_⟩
 obtain ⟨NA,nc,AA,ac,e1,e2,hpm,_⟩:=(h2 i hi').ex
 have hb:=hB _ (List.getElem_mem hi')
 have hlen:cs.length=ps.length*2:=h1.len
 have hle:(i+1)*2<=ps.length*2:=Nat.mul_le_mul_right _ hi'
 have e:(cs.drop (i*2)).take 2=[.slice NA ps[i].1.length nc,.slice AA ps[i].2.length ac]:=by
  apply List.ext_getElem?
  intro j
  rcases Nat.lt_or_ge j 2 with hj|hj
  ·rw [List.getElem?_take_of_lt hj,List.getElem?_drop]
   rcases (show j=0∨j=1 by omega) with rfl|rfl
   ·exact e1
   ·exact e2
  ·rw [List.getElem?_eq_none (by rw [List.length_take];omega),List.getElem?_eq_none (by simp;omega)]
 show progP 0 w ((cs.drop (i*2)).take 2) ps[i]
 rw [e]
 obtain ⟨q1,⟨ds,q2,q3,q4⟩,q5,q6,q7⟩:=hpm
 refine ⟨_,_,rfl,⟨NA,nc,ds,rfl,q2.rs,λ_ _=>Nat.zero_le _,λj hj=>?_⟩,⟨AA,ac,rAss ps[i].2,rfl,q1.rs,λ_ _=>Nat.zero_le _,λj hj=>?_⟩⟩
 ·obtain ⟨A,c,e',hr,_⟩:=q3 j hj
  exact ⟨A,c,e',by have:=(hb.1.2 _ (List.getElem_mem hj)).1;unfold maxLen;omega,hr.rs,λ_ _=>Nat.zero_le _⟩
 ·refine ⟨?_,by have:=hb.2.2 _ (List.getElem_mem hj);unfold assB at this;unfold maxLen;omega⟩
  obtain ⟨r0,r1⟩:=rAss_at hj
  have hl2:=rAss_len ps[i].2
  have hle2:(j+1)*2<=ps[i].2.length*2:=Nat.mul_le_mul_right _ hj
  apply List.ext_getElem?
  intro m
  rcases Nat.lt_or_ge m 2 with hm|hm
  ·show (((rAss ps[i].2).drop (j*2)).take 2)[m]? = _
   rw [List.getElem?_take_of_lt hm,List.getElem?_drop]
   rcases (show m=0∨m=1 by omega) with rfl|rfl
   ·exact r0
   ·exact r1
  ·rw [List.getElem?_eq_none (by show (List.take 2 _).length<=m;rw [List.length_take];omega),List.getElem?_eq_none (by simp;omega)]
abbrev vV (v:EVec):Value:=vVec v.1 v.2.1 v.2.2
def outV (r:Option EVec):Value:=.tuple #[vV (r.getD zV),.bool r.isSome]
theorem parV_of {l:List UInt8} {x y z:Int} (h:Za2 l=some [x,y,z]) (hv:Zav x y z=true):Zec l=some (x,y,z):=by unfold Zec;rw [h];simp only [hv,if_true]
theorem parV_bad {l:List UInt8} {x y z:Int} (h:Za2 l=some [x,y,z]) (hv:Zav x y z=false):Zec l=none:=by unfold Zec;rw [h];simp [hv]
theorem parV_none {l:List UInt8} (h:Za2 l=none):Zec l=none:=by unfold Zec;rw [h]
theorem parV_len {l:List UInt8} {ls:List Int} (h:Za2 l=some ls) (hl:ls.length≠3):Zec l=none:=by
 unfold Zec;rw [h]
 match ls,hl with
 | [],_=>rfl
 | [_],_=>rfl
 | [_,_],_=>rfl
 | [a,b,c],hl=>exact absurd rfl hl
 | _::_::_::_::_,_=>rfl
theorem three_of {ls:List Int} (h:ls.length=3):∃ x y z,ls=[x,y,z]:=by
 match ls,h with
 | [a,b,c],_=>exact ⟨a,b,c,rfl⟩
theorem parse_ne {l:List UInt8} {ls:List Int} (h:Za2 l=some ls):l≠[]:=by
 intro e;subst e;rw [parseL_nil] at h;cases h
theorem str_ne {l:List UInt8} (h:l≠[]):(({ data:=l.toArray }:ByteArray)=ByteArray.empty)=False:=by
 refine eq_false (λhc=>?_)
 have h3:=congrArg (λb:ByteArray=>b.data.toList) hc
 simp at h3
 exact h h3
theorem S_FormatVec_bad (x y z:Int) (w:World) (hv:Zav x y z=false) :
  Calls Tryz.prog 129 #[vVec x y z] w λe w'=>e=.returned (str [])/\Below w.heap.size w w':=by
 have HV:=qh (∀ wx,CB_ Tryz.prog 164 #[vVec x y z] wx (.bool false)) (λwx=>by have:=S_IsValidVec x y z wx;rw [hv] at this;exact this)
 clear hv
 go_enter Tryz.func129,Tryz.ntmps129
 go_wp2_with (first|(go_at_call 164;refine (HV.out _).mono ?_;rintro e w1 ⟨rfl,hb1⟩;have HB1:=bh w hb1;clear hb1)|fail)
 go_ret
 exact ⟨rfl,bll⟩
theorem S_ParseVec (l:List UInt8) (w:World) (hlim:l.length<=1048576) :
  Calls Tryz.prog 123 #[str l] w λe w'=>e=.returned (outV (Zec l))/\Below w.heap.size w w':=by
 have HPI:=qh (∀ wx,Below w.heap.size w wx->Calls Tryz.prog 55 #[str l] wx (OutPL (Za2 l) wx)) (λwx hb=>S_ParseInts l wx hlim)
 cases hp:Za2 l with
 | none =>
  have HPV:=hdQ (parV_none hp)
  rw [hp] at HPI
  clear hp
  go_enter Tryz.func123,Tryz.ntmps123
  go_wp2_with fail
  refine (HPI.out _ bll).mono ?_
  rintro e w1 ⟨A,c,rfl,ho,hge,hb1⟩
  have hz1:=hb1.size
  (try simp at hz1)
  have HX1:=qh (Own w1 w.heap.size 40 [.int .i64 0,.int .i64 0,.int .i64 0]) (Own.step hb1 (Own.new w _ #[_,_,_]))
  have HB1:=bh w hb1
  have x0:=HX1.out.cell 0
  have x1:=HX1.out.cell 1
  have x2:=HX1.out.cell 2
  have xf:=HX1.out.frozen
  (try dsimp only [List.getElem?_cons_succ,List.getElem?_cons_zero] at x0 x1 x2)
  clear ho hge hb1
  go_wp2_with fail
  exact bodyPost_ret (v:=.tuple #[.agg #[.int .i64 0,.int .i64 0,.int .i64 0],.bool false]) (by simp [results,Tryz.results123,go_sem, *]) rfl ⟨by first|(rw [HPV.out];done)|(rw [HPV.out];rfl),bll⟩
 | some ls =>
  rw [hp] at HPI
  by_cases h3:ls.length=3
  ·obtain ⟨x,y,z,rfl⟩:=three_of h3
   clear h3
   have HT:=hdQ (Zf1 hp qs)
   have HNE:=hdQ (str_ne (parse_ne hp))
   cases hv:Zav x y z with
   | true =>
    have HPV:=hdQ (parV_of hp hv)
    have HFV:=qh (∀ wx,Below w.heap.size w wx->CB_ Tryz.prog 129 #[vVec x y z] wx (str l)) (λwx hb=>by have:=S_FormatVec x y z wx hv;rw [show vecT x y z=l from HT.out] at this;exact this)
    have hnl:(l != l)=false:=qs
    clear hp hv
    go_enter Tryz.func123,Tryz.ntmps123
    go_wp2_with fail
    refine (HPI.out _ bll).mono ?_
    rintro e w1 ⟨A,c,rfl,ho,hge,hb1⟩
    (try simp only [Option.getD_some] at ho)
    obtain ⟨hlc,hcm,hop⟩:=ho.rs.open_
    unfold maxLen at hcm
    obtain ⟨b,o,rfl,hbl,hcell⟩:=hop qs
    have c0:w1.cell? ⟨b,o,none⟩=some (.int .i64 x):=by have:=hcell 0 qs;simpa using this
    have c1:w1.cell? ⟨b,o+1,none⟩=some (.int .i64 y):=by have:=hcell 1 qs;simpa using this
    have c2:w1.cell? ⟨b,o+2,none⟩=some (.int .i64 z):=by have:=hcell 2 qs;simpa using this
    have hz1:=hb1.size
    (try simp at hz1)
    have HX1:=qh (Own w1 w.heap.size 40 [.int .i64 0,.int .i64 0,.int .i64 0]) (Own.step hb1 (Own.new w _ #[_,_,_]))
    have HB1:=bh w hb1
    have nb:¬ b=w1.heap.size:=qo
    clear ho hge hb1 hop hcell hlc
    go_wp2_with fail
    go_region_held3 (λw'=>w'.cell? ⟨b,o,none⟩=some (.int .i64 x)/\w'.cell? ⟨b,o+1,none⟩=some (.int .i64 y)/\w'.cell? ⟨b,o+2,none⟩=some (.int .i64 z))
     (first|((try dsimp only);refine ⟨?_, ?_, ?_⟩<;>(go_simp;done))|go_keep)
     (fail)
    all_goals
     go_wp2_with fail
     refine (HFV.out _ bll).mono ?_
     rintro e w2 ⟨rfl,hb2⟩
     have hz2:=hb2.size
     (try simp at hz2)
     have HB2:=bh w hb2
     have HX2:=qh (Own w2 w.heap.size 40 [.int .i64 0,.int .i64 0,.int .i64 0]) (Own.step hb2 (owx HX1.out))
     have y0:=λo=>hb2.cell (p:=⟨w1.heap.size,o,none⟩) omm
     have x0:=HX2.out.cell 0
     have x1:=HX2.out.cell 1
     have x2:=HX2.out.cell 2
     have xf:=HX2.out.frozen
     have nx:¬ w.heap.size=w1.heap.size:=qo
     have lx:w1.heap.size<w2.heap.size:=qo
     (try dsimp only [List.getElem?_cons_succ,List.getElem?_cons_zero] at x0 x1 x2)
     clear hb2
     go_wp2_with fail
     exact bodyPost_ret (v:=.tuple #[vVec x y z,.bool true]) (by simp [results,Tryz.results123,go_sem, *]) rfl ⟨by first|(rw [HPV.out];done)|(rw [HPV.out];rfl),bll⟩
   | false =>
    have HPV:=hdQ (parV_bad hp hv)
    have HFV:=qh (∀ wx,Below w.heap.size w wx->CB_ Tryz.prog 129 #[vVec x y z] wx (str [])) (λwx hb=>S_FormatVec_bad x y z wx hv)
    have hnl:l≠[]:=parse_ne hp
    have hnl2:([] != l)=true:=by cases l with|nil=>exact absurd rfl hnl|cons a b=>rfl
    have hnl3:l.isEmpty=false:=by simpa using hnl
    clear hp hv
    go_enter Tryz.func123,Tryz.ntmps123
    go_wp2_with fail
    refine (HPI.out _ bll).mono ?_
    rintro e w1 ⟨A,c,rfl,ho,hge,hb1⟩
    (try simp only [Option.getD_some] at ho)
    obtain ⟨hlc,hcm,hop⟩:=ho.rs.open_
    unfold maxLen at hcm
    obtain ⟨b,o,rfl,hbl,hcell⟩:=hop qs
    have c0:w1.cell? ⟨b,o,none⟩=some (.int .i64 x):=by have:=hcell 0 qs;simpa using this
    have c1:w1.cell? ⟨b,o+1,none⟩=some (.int .i64 y):=by have:=hcell 1 qs;simpa using this
    have c2:w1.cell? ⟨b,o+2,none⟩=some (.int .i64 z):=by have:=hcell 2 qs;simpa using this
    have hz1:=hb1.size
    (try simp at hz1)
    have HX1:=qh (Own w1 w.heap.size 40 [.int .i64 0,.int .i64 0,.int .i64 0]) (Own.step hb1 (Own.new w _ #[_,_,_]))
    have HB1:=bh w hb1
    have nb:¬ b=w1.heap.size:=qo
    clear ho hge hb1 hop hcell hlc
    go_wp2_with fail
    go_region_held3 (λw'=>w'.cell? ⟨b,o,none⟩=some (.int .i64 x)/\w'.cell? ⟨b,o+1,none⟩=some (.int .i64 y)/\w'.cell? ⟨b,o+2,none⟩=some (.int .i64 z))
     (first|((try dsimp only);refine ⟨?_, ?_, ?_⟩<;>(go_simp;done))|go_keep)
     (fail)
    all_goals
     go_wp2_with fail
     refine (HFV.out _ bll).mono ?_
     rintro e w2 ⟨rfl,hb2⟩
     have hz2:=hb2.size
     (try simp at hz2)
     have HB2:=bh w hb2
     have HX2:=qh (Own w2 w.heap.size 40 [.int .i64 0,.int .i64 0,.int .i64 0]) (Own.step hb2 (owx HX1.out))
     have y0:=λo=>hb2.cell (p:=⟨w1.heap.size,o,none⟩) omm
     have x0:=HX2.out.cell 0
     have x1:=HX2.out.cell 1
     have x2:=HX2.out.cell 2
     have xf:=HX2.out.frozen
     have nx:¬ w.heap.size=w1.heap.size:=qo
     have lx:w1.heap.size<w2.heap.size:=qo
     (try dsimp only [List.getElem?_cons_succ,List.getElem?_cons_zero] at x0 x1 x2)
     clear hb2
     go_wp2_with fail
     exact bodyPost_ret (v:=.tuple #[.agg #[.int .i64 0,.int .i64 0,.int .i64 0],.bool false]) (by simp [results,Tryz.results123,go_sem, *]) rfl ⟨by first|(rw [HPV.out];done)|(rw [HPV.out];rfl),bll⟩
  ·have HPV:=hdQ (parV_len hp h3)
   have hne:((ls.length:Int) != 3)=true:=by simp;omega
   clear hp
   go_enter Tryz.func123,Tryz.ntmps123
   go_wp2_with fail
   refine (HPI.out _ bll).mono ?_
   rintro e w1 ⟨A,c,rfl,ho,hge,hb1⟩
   (try simp only [Option.getD_some] at ho)
   have hz1:=hb1.size
   (try simp at hz1)
   have HX1:=qh (Own w1 w.heap.size 40 [.int .i64 0,.int .i64 0,.int .i64 0]) (Own.step hb1 (Own.new w _ #[_,_,_]))
   have HB1:=bh w hb1
   have x0:=HX1.out.cell 0
   have x1:=HX1.out.cell 1
   have x2:=HX1.out.cell 2
   have xf:=HX1.out.frozen
   (try dsimp only [List.getElem?_cons_succ,List.getElem?_cons_zero] at x0 x1 x2)
   clear ho hge hb1
   go_wp2_with fail
   exact bodyPost_ret (v:=.tuple #[.agg #[.int .i64 0,.int .i64 0,.int .i64 0],.bool false]) (by simp [results,Tryz.results123,go_sem, *]) rfl ⟨by first|(rw [HPV.out];done)|(rw [HPV.out];rfl),bll⟩
theorem I_ParseVec (l:List UInt8) (w:World) (hlim:l.length<=1048576) (he:Env w) :
  Calls Tryz.prog 197 #[str l] w λe w'=>e=.returned (outV (Zec l))/\Below w.heap.size w w':=by
 have HPI:=qh (∀ wx,Below w.heap.size w wx->Calls Tryz.prog 132 #[str l] wx (OutPL (Za2 l) wx)) (λwx hb=>I_ParseInts l wx hlim (he.step hb))
 cases hp:Za2 l with
 | none =>
  have HPV:=hdQ (parV_none hp)
  rw [hp] at HPI
  clear hp
  go_enter Tryz.func197,Tryz.ntmps197
  go_wp2_with fail
  refine (HPI.out _ bll).mono ?_
  rintro e w1 ⟨A,c,rfl,ho,hge,hb1⟩
  have hz1:=hb1.size
  (try simp at hz1)
  have HX1:=qh (Own w1 w.heap.size 40 [.int .i64 0,.int .i64 0,.int .i64 0]) (Own.step hb1 (Own.new w _ #[_,_,_]))
  have HB1:=bh w hb1
  have x0:=HX1.out.cell 0
  have x1:=HX1.out.cell 1
  have x2:=HX1.out.cell 2
  have xf:=HX1.out.frozen
  (try dsimp only [List.getElem?_cons_succ,List.getElem?_cons_zero] at x0 x1 x2)
  clear ho hge hb1
  go_wp2_with fail
  exact bodyPost_ret (v:=.tuple #[.agg #[.int .i64 0,.int .i64 0,.int .i64 0],.bool false]) (by simp [results,Tryz.results197,go_sem, *]) rfl ⟨by first|(rw [HPV.out];done)|(rw [HPV.out];rfl),bll⟩
 | some ls =>
  rw [hp] at HPI
  by_cases h3:ls.length=3
  ·obtain ⟨x,y,z,rfl⟩:=three_of h3
   clear h3
   have HT:=hdQ (Zf1 hp qs)
   have HNE:=hdQ (str_ne (parse_ne hp))
   cases hv:Zav x y z with
   | true =>
    have HPV:=hdQ (parV_of hp hv)
    have HFV:=qh (∀ wx,CB_ Tryz.prog 161 #[vVec x y z] wx (.bool true)) (λwx=>by have:=Zfb x y z wx;rw [hv] at this;exact this)
    clear hp hv
    go_enter Tryz.func197,Tryz.ntmps197
    go_wp2_with fail
    refine (HPI.out _ bll).mono ?_
    rintro e w1 ⟨A,c,rfl,ho,hge,hb1⟩
    (try simp only [Option.getD_some] at ho)
    obtain ⟨hlc,hcm,hop⟩:=ho.rs.open_
    unfold maxLen at hcm
    obtain ⟨b,o,rfl,hbl,hcell⟩:=hop qs
    have c0:w1.cell? ⟨b,o,none⟩=some (.int .i64 x):=by have:=hcell 0 qs;simpa using this
    have c1:w1.cell? ⟨b,o+1,none⟩=some (.int .i64 y):=by have:=hcell 1 qs;simpa using this
    have c2:w1.cell? ⟨b,o+2,none⟩=some (.int .i64 z):=by have:=hcell 2 qs;simpa using this
    have hz1:=hb1.size
    (try simp at hz1)
    have HX1:=qh (Own w1 w.heap.size 40 [.int .i64 0,.int .i64 0,.int .i64 0]) (Own.step hb1 (Own.new w _ #[_,_,_]))
    have HB1:=bh w hb1
    have nb:¬ b=w1.heap.size:=qo
    clear ho hge hb1 hop hcell hlc
    go_wp2_with fail
    go_region_held3 (λw'=>w'.cell? ⟨b,o,none⟩=some (.int .i64 x)/\w'.cell? ⟨b,o+1,none⟩=some (.int .i64 y)/\w'.cell? ⟨b,o+2,none⟩=some (.int .i64 z))
     (first|((try dsimp only);refine ⟨?_, ?_, ?_⟩<;>(go_simp;done))|go_keep)
     (fail)
    all_goals
     go_wp2_with fail
     refine (HFV.out _).mono ?_
     rintro e w2 ⟨rfl,hb2⟩
     have hz2:=hb2.size
     (try simp at hz2)
     have HB2:=bh w hb2
     have HX2:=qh (Own w2 w.heap.size 40 [.int .i64 0,.int .i64 0,.int .i64 0]) (Own.step hb2 (owx HX1.out))
     have y0:=λo=>hb2.cell (p:=⟨w1.heap.size,o,none⟩) omm
     have x0:=HX2.out.cell 0
     have x1:=HX2.out.cell 1
     have x2:=HX2.out.cell 2
     have xf:=HX2.out.frozen
     have nx:¬ w.heap.size=w1.heap.size:=qo
     have lx:w1.heap.size<w2.heap.size:=qo
     (try dsimp only [List.getElem?_cons_succ,List.getElem?_cons_zero] at x0 x1 x2)
     clear hb2
     go_wp2_with fail
     exact bodyPost_ret (v:=.tuple #[vVec x y z,.bool true]) (by simp [results,Tryz.results197,go_sem, *]) rfl ⟨by first|(rw [HPV.out];done)|(rw [HPV.out];rfl),bll⟩
   | false =>
    have HPV:=hdQ (parV_bad hp hv)
    have HFV:=qh (∀ wx,CB_ Tryz.prog 161 #[vVec x y z] wx (.bool false)) (λwx=>by have:=Zfb x y z wx;rw [hv] at this;exact this)
    clear hp hv
    go_enter Tryz.func197,Tryz.ntmps197
    go_wp2_with fail
    refine (HPI.out _ bll).mono ?_
    rintro e w1 ⟨A,c,rfl,ho,hge,hb1⟩
    (try simp only [Option.getD_some] at ho)
    obtain ⟨hlc,hcm,hop⟩:=ho.rs.open_
    unfold maxLen at hcm
    obtain ⟨b,o,rfl,hbl,hcell⟩:=hop qs
    have c0:w1.cell? ⟨b,o,none⟩=some (.int .i64 x):=by have:=hcell 0 qs;simpa using this
    have c1:w1.cell? ⟨b,o+1,none⟩=some (.int .i64 y):=by have:=hcell 1 qs;simpa using this
    have c2:w1.cell? ⟨b,o+2,none⟩=some (.int .i64 z):=by have:=hcell 2 qs;simpa using this
    have hz1:=hb1.size
    (try simp at hz1)
    have HX1:=qh (Own w1 w.heap.size 40 [.int .i64 0,.int .i64 0,.int .i64 0]) (Own.step hb1 (Own.new w _ #[_,_,_]))
    have HB1:=bh w hb1
    have nb:¬ b=w1.heap.size:=qo
    clear ho hge hb1 hop hcell hlc
    go_wp2_with fail
    go_region_held3 (λw'=>w'.cell? ⟨b,o,none⟩=some (.int .i64 x)/\w'.cell? ⟨b,o+1,none⟩=some (.int .i64 y)/\w'.cell? ⟨b,o+2,none⟩=some (.int .i64 z))
     (first|((try dsimp only);refine ⟨?_, ?_, ?_⟩<;>(go_simp;done))|go_keep)
     (fail)
    all_goals
     go_wp2_with fail
     refine (HFV.out _).mono ?_
     rintro e w2 ⟨rfl,hb2⟩
     have hz2:=hb2.size
     (try simp at hz2)
     have HB2:=bh w hb2
     have HX2:=qh (Own w2 w.heap.size 40 [.int .i64 0,.int .i64 0,.int .i64 0]) (Own.step hb2 (owx HX1.out))
     have y0:=λo=>hb2.cell (p:=⟨w1.heap.size,o,none⟩) omm
     have x0:=HX2.out.cell 0
     have x1:=HX2.out.cell 1
     have x2:=HX2.out.cell 2
     have xf:=HX2.out.frozen
     have nx:¬ w.heap.size=w1.heap.size:=qo
     have lx:w1.heap.size<w2.heap.size:=qo
     (try dsimp only [List.getElem?_cons_succ,List.getElem?_cons_zero] at x0 x1 x2)
     clear hb2
     go_wp2_with fail
     exact bodyPost_ret (v:=.tuple #[.agg #[.int .i64 0,.int .i64 0,.int .i64 0],.bool false]) (by simp [results,Tryz.results197,go_sem, *]) rfl ⟨by first|(rw [HPV.out];done)|(rw [HPV.out];rfl),bll⟩
  ·have HPV:=hdQ (parV_len hp h3)
   have hne:((ls.length:Int) != 3)=true:=by simp;omega
   clear hp
   go_enter Tryz.func197,Tryz.ntmps197
   go_wp2_with fail
   refine (HPI.out _ bll).mono ?_
   rintro e w1 ⟨A,c,rfl,ho,hge,hb1⟩
   (try simp only [Option.getD_some] at ho)
   have hz1:=hb1.size
   (try simp at hz1)
   have HX1:=qh (Own w1 w.heap.size 40 [.int .i64 0,.int .i64 0,.int .i64 0]) (Own.step hb1 (Own.new w _ #[_,_,_]))
   have HB1:=bh w hb1
   have x0:=HX1.out.cell 0
   have x1:=HX1.out.cell 1
   have x2:=HX1.out.cell 2
   have xf:=HX1.out.frozen
   (try dsimp only [List.getElem?_cons_succ,List.getElem?_cons_zero] at x0 x1 x2)
   clear ho hge hb1
   go_wp2_with fail
   exact bodyPost_ret (v:=.tuple #[.agg #[.int .i64 0,.int .i64 0,.int .i64 0],.bool false]) (by simp [results,Tryz.results197,go_sem, *]) rfl ⟨by first|(rw [HPV.out];done)|(rw [HPV.out];rfl),bll⟩
def outPt (r:Option Za1):Value:=.tuple #[Zcd (r.getD zPt),.bool r.isSome]
def vTo (ws:List (List UInt8)) (k j:Nat):EVec:=if j<k then vOf ws[j]? else zV
def ptTo (ws:List (List UInt8)) (k:Nat):Za1:=ptOf (vTo ws k 0) (vTo ws k 1) (vTo ws k 2) (vTo ws k 3)
theorem vTo_end {ws:List (List UInt8)} (j:Nat):vTo ws ws.length j=vOf ws[j]? := by
 unfold vTo
 split
 ·rfl
 ·rename_i h
  rw [List.getElem?_eq_none qo];rfl
theorem ptTo_end (ws:List (List UInt8)):ptTo ws ws.length=Zfm ws:=by unfold ptTo Zfm;rw [vTo_end,vTo_end,vTo_end,vTo_end]
theorem Zas {ws:List (List UInt8)} {k j:Nat} (h:j≠k):vTo ws (k+1) j=vTo ws k j:=by
 unfold vTo
 by_cases h1:j<k
 ·rw [if_pos h1,if_pos qo]
 ·rw [if_neg h1,if_neg qo]
theorem vTo_new {ws:List (List UInt8)} {k:Nat}:vTo ws (k+1) k=vOf ws[k]? := by unfold vTo;rw [if_pos qo]
def cPt (a b c d:EVec):List Value:=[.int .i64 a.1,.int .i64 a.2.1,.int .i64 a.2.2,.int .i64 b.1,.int .i64 b.2.1,.int .i64 b.2.2,.int .i64 c.1,.int .i64 c.2.1,.int .i64 c.2.2,.int .i64 d.1,.int .i64 d.2.1,.int .i64 d.2.2]
abbrev z12L:List Value:=[.int .i64 0,.int .i64 0,.int .i64 0,.int .i64 0,.int .i64 0,.int .i64 0,.int .i64 0,.int .i64 0,.int .i64 0,.int .i64 0,.int .i64 0,.int .i64 0]
theorem patT_eq_ne {p:Za1}:(({ data:=(Zeb p).toArray }:ByteArray)=ByteArray.empty)=False:=str_ne (patT_ne p)
theorem four_of {ws:List (List UInt8)} (h:ws.length=4):∃ a b c d,ws=[a,b,c,d]:=by
 match ws,h with
 | [a,b,c,d],_=>exact ⟨a,b,c,d,rfl⟩
theorem parPt_len {l:List UInt8} (h:(splitB 32 l).length≠4):parPt l=none:=by
 unfold parPt
 split
 ·rename_i hs;rw [hs] at h;exact absurd rfl h
 ·rfl
theorem parPt_bad {l:List UInt8} {k:Nat} (hl:(splitB 32 l).length=4) (hk:k<(splitB 32 l).length) (h:Zec (splitB 32 l)[k]=none):parPt l=none:=by
 cases hp:parPt l with
 | none=>rfl
 | some p =>
  exfalso
  unfold parPt at hp
  split at hp
  ·rename_i a b c d hs
   split at hp
   ·rename_i va vb vc vd ha hb hc hd
    have hk4:k<4:=qo
    have:∀ (ws:List (List UInt8)) (hw:ws=[a,b,c,d]) (hk:k<ws.length),Zec ws[k]≠none:=by
     intro ws hw hk
     subst hw
     rcases (show k=0∨k=1∨k=2∨k=3 by omega) with rfl|rfl|rfl|rfl<;>simp [ha,hb,hc,hd]
    exact this _ hs hk h
   ·cases hp
  ·cases hp
theorem parPt_good {l:List UInt8} (hl:(splitB 32 l).length=4) (h:∀ k (hk:k<(splitB 32 l).length),Zec (splitB 32 l)[k]≠none):parPt l=some (Zfm (splitB 32 l)):=by
 obtain ⟨a,b,c,d,hs⟩:=four_of hl
 have key:∀ (ws:List (List UInt8)) (hw:ws=[a,b,c,d]),(∀ k (hk:k<ws.length),Zec ws[k]≠none)->∃ va vb vc vd,Zec a=some va/\Zec b=some vb/\Zec c=some vc/\Zec d=some vd:=by
  intro ws hw hx
  subst hw
  have g:∀ o:Option EVec,o≠none->∃ v,o=some v:=λo ho=>by cases o with|none=>exact absurd rfl ho|some v=>exact ⟨v,rfl⟩
  obtain ⟨va,ha⟩:=g _ (hx 0 qs)
  obtain ⟨vb,hb⟩:=g _ (hx 1 qs)
  obtain ⟨vc,hc⟩:=g _ (hx 2 qs)
  obtain ⟨vd,hd⟩:=g _ (hx 3 qs)
  exact ⟨va,vb,vc,vd,by simpa using ha,by simpa using hb,by simpa using hc,by simpa using hd⟩
 obtain ⟨va,vb,vc,vd,ha,hb,hc,hd⟩:=key _ hs h
 unfold parPt
 rw [hs]
 simp only [ha,hb,hc,hd]
 congr 1
 simp [Zfm,vOf,ha,hb,hc,hd]
set_option maxHeartbeats 16000000 in
theorem S_ParsePatch (l:List UInt8) (w:World) (hlim:l.length<=1048576) :
  Calls Tryz.prog 63 #[str l] w λe w'=>e=.returned (outPt (parPt l))/\Below w.heap.size w w':=by
 have HSP:=qh (∀ wx,Calls Tryz.prog 17 #[str l,.string ⟨#[32]⟩] wx (Zc1 (splitB 32 l) wx)) (λwx=>S_SplitAny 32 l wx hlim)
 have HM:=hdQ (λp (h:p∈splitB 32 l)=>Zc3 h)
 have hws:=Zbe 32 l
 have HRP:=hdQ (rawPt_valid (splitB 32 l))
 have HHIT:=qh (Zeb (Zfm (splitB 32 l))=l->parPt l=some (Zfm (splitB 32 l))) rawPt_hit
 have HMISS:=qh (Zeb (Zfm (splitB 32 l))≠l->parPt l=none) (λhn=>by
  cases hp:parPt l with
  | none=>rfl
  | some p=>obtain ⟨h1,h2,_⟩:=parPt_some hp;rw [h1] at hn;exact absurd h2 hn)
 generalize hW:splitB 32 l=ws at *
 go_enter Tryz.func63,Tryz.ntmps63
 go_wp2_with fail
 refine (HSP.out _).mono ?_
 rintro e w1 ⟨A,c,rfl,hr,hge,hb1⟩
 have hz1:=hb1.size
 (try simp at hz1)
 have HX1:=qh (Own w1 w.heap.size 43 z12L) (Own.step hb1 (Own.alloc (Own.new w _ #[_,_,_,_,_,_,_,_,_,_,_,_]) _))
 have HY1:=qh (Own w1 (w.heap.size+1) 43 (cPt (vTo ws 0 0) (vTo ws 0 1) (vTo ws 0 2) (vTo ws 0 3))) (Own.step hb1 (Own.at_new qs))
 have HB1:=bh w hb1
 have HR1:=hdQ hr
 have HGE:=qh (∀ x,x∈gOf A->w.heap.size+2<=x) (λx hx=>by have:=hge x hx;simp at this;omega)
 clear hr hge hb1
 go_wp2_with fail
 go_loopw [5,6,11] (λ_ _ i_ wr=>∃ k:Nat,k<=ws.length/\i_=.int .i64 k/\Own wr w.heap.size 43 z12L/\Own wr (w.heap.size+1) 43 (cPt (vTo ws k 0) (vTo ws k 1) (vTo ws k 2) (vTo ws k 3))/\RS wr 1 A ws.length c (Zam ws)/\Below w.heap.size w wr) (λ_ _ i_ _=>ws.length-(RowKit.intOf i_).toNat)
 case atStart=>exact ⟨0,Nat.zero_le _,rfl,HX1.out,HY1.out,HR1.out,HB1.out⟩
 case round =>
  obtain ⟨k,hk,rfl,hx,hy,hr,hb⟩:=hrel
  obtain ⟨wo,rfl⟩:=qe wr
  have hz:=hb.size
  have HX:=hdQ hx
  have HY:=hdQ hy
  have HR:=hdQ hr
  have HB:=hdQ hb
  have hxl:=hx.lt
  have hyl:=hy.lt
  clear hx hy hr hb HX1 HY1 HR1 HB1
  by_cases hlt:k<ws.length
  ·obtain ⟨b,o,rfl,hbl,hcell⟩:=HR.out.open_.2.2 qo
   have c0:wo.cell? ⟨b,o+k,none⟩=some (str ws[k]):=by rw [hcell k qo,Zfd hlt]
   have i0:(0:Int)<=k:=qo
   have i1:(k:Int)<ws.length:=qo
   have hcl:=HR.out.open_
   clear hcell
   rcases (show k=0∨k=1∨k=2∨k=3∨4<=k by omega) with h0|h0|h0|h0|h0
   ·subst h0
    (try simp only [Nat.add_zero] at c0)
    have HPV:=qh (∀ wx,CB_ Tryz.prog 123 #[str ws[0]] wx (outV (Zec ws[0]))) (λwx=>S_ParseVec _ wx (Nat.le_trans (HM.out _ (List.getElem_mem hlt)) hlim))
    have hv:(Zec ws[0]).getD zV=vTo ws (0+1) 0:=by rw [vTo_new];unfold vOf;rw [List.getElem?_eq_getElem hlt];rfl
    have HPV2:=qh (∀ wx,Calls Tryz.prog 123 #[str ws[0]] wx λe w'=>∃ b,e=.returned (.tuple #[vV (vTo ws (0+1) 0),.bool b])/\Below wx.heap.size wx w') (λwx=>(HPV.out wx).mono (λe w' ⟨h1,h2⟩=>⟨(Zec ws[0]).isSome,by rw [h1];unfold outV;rw [hv],h2⟩))
    clear hv HPV
    generalize ws[0]=u at *
    generalize hvv:vTo ws (0+1) 0=V at *
    go_wp2_with fail
    refine (HPV2.out _).mono ?_
    rintro e w2 ⟨bb,rfl,hb2⟩
    have hz2:=hb2.size
    have HX2:=hdQ (Own.step hb2 HX.out)
    have HY2:=hdQ (Own.step hb2 HY.out)
    have HR2:=hdQ (RS.step hb2 HR.out)
    have HB2:=qh (Below w.heap.size w w2) (Below.step hb2 HB.out HB.out.size)
    have yf:=HY2.out.frozen
    have yl:=HY2.out.lt
    have ys:=λo=>HY2.out.cell o
    have y0:=HY2.out.cell 0
    have y1:=HY2.out.cell 1
    have y2:=HY2.out.cell 2
    (try dsimp only [cPt,List.getElem?_cons_succ,List.getElem?_cons_zero] at y0 y1 y2)
    clear hb2 ys
    go_wp2_with fail
    go_roundw
    case rel =>
     refine ⟨0+1,qo,qg,(owx HX2.out), ?_, ?_,bll⟩
     ·have:=Own.set_ (Own.set_ (Own.set_ HY2.out 0 (.int .i64 V.1)) 1 (.int .i64 V.2.1)) 2 (.int .i64 V.2.2)
      rw [hvv,Zas (ws:=ws) (k:=0) (j:=1) qd,Zas (ws:=ws) (k:=0) (j:=2) qd,Zas (ws:=ws) (k:=0) (j:=3) qd]
      exact this
     ·exact (by repeat (first|(with_reducible exact HR2.out)|((with_reducible refine RS.setCell ?_ ?_ _);rotate_left;(intro ad had;injection had with had;subst had;have:=HGE.out b (by simp [gOf]);simp<;>omega))))
    case measure=>exact qn
   ·subst h0
    (try simp only [Nat.add_zero] at c0)
    have HPV:=qh (∀ wx,CB_ Tryz.prog 123 #[str ws[1]] wx (outV (Zec ws[1]))) (λwx=>S_ParseVec _ wx (Nat.le_trans (HM.out _ (List.getElem_mem hlt)) hlim))
    have hv:(Zec ws[1]).getD zV=vTo ws (1+1) 1:=by rw [vTo_new];unfold vOf;rw [List.getElem?_eq_getElem hlt];rfl
    have HPV2:=qh (∀ wx,Calls Tryz.prog 123 #[str ws[1]] wx λe w'=>∃ b,e=.returned (.tuple #[vV (vTo ws (1+1) 1),.bool b])/\Below wx.heap.size wx w') (λwx=>(HPV.out wx).mono (λe w' ⟨h1,h2⟩=>⟨(Zec ws[1]).isSome,by rw [h1];unfold outV;rw [hv],h2⟩))
    clear hv HPV
    generalize ws[1]=u at *
    generalize hvv:vTo ws (1+1) 1=V at *
    go_wp2_with fail
    refine (HPV2.out _).mono ?_
    rintro e w2 ⟨bb,rfl,hb2⟩
    have hz2:=hb2.size
    have HX2:=hdQ (Own.step hb2 HX.out)
    have HY2:=hdQ (Own.step hb2 HY.out)
    have HR2:=hdQ (RS.step hb2 HR.out)
    have HB2:=qh (Below w.heap.size w w2) (Below.step hb2 HB.out HB.out.size)
    have yf:=HY2.out.frozen
    have yl:=HY2.out.lt
    have ys:=λo=>HY2.out.cell o
    have y3:=HY2.out.cell 3
    have y4:=HY2.out.cell 4
    have y5:=HY2.out.cell 5
    (try dsimp only [cPt,List.getElem?_cons_succ,List.getElem?_cons_zero] at y3 y4 y5)
    clear hb2 ys
    go_wp2_with fail
    go_roundw
    case rel =>
     refine ⟨1+1,qo,qg,(owx HX2.out), ?_, ?_,bll⟩
     ·have:=Own.set_ (Own.set_ (Own.set_ HY2.out 3 (.int .i64 V.1)) 4 (.int .i64 V.2.1)) 5 (.int .i64 V.2.2)
      rw [Zas (ws:=ws) (k:=1) (j:=0) qd,hvv,Zas (ws:=ws) (k:=1) (j:=2) qd,Zas (ws:=ws) (k:=1) (j:=3) qd]
      exact this
     ·exact (by repeat (first|(with_reducible exact HR2.out)|((with_reducible refine RS.setCell ?_ ?_ _);rotate_left;(intro ad had;injection had with had;subst had;have:=HGE.out b (by simp [gOf]);simp<;>omega))))
    case measure=>exact qn
   ·subst h0
    (try simp only [Nat.add_zero] at c0)
    have HPV:=qh (∀ wx,CB_ Tryz.prog 123 #[str ws[2]] wx (outV (Zec ws[2]))) (λwx=>S_ParseVec _ wx (Nat.le_trans (HM.out _ (List.getElem_mem hlt)) hlim))
    have hv:(Zec ws[2]).getD zV=vTo ws (2+1) 2:=by rw [vTo_new];unfold vOf;rw [List.getElem?_eq_getElem hlt];rfl
    have HPV2:=qh (∀ wx,Calls Tryz.prog 123 #[str ws[2]] wx λe w'=>∃ b,e=.returned (.tuple #[vV (vTo ws (2+1) 2),.bool b])/\Below wx.heap.size wx w') (λwx=>(HPV.out wx).mono (λe w' ⟨h1,h2⟩=>⟨(Zec ws[2]).isSome,by rw [h1];unfold outV;rw [hv],h2⟩))
    clear hv HPV
    generalize ws[2]=u at *
    generalize hvv:vTo ws (2+1) 2=V at *
    go_wp2_with fail
    refine (HPV2.out _).mono ?_
    rintro e w2 ⟨bb,rfl,hb2⟩
    have hz2:=hb2.size
    have HX2:=hdQ (Own.step hb2 HX.out)
    have HY2:=hdQ (Own.step hb2 HY.out)
    have HR2:=hdQ (RS.step hb2 HR.out)
    have HB2:=qh (Below w.heap.size w w2) (Below.step hb2 HB.out HB.out.size)
    have yf:=HY2.out.frozen
    have yl:=HY2.out.lt
    have ys:=λo=>HY2.out.cell o
    have y6:=HY2.out.cell 6
    have y7:=HY2.out.cell 7
    have y8:=HY2.out.cell 8
    (try dsimp only [cPt,List.getElem?_cons_succ,List.getElem?_cons_zero] at y6 y7 y8)
    clear hb2 ys
    go_wp2_with fail
    go_roundw
    case rel =>
     refine ⟨2+1,qo,qg,(owx HX2.out), ?_, ?_,bll⟩
     ·have:=Own.set_ (Own.set_ (Own.set_ HY2.out 6 (.int .i64 V.1)) 7 (.int .i64 V.2.1)) 8 (.int .i64 V.2.2)
      rw [Zas (ws:=ws) (k:=2) (j:=0) qd,Zas (ws:=ws) (k:=2) (j:=1) qd,hvv,Zas (ws:=ws) (k:=2) (j:=3) qd]
      exact this
     ·exact (by repeat (first|(with_reducible exact HR2.out)|((with_reducible refine RS.setCell ?_ ?_ _);rotate_left;(intro ad had;injection had with had;subst had;have:=HGE.out b (by simp [gOf]);simp<;>omega))))
    case measure=>exact qn
   ·subst h0
    (try simp only [Nat.add_zero] at c0)
    have HPV:=qh (∀ wx,CB_ Tryz.prog 123 #[str ws[3]] wx (outV (Zec ws[3]))) (λwx=>S_ParseVec _ wx (Nat.le_trans (HM.out _ (List.getElem_mem hlt)) hlim))
    have hv:(Zec ws[3]).getD zV=vTo ws (3+1) 3:=by rw [vTo_new];unfold vOf;rw [List.getElem?_eq_getElem hlt];rfl
    have HPV2:=qh (∀ wx,Calls Tryz.prog 123 #[str ws[3]] wx λe w'=>∃ b,e=.returned (.tuple #[vV (vTo ws (3+1) 3),.bool b])/\Below wx.heap.size wx w') (λwx=>(HPV.out wx).mono (λe w' ⟨h1,h2⟩=>⟨(Zec ws[3]).isSome,by rw [h1];unfold outV;rw [hv],h2⟩))
    clear hv HPV
    generalize ws[3]=u at *
    generalize hvv:vTo ws (3+1) 3=V at *
    go_wp2_with fail
    refine (HPV2.out _).mono ?_
    rintro e w2 ⟨bb,rfl,hb2⟩
    have hz2:=hb2.size
    have HX2:=hdQ (Own.step hb2 HX.out)
    have HY2:=hdQ (Own.step hb2 HY.out)
    have HR2:=hdQ (RS.step hb2 HR.out)
    have HB2:=qh (Below w.heap.size w w2) (Below.step hb2 HB.out HB.out.size)
    have yf:=HY2.out.frozen
    have yl:=HY2.out.lt
    have ys:=λo=>HY2.out.cell o
    have y9:=HY2.out.cell 9
    have y10:=HY2.out.cell 10
    have y11:=HY2.out.cell 11
    (try dsimp only [cPt,List.getElem?_cons_succ,List.getElem?_cons_zero] at y9 y10 y11)
    clear hb2 ys
    go_wp2_with fail
    go_roundw
    case rel =>
     refine ⟨3+1,qo,qg,(owx HX2.out), ?_, ?_,bll⟩
     ·have:=Own.set_ (Own.set_ (Own.set_ HY2.out 9 (.int .i64 V.1)) 10 (.int .i64 V.2.1)) 11 (.int .i64 V.2.2)
      rw [Zas (ws:=ws) (k:=3) (j:=0) qd,Zas (ws:=ws) (k:=3) (j:=1) qd,Zas (ws:=ws) (k:=3) (j:=2) qd,hvv]
      exact this
     ·exact (by repeat (first|(with_reducible exact HR2.out)|((with_reducible refine RS.setCell ?_ ?_ _);rotate_left;(intro ad had;injection had with had;subst had;have:=HGE.out b (by simp [gOf]);simp<;>omega))))
    case measure=>exact qn
   ·have i4:¬ (k:Int)<4:=by omega
    go_wp2_with fail
    go_roundw
    case rel =>
     refine ⟨k+1,qo,qg,HX.out, ?_,HR.out,HB.out⟩
     rw [Zas qo,Zas qo,Zas qo,Zas qo]
     exact HY.out
    case measure=>exact qn
  ·obtain rfl:k=ws.length:=by omega
   have HP:=qh (Zfm ws=ptOf (vTo ws ws.length 0) (vTo ws ws.length 1) (vTo ws ws.length 2) (vTo ws ws.length 3)) (ptTo_end ws).symm
   have HT:=qh (∀ wx,CB_ Tryz.prog 67 #[Zcd (Zfm ws)] wx (str (Zeb (Zfm ws)))) (λwx=>S_FormatPatch (Zfm ws) wx HRP.out)
   have hne:(({ data:=(Zeb (Zfm ws)).toArray }:ByteArray)=ByteArray.empty)=False:=patT_eq_ne
   have hne2:Zeb (Zfm ws)≠[]:=patT_ne _
   rw [HP.out] at HT hne hne2 HHIT HMISS
   clear HP HRP
   generalize vTo ws ws.length 0=V0 at *
   generalize vTo ws ws.length 1=V1 at *
   generalize vTo ws ws.length 2=V2 at *
   generalize vTo ws ws.length 3=V3 at *
   have hne3:(Zeb (ptOf V0 V1 V2 V3)==[])=false:=by simpa using hne2
   have hne4:(Zeb (ptOf V0 V1 V2 V3)).isEmpty=false:=by simpa using hne2
   have HP3:Hid (∀ wx,CB_ Tryz.prog 67 #[.agg ⟨cPt V0 V1 V2 V3⟩] wx (str (Zeb (ptOf V0 V1 V2 V3)))):=HT
   have HR3:=qh (Zcd (ptOf V0 V1 V2 V3)=.agg ⟨cPt V0 V1 V2 V3⟩) rfl
   have y0:=HY.out.cell 0
   have y1:=HY.out.cell 1
   have y2:=HY.out.cell 2
   have y3:=HY.out.cell 3
   have y4:=HY.out.cell 4
   have y5:=HY.out.cell 5
   have y6:=HY.out.cell 6
   have y7:=HY.out.cell 7
   have y8:=HY.out.cell 8
   have y9:=HY.out.cell 9
   have y10:=HY.out.cell 10
   have y11:=HY.out.cell 11
   have x0:=HX.out.cell 0
   have x1:=HX.out.cell 1
   have x2:=HX.out.cell 2
   have x3:=HX.out.cell 3
   have x4:=HX.out.cell 4
   have x5:=HX.out.cell 5
   have x6:=HX.out.cell 6
   have x7:=HX.out.cell 7
   have x8:=HX.out.cell 8
   have x9:=HX.out.cell 9
   have x10:=HX.out.cell 10
   have x11:=HX.out.cell 11
   have xf:=HX.out.frozen
   (try dsimp only [cPt,List.getElem?_cons_succ,List.getElem?_cons_zero] at x0 x1 x2 x3 x4 x5 x6 x7 x8 x9 x10 x11 y0 y1 y2 y3 y4 y5 y6 y7 y8 y9 y10 y11)
   obtain ⟨U,hU⟩:=qv (Zeb (ptOf V0 V1 V2 V3))
   rw [hU] at HP3 hne hne2 hne3 hne4 HHIT HMISS
   rcases Classical.em (U=l) with hq|hq
   ·have HPV:=hdQ (HHIT.out hq)
    subst hq
    have hnl:(U != U)=false:=qs
    go_wp2_with (first|(go_at_call 67;(refine (HP3.out _).mono ?_);rintro e w2 ⟨rfl,hb2⟩;have hz2:=hb2.size;have k0:=λo=>hb2.cell (p:=⟨w.heap.size+1,o,none⟩) omm;have j0:=λo=>hb2.cell (p:=⟨w.heap.size,o,none⟩) omm;have jf:=λo=>hb2.frozen (p:=⟨w.heap.size,o,none⟩) omm;have jl:w.heap.size<w2.heap.size:=by omega)|fail)
    exact bodyPost_ret (v:=.tuple #[.agg ⟨cPt V0 V1 V2 V3⟩,.bool true]) (by simp [results,Tryz.results63,go_sem,cPt, *]) rfl ⟨by rw [HPV.out];rfl,bll⟩
   ·have HPV:=hdQ (HMISS.out hq)
    have hnl:(U==l)=false:=by simpa using hq
    go_wp2_with (first|(go_at_call 67;(refine (HP3.out _).mono ?_);rintro e w2 ⟨rfl,hb2⟩;have hz2:=hb2.size;have k0:=λo=>hb2.cell (p:=⟨w.heap.size+1,o,none⟩) omm;have j0:=λo=>hb2.cell (p:=⟨w.heap.size,o,none⟩) omm;have jf:=λo=>hb2.frozen (p:=⟨w.heap.size,o,none⟩) omm;have jl:w.heap.size<w2.heap.size:=by omega)|fail)
    exact bodyPost_ret (v:=.tuple #[.agg ⟨z12L⟩,.bool false]) (by simp [results,Tryz.results63,go_sem, *]) rfl ⟨by rw [HPV.out];rfl,bll⟩
end Go.Proofs.YticdknjoapdmeaaGreatDoor
