/- Laws and walks. No condition beyond what each says. -/
import Derived.Laws.BitsLemmas
import Derived.Lib.TrailingZeros
import Derived.Test.YthfoojdlcjfmcaaGreatDoorLibG
namespace Go.Proofs.YthfoojdlcjfmcaaGreatDoor
open Go Go.Gm Tryz
set_option linter.unusedVariables false
set_option linter.unusedSimpArgs false
set_option maxHeartbeats 4000000
set_option maxRecDepth 8000
theorem Ybz:type_of% @underlying26:=@underlying26
theorem YbA:type_of% @underlying22:=@underlying22
theorem YbB:type_of% @underlying23:=@underlying23
theorem YbC:type_of% @underlying35:=@underlying35
theorem YbD:type_of% @underlying3:=@underlying3
theorem YbE:type_of% @underlying57:=@underlying57
theorem YbF:type_of% @underlying174:=@underlying174
theorem YbG:type_of% @underlying149:=@underlying149
theorem YbH:type_of% @underlying99:=@underlying99
theorem ZN {x:Int} (h : -9223372036854775808≤x∧x≤9223372036854775807):IntKind.wrap .i64 x=x:=ZhZ ⟨by simp [IntKind.min,IntKind.signed,IntKind.bits];omega,by simp [IntKind.max,IntKind.signed,IntKind.bits];omega⟩
theorem Zh {i:Nat} (h:i<9223372036854775807):IntKind.wrap .i64 ((i:Int)+1)=((i+1:Nat):Int):=by rw [ZN ow];omega
theorem Z3 {x:Int} (h:0≤x∧x≤18446744073709551615):IntKind.wrap .u64 x=x:=ZhZ ⟨by simp [IntKind.min,IntKind.signed,IntKind.bits];omega,by simp [IntKind.max,IntKind.signed,IntKind.bits];omega⟩
theorem ZmC (x:Int):IntKind.wrap .u64 x=x % 18446744073709551616:=by simp [IntKind.wrap,IntKind.bits,IntKind.signed]
theorem Sat.lenSl {α:Type} {R:α→List PV} {B:Zax} {E:En} {a:Act} {w:World} {F:Fp} (h:Sat B E a w F) {i:Nat} {l:List α} (hl:Go.Gm.look E.s i=some (SF.pv (PV.sl R l))):l.length≤9223372036854775807:=by
 obtain ⟨_,cap,_,h1,h2,_⟩:=h.s i _ hl
 unfold maxLen at h2
 omega
def rInt (n:Int):List PV:=[.int .i64 n]
theorem Zck.any {ss:List SF} : Zck ss .any:=fun _ _ _ _ _=>trivial
theorem Zda {α:Type} [Inhabited α] {x y:List α} (hl:x.length=y.length) (h:∀ j,j<x.length→Nn x j=Nn y j):x=y:=by
 apply Ybi hl
 intro j h1 h2
 have:=h j h1
 rwa [Zm h1,Zm h2] at this
theorem ZlH {α:Type} [Inhabited α] {q:List α} {k:Nat} (h:k<q.length):q.take k ++ [Nn q k] = q.take (k+1):=by
 rw [Zm h,List.take_succ_eq_append_getElem h]
theorem Z5 {α:Type} [Inhabited α] {q:List α} {k:Nat} (h:k<q.length):Nn q k ∈ q:=by rw [Zm h];exact Ybh h
theorem Zba {α:Type} [Inhabited α] {l:List α} {i:Nat} (h:i<l.length):l.drop i=Nn l i :: l.drop (i+1):=by rw [Zm h];exact List.drop_eq_getElem_cons h
theorem ZF {α:Type} [Inhabited α] {l:List α} {i:Nat} (h:i<l.length):l.take (i+1)=l.take i ++ [Nn l i]:=(ZlH h).symm
def Znx (x:Int):List PV:=[.int .u64 x]
def bitAt (ws:List Int) (j:Nat):Bool:=(Nn ws (j / 64)).toNat.testBit (j % 64)
def ZgM (ws:List Int) (j:Nat):List Int:=ws.set (j / 64) (((Nn ws (j / 64)).toNat ^^^ 2 ^ (j % 64):Nat):Int)
def hasW (n:Nat) (ws:List Int) (i:Int):Bool:=(decide (0≤i) && decide (i<n)) && bitAt ws i.toNat
def setB (n:Nat) (ws:List Int) (i:Int) (on:Bool):Bool:=(decide (0≤i) && decide (i<n)) && (hasW n ws i != on)
def setW (n:Nat) (ws:List Int) (i:Int) (on:Bool):List Int:=if setB n ws i on then ZgM ws i.toNat else ws
structure Zaz (n:Nat) (ws:List Int):Prop where
 hi:n≤65536
 len:ws.length=(n+63) / 64
 wd:∀ k,0≤Nn ws k∧Nn ws k<18446744073709551616
def ZmV (v wv:Value) (n:Nat) (ws:List Int):List RS:=[.pt (.val v) 212 [.pv (.int .i64 n),.pv (.is wv)],.ob (.val wv) (Zs 136 1 Znx ws)]
def Zc3 (v:Value) (n:Nat) (ws:List Int):HP:=.ex fun wv:Value=>.and (Zaz n ws) (.star (ZmV v wv n ws))
theorem Zlh {v:Value} {n:Nat} {ws:List Int} {w:World} {f y:Ys} (h:(Zc3 v n ws).p w f y):Zaz n ws ∧ ∃ b,v = .pointer (some ⟨b,0,none⟩):=by
 obtain ⟨_,hI,h⟩:=h
 exact ⟨hI,HP.star_pt h⟩
theorem shr6 (i:Int):i.fdiv (2 ^ min (6:Int).toNat (IntKind.bits .i64))=i / 64:=YaJ i (by decide)
theorem and63 (i:Int) (h:0≤i∧i≤9223372036854775807):bits .and .i64 i 63=i % 64:=by
 obtain ⟨X,rfl⟩:=Y9 h.1
 have h1:(BitVec.ofInt 64 (X:Int)).toNat=X:=by rw [Yat];omega
 have h2:(BitVec.ofInt 64 (63:Int)).toNat=2 ^ 6 - 1:=by decide
 show IntKind.wrap .i64 (((BitVec.ofInt 64 (X:Int) &&& BitVec.ofInt 64 63).toNat:Nat):Int)=_
 rw [BitVec.toNat_and,h1,h2,Nat.and_two_pow_sub_one_eq_mod,ZN ow]
 omega
theorem and1 (x:Int) (h:0≤x∧x<18446744073709551616):bits .and .u64 x 1=x % 2:=by
 obtain ⟨X,rfl⟩:=Y9 h.1
 have h1:(BitVec.ofInt 64 (X:Int)).toNat=X:=by rw [Yat];omega
 have h2:(BitVec.ofInt 64 (1:Int)).toNat=2 ^ 1 - 1:=by decide
 show IntKind.wrap .u64 (((BitVec.ofInt 64 (X:Int) &&& BitVec.ofInt 64 1).toNat:Nat):Int)=_
 rw [BitVec.toNat_and,h1,h2,Nat.and_two_pow_sub_one_eq_mod,Z3 ow]
 omega
theorem xor64 (x y:Nat) (hx:x<18446744073709551616) (hy:y<18446744073709551616):bits .xor .u64 (x:Int) (y:Int)=((x ^^^ y:Nat):Int):=by
 have h1:(BitVec.ofInt 64 (x:Int)).toNat=x:=by rw [Yat];omega
 have h2:(BitVec.ofInt 64 (y:Int)).toNat=y:=by rw [Yat];omega
 show IntKind.wrap .u64 (((BitVec.ofInt 64 (x:Int) ^^^ BitVec.ofInt 64 (y:Int)).toNat:Nat):Int)=_
 rw [BitVec.toNat_xor,h1,h2]
 exact Z3 (by have:=Nat.xor_lt_two_pow (n:=64) hx hy;omega)
theorem ZnW {x:Int} (h:0≤x∧x<18446744073709551616) (i:Int) (hi:0≤i∧i≤9223372036854775807):decide (bits .and .u64 (x.fdiv (2 ^ min (IntKind.wrap .u64 (bits .and .i64 i 63)).toNat (IntKind.bits .u64))) 1=1)=x.toNat.testBit (i.toNat % 64):=by
 obtain ⟨X,rfl⟩:=Y9 h.1
 obtain ⟨I,rfl⟩:=Y9 hi.1
 rw [and63 _ hi,Z3 ow,Yc,Yc]
 have e1:min ((I:Int) % 64).toNat (IntKind.bits .u64)=I % 64:=by simp only [IntKind.bits];omega
 rw [e1,YaJ _ (by exact_mod_cast Yr _)]
 have e2:(X:Int) / 2 ^ (I % 64)=((X / 2 ^ (I % 64):Nat):Int):=by norm_cast
 have hle:X / 2 ^ (I % 64)≤X:=Nat.div_le_self _ _
 rw [e2,Nat.testBit_eq_decide_div_mod_eq]
 generalize X / 2 ^ (I % 64)=q at hle ⊢
 rw [and1 _ ow]
 exact decide_eq_decide.2 ow
theorem Zaz.at {n:Nat} {ws:List Int} (h:Zaz n ws) (i:Int) (h0:0≤i) (h1:i<n):0≤i / 64∧i / 64<ws.length:=by have:=h.len;omega
theorem u64_nonneg (x:Int):0≤IntKind.wrap .u64 x:=by rw [ZmC];omega
theorem and_iff {a b:Prop} [Decidable a] [Decidable b] (h:(decide a && decide b)=true):a∧b:=by simpa using h
theorem Zpr (n:Nat) (p:PV):FnP prog 142 [.ref [.int .i64 n,p]] (.int .i64 n):=by
 refine FnP.mk func142 O ntmps142 O fun B a w F J hfr G=>Ya ?_
 refine rZ G (qI qZ) J [2,0] [0] fun G=>(Ya (Ya ?_))
 refine rZ G (qR rr (qf (Za6 underlying167 .t) r1 qz qZ)) J [4,2,0] [0] fun G=>?_
 refine Zc G O (fun hc0=>?_) (fun hc0=>?_)
 ·simp at hc0
 refine Yi (Za (Ya (rZ G (qR rr (qf (ZS .t) r1 qz (qf (oG 0 .t) r1 qz (qf (oR false 1 .t) r1 qz (qO rr qZ))))) J [2] [0] fun G=>Yg ?_)))
 refine Zt hfr G O O O .refl
theorem ZkT (n:Nat) (p:PV) (i:Int):FnP prog 120 [.ref [.int .i64 n,p],.int .i64 i] (.bool (decide (0≤i) && decide (i<n))):=by
 refine FnP.mk func120 O ntmps120 O fun B a w F J hfr G=>Ya ?_
 refine rZ G qB J [4,1,0] [0] fun G=>Ya ?_
 refine rZ G (qR rr (qf (ZeT .t qi) r1 qz (qR rr (qm O O O O (qm O O O O (qk O (fun h=>oP (Zpr n p) func142 (Args.one (.w h))) r2 qz (qk O (fun h=>Zcz (.w h) (.w h)) r3 qz (qf (ZR .t .t) r2 qz (qO rr qZ))))))))) J [4] [0] fun G=>Yg ?_
 refine Zt hfr G O O O .refl
theorem Int.toNat_ediv_64 {i:Int} (h:0≤i):(i / 64).toNat=i.toNat / 64:=by omega
theorem Zcu {a b:Prop} [Decidable a] [Decidable b] (h:¬ (a∧b)):(decide a && decide b)=false:=by rw [← Ybp];exact Ym h
theorem ZpI (n:Nat) (ws:List Int) (hI:Zaz n ws) (i:Int):FnP prog 121 [.ref [.int .i64 n,.sl Znx ws],.int .i64 i] (.bool (hasW n ws i)):=by
 refine FnP.mk func121 O ntmps121 O fun B a w F J hfr G=>Ya ?_
 refine rZ G qB J [4,1,0] [0] fun G=>Ya ?_
 refine rZ G (qR rr (qR rr (qf (oP (ZkT n _ i) func120 (Args.two .t .t)) r2 qz (qR rr (qm O O O O (qk O (fun h=>ZS (.w h)) r2 qz (qk O (fun h=>oG 1 (.w h)) r2 qz (qk O (fun h=>oR false 1 (.w h)) r2 qz (qm O O O O (qk O (fun h=>Zjq (.w h) qi (by decide)) r2 qz (qk O (fun h=>Z0 (sz:=1) (.mk underlying210 kr) (by intro x;rfl) (.w h) (.w h) (by rw [shr6];exact (hI.at i (and_iff h).1 (and_iff h).2).1) (by rw [shr6];exact (hI.at i (and_iff h).1 (and_iff h).2).2)) r3 qz (qk O (fun h=>oR false 1 (.w h)) r2 qz (qm O O O O (qk O (fun h=>o_and (.w h) qi) r2 qz (qk O (fun h=>o_conv YbG kr (.w h)) r2 qz (qk O (fun h=>Zjq (.w h) (.w h) (u64_nonneg _)) r3 qz (qk O (fun h=>o_and (.w h) qi) r2 qz (qk O (fun h=>o_eql (.w h) qi) r2 qz (qf (ZR .t .t) r2 qz (qO rr qZ)))))))))))))))))))) J [4] [0] fun G=>Yg ?_
 refine Zt hfr G O O O (.bool (by unfold hasW bitAt;by_cases hb:0≤i∧i<n; (rw [shr6,ZnW (hI.wd _) i (by have:=hI.hi;omega),Int.toNat_ediv_64 hb.1]); (simp only [Zcu hb,Ya9])))
def rowN (m:Int):Nat:=(if m<0 then 0 else if m > 65536 then 65536 else m).toNat
theorem Zf2 (m:Int):rowN m≤65536:=by unfold rowN;split; (· omega);split <;> omega
theorem ZnC (m:Int):(if 65536<(if m<0 then 0 else m) then 65536 else if m<0 then 0 else m)=((rowN m:Nat):Int):=by unfold rowN;split <;> split <;> (try split) <;> omega
def Zgc (m:Int):List Int:=List.replicate ((rowN m+63) / 64) 0
theorem ZfM (k j:Nat):Nn (List.replicate k (0:Int)) j=0:=by
 by_cases h:j<k
 ·rw [Zm (by simpa using h)];simp
 ·unfold Nn;rw [List.getD_eq_getElem?_getD,Ybd (by simp;omega)];rfl
theorem ZiA (m:Int):Zaz (rowN m) (Zgc m):=⟨Zf2 m,by simp [Zgc],fun k=>by unfold Zgc;rw [ZfM];omega⟩
theorem ZmO (m:Int):(IntKind.wrap .i64 (((rowN m:Nat):Int)+63)).fdiv (2 ^ min (6:Int).toNat (IntKind.bits .i64))=(((rowN m+63) / 64:Nat):Int):=by
 have:=Zf2 m
 rw [shr6,ZN ow];omega
theorem Zmh (w:World) (yy:Ys):PVs (Znx 0) [.int .u64 0] w yy:=⟨⟨rfl,rfl,by simp [inR,IntKind.min,IntKind.max,IntKind.signed,IntKind.bits]⟩,tv⟩
theorem ZgE (ws:List Int) (j:Nat):(ZgM ws j).length=ws.length:=by simp [ZgM]
theorem ZcM {ws:List Int} {i j:Nat} {c:Int} (h:j<ws.length):Nn (ws.set i c) j=if i=j then c else Nn ws j:=by
 rw [Zm (by simpa using h),Zm h,List.getElem_set]
theorem Zcx {ws:List Int} {j:Nat} (h:ws.length≤j):Nn ws j=0:=by unfold Nn;rw [List.getD_eq_getElem?_getD,Ybd h];rfl
theorem Zjt {x:Int} (h:0≤x∧x<18446744073709551616) (k:Nat) (hk:k<64):0≤(((x.toNat ^^^ 2 ^ k:Nat)):Int)∧(((x.toNat ^^^ 2 ^ k:Nat)):Int)<18446744073709551616:=by
 have h1:x.toNat<2 ^ 64:=by omega
 have h2:2 ^ k<2 ^ 64:=Nat.pow_lt_pow_right (by decide) hk
 have:=Nat.xor_lt_two_pow h1 h2
 omega
theorem Zaz.flip {n:Nat} {ws:List Int} (h:Zaz n ws) (j:Nat):Zaz n (ZgM ws j):=by
 refine ⟨h.hi,by rw [ZgE];exact h.len,fun k=>?_⟩
 by_cases hk:k<ws.length
 ·unfold ZgM
  rw [ZcM hk]
  split
  ·exact Zjt (h.wd _) _ (Yby _ (by decide))
  ·exact h.wd k
 ·rw [Zcx (by rw [ZgE];omega)];omega
theorem Zaz.setW {n:Nat} {ws:List Int} (h:Zaz n ws) (i:Int) (on:Bool):Zaz n (setW n ws i on):=by
 unfold Go.Proofs.YthfoojdlcjfmcaaGreatDoor.setW
 split
 ·exact h.flip _
 ·exact h
theorem Zka {x:Int} (h:0≤x∧x<18446744073709551616) (i:Int) (hi:0≤i∧i≤9223372036854775807):bits .xor .u64 x (IntKind.wrap .u64 (1*2 ^ min (IntKind.wrap .u64 (bits .and .i64 i 63)).toNat (IntKind.bits .u64)))=((x.toNat ^^^ 2 ^ (i.toNat % 64):Nat):Int):=by
 obtain ⟨X,rfl⟩:=Y9 h.1
 obtain ⟨I,rfl⟩:=Y9 hi.1
 rw [and63 _ hi,Z3 (by omega:0≤((I:Int) % 64)∧(I:Int) % 64≤_),Yc,Yc]
 have e1:min ((I:Int) % 64).toNat (IntKind.bits .u64)=I % 64:=by simp only [IntKind.bits];omega
 have h2:2 ^ (I % 64)<2 ^ 64:=Nat.pow_lt_pow_right (by decide) (Yby _ (by decide))
 have e2:(1:Int)*2 ^ (I % 64)=((2 ^ (I % 64):Nat):Int):=by rw [Int.one_mul];norm_cast
 rw [e1,e2]
 generalize 2 ^ (I % 64)=q at h2 ⊢
 rw [Z3 ow,xor64 X q ow ow]
theorem Zpk (m:Int):FnG prog 88 1 [.int .i64 m] [.star []] (PV.ptr) (fun v=>[Zc3 v (rowN m) (Zgc m)]):=by
 refine FnG.mk func88 O ntmps88 O kr fun B F0 a w F J hG G=>?_
 have hr:=ZnC m
 refine Ya (rZ G (qC qZ) J [2,0] [1,0] fun G=>Ya ?_)
 refine Zf G (qR rr (qf (ZkR .t qi) r1 qz (qf (ZlI .t qi) r1 qz (qO rr qZ)))) J [2,0] [1,0] O O fun a w F G=>?_
 rw [hr] at G
 refine Za (Ya (Zb G (qR rr (qR rr (qp r1 (qf (Zjq .t qi (by decide)) r1 qz (qf (ZeO (R:=Znx) (v:=0) (c:=(IntKind.wrap .i64 (((rowN m:Nat):Int)+63)).fdiv (2 ^ min (6:Int).toNat (IntKind.bits .i64))) (sz:=1) (bs:=8) (zs:=[.int .u64 0]) 101 underlying210 kr kr kr Zmh .t .t (by rw [ZmO];exact Int.natCast_nonneg _) (by have:=Zf2 m;rw [ZmO];omega) (by have:=Zf2 m;rw [ZmO];omega)) r2 qz (qf (oB [(0,.tmp 6),(1,.tmp 10)] [.int .i64 0,.slice none 0 0] [(0,1),(1,1)] (.one O .t one_int kr (.same O kr .nil))) r2 qz (qf (oX 102 .t) r1 qz (qO rr qZ)))))))) J [2] [102,101,1,0] (fun _=>rfl) (fun _=>rfl) fun τ a w F G=>?_))
 try dsimp only [RS.sub,SF.sub,CF.sub,csub,Anc.sub,List.map,Zg,xL,xM,Nat.reduceAdd,xD,xE,xT,xU,xC,xN,zCF] at G
 generalize τ 12=v12,τ 10=v10 at G
 rw [ZmO,Yc] at G
 refine Za (Yg ?_)
 obtain ⟨b,rfl⟩:=G.shape 102 rfl
 obtain ⟨F,G⟩:=G.push 1 101 O O O kr
 obtain ⟨F,G⟩:=G.push 1 102 O O O kr
 have G:=G.turn 1 O (r':=RS.hp (Zc3 (.pointer (some ⟨b,0,none⟩)) (rowN m) (Zgc m))) (fun _ _ _ _ h=>⟨_,ZiA m,h⟩)
 refine Zab (h':=fun v=>Zc3 v (rowN m) (Zgc m)) hG G O (.tmp O .nil) (.one .ptr) rfl
theorem set_c (b n:Nat) (ws:List Int) (i:Int) (on:Bool):FnG prog 89 1 [.is (.pointer (some ⟨b,0,none⟩)),.int .i64 i,.bool on] [Zc3 (.pointer (some ⟨b,0,none⟩)) n ws] (.bool (setB n ws i on)) (fun _=>[Zc3 (.pointer (some ⟨b,0,none⟩)) n (setW n ws i on)]):=by
 refine FnG.mk func89 O ntmps89 O kr fun B F0 a w F J hG G=>?_
 obtain ⟨wv,G⟩:=G.open_ex 1 rfl
 obtain ⟨hI,G⟩:=G.open_and 1 rfl
 obtain ⟨F,G⟩:=G.peel 1 2 O rfl
 obtain ⟨F,G⟩:=G.peel 1 3 O rfl
 obtain ⟨F,G⟩:=G.nM [2,1,0] [3,2,0]
 refine Ya (rZ G qB J [6,2,1,0] [3,2,0] fun G=>(Ya (Ya ?_)))
 refine rZ G (qR rr (qR rr (qf (ZnN (cells:=[.pv _,.pv _]) 2 (ZkT n _ i) (fun _ _ _ _ _ h=>h) O func120 O kr (Zbg.two .is .t)) r2 r1 (qf (o_not .t) r1 qz (qR rr (qm O O O O (qm O O O O (qk O (fun h=>Znd (cells:=[.pv _,.pv (.is wv)]) 2 3 1 (ZpI n ws hI i) (fun _ _ _ _ _ h=>h) O func121 O kr O O (Zbg.two (.w h .is) (.w h))) r3 r2 (qm O O O O (qk O (fun h=>Zny underlying4 (.w h) (.w h)) r3 qz (qf (ZaM .t .t) r2 qz qZ))))))))))) J [17,6,1,0] [3,2,0] fun G=>?_
 refine Zc G O (fun hc0=>?_) (fun hc0=>?_)
 ·have hs:setB n ws i on=false:=by unfold setB;revert hc0;cases (decide (0≤i) && decide (i<n)) <;> cases hasW n ws i <;> cases on <;> simp
  have hg:setW n ws i on=ws:=by unfold setW;rw [hs];rfl
  refine Ya (rZ G qB J [6,1,0] [3,2,0] fun G=>(Yg (Ze ?_)))
  have G:=G.fresh 1 rfl
  obtain ⟨F,G⟩:=G.push 1 3 O O O kr
  obtain ⟨F,G⟩:=G.push 1 2 O O O kr
  have G:=G.turn 1 O (r':=RS.hp (Zc3 (.pointer (some ⟨b,0,none⟩)) n (setW n ws i on))) (fun _ _ _ _ h=>⟨_,(hI.setW i on),(by rw [hg];exact h)⟩)
  refine Zkl hG G O (.tmp O .nil) (.one (.bool hs.symm)) rfl
 have hs:setB n ws i on=true:=by unfold setB;revert hc0;cases (decide (0≤i) && decide (i<n)) <;> cases hasW n ws i <;> cases on <;> simp
 have hg:setW n ws i on=ZgM ws i.toNat:=by unfold setW;rw [hs];rfl
 have hb:0≤i∧i<n:=by
   have hs':=hs
   simp only [setB,Yw,Yu] at hs'
   exact hs'.1
 have hhi:=hI.hi
 have hq:=hI.at i hb.1 hb.2
 rw [← shr6] at hq
 have hq2:(i.fdiv (2 ^ min (6:Int).toNat (IntKind.bits .i64))).toNat<ws.length:=by omega
 refine Yi (Za (Ya (Zf G (qR rr (qf (Zr 2 .is (by rfl)) r1 r1 (qf (oF 1 2 .adr) r1 r1 (qa 2 r1 r1 (qR rr (qf (Zjq .t qi (by decide)) r1 qz (qf (o_indexAddr_row (sz:=1) 3 (.mk underlying210 kr) .is .t hq.1 hq.2 (by rfl)) r2 r1 (qf (Zac (ag:=false) (sz':=1) (sz:=1) 3 .t (by intro x;rfl) hq2 kr kr kr) r1 r1 (qR rr (qf (o_and .t qi) r1 qz (qf (o_conv YbG kr .t) r1 qz (qf (o_shl qi .t (u64_nonneg _)) r1 qz (qf (o_xor .t .t) r2 qz (qf (o_indexAddr_row (sz:=1) 3 (.mk underlying210 kr) .is .t hq.1 hq.2 (by rfl)) r2 r1 (qf (ZaG (R:=Znx) (sz:=1) (v:=_) 3 .t (by intro x;rfl) hq2 .t O one_int kr) r2 r1 qZ))))))))))))))) J [6] [3,2,0] O O fun a w F G=>?_)))
 rw [Zka (hI.wd _) i ow,shr6,Int.toNat_ediv_64 hb.1] at G
 refine Za (Ya (rZ G qB J [6] [3,2,0] fun G=>Yg ?_))
 have G:=G.fresh 1 rfl
 obtain ⟨F,G⟩:=G.push 1 3 O O O kr
 obtain ⟨F,G⟩:=G.push 1 2 O O O kr
 have G:=G.turn 1 O (r':=RS.hp (Zc3 (.pointer (some ⟨b,0,none⟩)) n (setW n ws i on))) (fun _ _ _ _ h=>⟨_,(hI.setW i on),(by rw [hg];exact h)⟩)
 refine Zkl hG G O (.tmp O .nil) (.one (.bool hs.symm)) rfl
def ZoM (x:Int) (k:Int):Int:=x.fdiv (2 ^ min k.toNat (IntKind.bits .u64))
def ones1 (x:Int):Int:=IntKind.wrap .u64 (bits .and .u64 (ZoM x 1) 6148914691236517205+bits .and .u64 x 6148914691236517205)
def ones2 (x:Int):Int:=IntKind.wrap .u64 (bits .and .u64 (ZoM x 2) 3689348814741910323+bits .and .u64 x 3689348814741910323)
def ones3 (x:Int):Int:=bits .and .u64 (IntKind.wrap .u64 (ZoM x 4+x)) 1085102592571150095
def ones4 (x:Int) (k:Int):Int:=IntKind.wrap .u64 (x+ZoM x k)
def onesF (x:Int):Int:=bits .and .i64 (IntKind.wrap .i64 (ones4 (ones4 (ones4 (ones3 (ones2 (ones1 x))) 8) 16) 32)) 127
def ZpF (ws:List Int):Int:=ws.foldl (fun s x=>s+onesF x) 0
def places (n:Nat) (ws:List Int):List Int:=((List.range n).filter fun j=>bitAt ws j).map fun j:Nat=>(j:Int)
def ZlV (n:Nat) (ws:List Int):Prop:=∀ j,n≤j→bitAt ws j=false
def Up (n:Nat) (x:List Int):Prop:=x.Pairwise (· < ·) ∧ ∀ i ∈ x,0≤i∧i<n
structure Zaf (n:Nat) (ws:List Int) (x:List Int):Prop where
 ok:Zaz n ws
 clean:ZlV n ws
 up:Up n x
 mem:∀ j:Nat,bitAt ws j=true ↔ (j:Int) ∈ x
theorem Zfi {n:Nat} {ws:List Int} {i:Int} : i ∈ places n ws ↔ 0≤i∧i<n∧bitAt ws i.toNat=true:=by
 unfold places
 rw [YD]
 constructor
 ·rintro ⟨j,hj,rfl⟩
  rw [YN,Yaa] at hj
  exact ⟨by omega,by omega,by simpa using hj.2⟩
 ·rintro ⟨h1,h2,h3⟩
  exact ⟨i.toNat,by rw [YN,Yaa];exact ⟨by omega,by simpa using h3⟩,by omega⟩
theorem Zlv (n:Nat) (ws:List Int):Up n (places n ws):=by
 refine ⟨?_,fun i hi=>by have:=Zfi.1 hi;omega⟩
 unfold places
 rw [Yay]
 refine List.Pairwise.imp (R:=fun a b:Nat=>a<b) (fun h=>by omega) ?_
 exact List.Pairwise.filter _ Yba
theorem Zfw:∀ {x y:List Int},x.Pairwise (· < ·)→y.Pairwise (· < ·)→(∀ i,i ∈ x ↔ i ∈ y)→x=y
 | [],[],_,_,_=>rfl
 | [],b :: y,_,_,h=>by have:=(h b).2 (by simp);simp at this
 | a :: x,[],_,_,h=>by have:=(h a).1 (by simp);simp at this
 | a :: x,b :: y,hx,hy,h=>by
  rw [Yq] at hx hy
  have e:a=b:=by
   have h1:=(h a).1 (by simp)
   have h2:=(h b).2 (by simp)
   rcases Yo.1 h1 with h1 | h1
   ·exact h1
   ·rcases Yo.1 h2 with h2 | h2
    ·exact h2.symm
    ·have:=hy.1 a h1
     have:=hx.1 b h2
     omega
  subst e
  rw [Zfw hx.2 hy.2 fun i=>?_]
  constructor
  ·intro hi
   have:=(h i).1 (YU _ hi)
   rcases Yo.1 this with e | h'
   ·subst e;have:=hx.1 _ hi;omega
   ·exact h'
  ·intro hi
   have:=(h i).2 (YU _ hi)
   rcases Yo.1 this with e | h'
   ·subst e;have:=hy.1 _ hi;omega
   ·exact h'
theorem Zaf.mk' {n:Nat} {ws x:List Int} (hok:Zaz n ws) (hc:ZlV n ws) (hu:Up n x) (h:∀ j:Nat,j<n→(bitAt ws j=true ↔ (j:Int) ∈ x)):Zaf n ws x:=by
 refine ⟨hok,hc,hu,fun j=>?_⟩
 by_cases hj:j<n
 ·exact h j hj
 ·rw [hc j ow]
  constructor
  ·intro h;cases h
  ·intro hm;have:=hu.2 _ hm;omega
theorem Zaf.uniq {n:Nat} {ws x y:List Int} (h:Zaf n ws x) (k:Zaf n ws y):x=y:=
 Zfw h.up.1 k.up.1 fun i=>by
  constructor
  ·intro hi
   have h1:=h.up.2 i hi
   have:=(k.mem i.toNat).1 ((h.mem i.toNat).2 (by rw [Yac h1.1];exact hi))
   rwa [Yac h1.1] at this
  ·intro hi
   have h1:=k.up.2 i hi
   have:=(h.mem i.toNat).1 ((k.mem i.toNat).2 (by rw [Yac h1.1];exact hi))
   rwa [Yac h1.1] at this
theorem Zl4 {n:Nat} {ws us:List Int} (h:Zaz n ws) (k:Zaz n us) (hb:∀ j,bitAt ws j=bitAt us j):ws=us:=by
 apply Ybi (by rw [h.len,k.len])
 intro i h1 h2
 have e1:=h.wd i
 have e2:=k.wd i
 rw [Zm h1] at e1
 rw [Zm h2] at e2
 have key:ws[i].toNat=us[i].toNat:=by
  apply Nat.eq_of_testBit_eq
  intro t
  by_cases ht:t<64
  ·have:=hb (i*64+t)
   unfold bitAt at this
   rw [show (i*64+t) / 64=i by omega,show (i*64+t) % 64=t by omega,Zm h1,Zm h2] at this
   exact this
  ·rw [Nat.testBit_lt_two_pow (Y0 (by omega:ws[i].toNat<2 ^ 64) (Nat.pow_le_pow_right (by decide) ow)),Nat.testBit_lt_two_pow (Y0 (by omega:us[i].toNat<2 ^ 64) (Nat.pow_le_pow_right (by decide) ow))]
 omega
theorem Zaf.words {n:Nat} {ws us x:List Int} (h:Zaf n ws x) (k:Zaf n us x):ws=us:=
 Zl4 h.ok k.ok fun j=>by
  have h1:=h.mem j
  have h2:=k.mem j
  rw [← h2] at h1
  cases e1:bitAt ws j <;> cases e2:bitAt us j <;> simp_all
theorem Zaf.zero (m:Int):Zaf (rowN m) (Zgc m) []:=by
 have hz:∀ j,bitAt (Zgc m) j=false:=fun j=>by unfold bitAt Zgc;rw [ZfM];simp
 exact ⟨ZiA m,fun j _=>hz j,⟨List.Pairwise.nil,by simp⟩,fun j=>by simp [hz j]⟩
def ZlK (i:Int):List Int→Bool→List Int
 | [],d=>if d then [] else [i]
 | x :: l,d=>(if d=false∧i≤x then [i] else [])++(if x=i then [] else [x])++ZlK i l (d || decide (i≤x))
def Zms (l:List Int) (n i:Int) (on:Bool):List Int:=ZlK i l (!on || decide (i<0) || decide (n≤i))
theorem ZdS (i j:Int):∀ (l:List Int) (d:Bool),j ∈ ZlK i l d ↔ (j≠i∧j ∈ l)∨(j=i∧d=false)
 | [],d=>by cases d <;> simp [ZlK]
 | x :: l,d=>by
  rw [ZlK,YM,YM,ZdS i j l]
  by_cases h1:i≤x <;> cases d <;> by_cases h2:x=i <;> by_cases h3:j=i <;> simp_all
  all_goals (try omega)
theorem Zlm (i:Int):∀ (l:List Int) (d:Bool),l.Pairwise (· < ·)→(ZlK i l d).Pairwise (· < ·)
 | [],d,_=>by cases d <;> simp [ZlK]
 | x :: l,d,h=>by
  rw [Yq] at h
  have ih:=Zlm i l (d || decide (i≤x)) h.2
  rw [ZlK]
  by_cases h1:i≤x
  ·have hm:∀ j,j ∈ ZlK i l (d || decide (i≤x))→x<j∧j≠i:=by
    intro j hj
    rw [ZdS] at hj
    rcases hj with hj | hj
    ·exact ⟨h.1 j hj.2,hj.1⟩
    ·simp [h1] at hj
   generalize (d || decide (i≤x))=d' at hm ih ⊢
   cases d <;> by_cases h2:x=i
   ·subst h2
    simp only [Ya6,and_self,Yn,Yao,Y2,Y4,Yq]
    exact ⟨fun j hj=>(hm j hj).1,ih⟩
   ·simp only [h1,and_self,Yn,h2,Yk,Y4,Ya7,Yao,Yq,Yo]
    refine ⟨?_,fun j hj=>(hm j hj).1,ih⟩
    rintro j (rfl | hj)
    ·omega
    ·have:=hm j hj;omega
   ·simp only [h2,Yn,Y2,Bool.true_eq_false,false_and,Yk,Yao]
    subst h2;exact ih
   ·simp only [h2,Yk,Bool.true_eq_false,false_and,Yao,Y4,Yq]
    exact ⟨fun j hj=>(hm j hj).1,ih⟩
  ·have hm:∀ j,j ∈ ZlK i l (d || decide (i≤x))→x<j:=by
    intro j hj
    rw [ZdS] at hj
    rcases hj with hj | hj
    ·exact h.1 j hj.2
    ·omega
   generalize (d || decide (i≤x))=d' at hm ih ⊢
   have h2:¬ x=i:=by omega
   simp only [h1,and_false,Yk,h2,Yao,Y4,Yq]
   exact ⟨hm,ih⟩
theorem ZfL {l:List Int} {n i j:Int} {on:Bool} : j ∈ Zms l n i on ↔ (j≠i∧j ∈ l)∨(j=i∧on=true∧0≤i∧i<n):=by
 unfold Zms
 rw [ZdS]
 cases on <;> simp <;> omega
theorem Zkr {n:Nat} {l:List Int} (h:Up n l) (i:Int) (on:Bool):Up n (Zms l n i on):=by
 refine ⟨Zlm _ _ _ h.1,fun j hj=>?_⟩
 rw [ZfL] at hj
 rcases hj with hj | hj
 ·exact h.2 j hj.2
 ·omega
theorem Zf7 {n:Nat} {ws:List Int} (hI:Zaz n ws) (i:Int) (on:Bool) (j:Nat):bitAt (setW n ws i on) j=if 0≤i∧i<n∧i=j then on else bitAt ws j:=by
 unfold setW setB hasW
 by_cases hb:0≤i∧i<n
 ·rw [show (decide (0≤i) && decide (i<(n:Int)))=true by simp [hb],YaG,YaG]
  have hq:=hI.at i hb.1 hb.2
  have flip:∀ j,bitAt (ZgM ws i.toNat) j=if i=j then !bitAt ws j else bitAt ws j:=by
   intro j
   unfold bitAt ZgM
   by_cases hj:j / 64<ws.length
   ·rw [ZcM hj]
    by_cases he:i.toNat / 64=j / 64
    ·rw [Ye he,Yc,Nat.testBit_xor,Nat.testBit_two_pow,he]
     by_cases e2:i=j
     ·subst e2;simp
     ·rw [Yb e2,show decide (i.toNat % 64=j % 64)=false by simp;omega,Bool.xor_false]
    ·rw [Yb he,Yb (fun e=>he ow)]
   ·rw [Zcx (by rw [YF];omega),Zcx ow,Yb (fun e=>hj ow)]
  by_cases h1:(bitAt ws i.toNat != on)=true
  ·rw [Ye h1,flip j]
   by_cases e:i=j
   ·rw [Ye e,Ye ⟨hb.1,hb.2,e⟩]
    subst e
    rw [Yc] at h1
    cases hx:bitAt ws j <;> rw [hx] at h1 <;> cases on <;> simp_all
   ·rw [Yb e,Yb (fun h=>e h.2.2)]
  ·rw [Yb h1]
   by_cases e:i=j
   ·rw [Ye ⟨hb.1,hb.2,e⟩]
    subst e
    rw [Yc] at h1
    cases hx:bitAt ws j <;> rw [hx] at h1 <;> cases on <;> simp_all
   ·rw [Yb (fun h=>e h.2.2)]
 ·rw [Zcu hb,Ya9,Yb (by simp),Yb (fun h=>hb ⟨h.1,h.2.1⟩)]
theorem Zaf.set {n:Nat} {ws x:List Int} (h:Zaf n ws x) (i:Int) (on:Bool):Zaf n (setW n ws i on) (Zms x n i on):=by
 refine Zaf.mk' (h.ok.setW i on) (fun j hj=>?_) (Zkr h.up i on) (fun j hj=>?_)
 ·rw [Zf7 h.ok,Yb ow,h.clean j hj]
 ·rw [Zf7 h.ok,ZfL]
  have:=h.mem j
  by_cases e:0≤i∧i<n∧i=j
  ·rw [Ye e]
   constructor
   ·intro ho;exact .inr ⟨e.2.2.symm,ho,e.1,e.2.1⟩
   ·rintro (⟨h1,_⟩ | ⟨_,h2,_⟩)
    ·exact absurd e.2.2.symm h1
    ·exact h2
  ·rw [Yb e,this]
   constructor
   ·intro hm
    refine .inl ⟨fun e'=>e ?_,hm⟩
    omega
   ·rintro (⟨_,h2⟩ | ⟨h1,_,h3,h4⟩)
    ·exact h2
    ·exact absurd ⟨h3,h4,h1.symm⟩ e
theorem Zaf.setB {n:Nat} {ws x:List Int} (h:Zaf n ws x) (i:Int) (on:Bool):setB n ws i on = !decide (x=Zms x n i on):=by
 have k:=h.set i on
 by_cases e:x=Zms x n i on
 ·rw [YR e]
  have k':Zaf n (setW n ws i on) x:=by rw [e];rw [← e];rw [← e] at k;exact k
  have hw:=h.words k'
  unfold Go.Proofs.YthfoojdlcjfmcaaGreatDoor.setB
  by_cases hb:0≤i∧i<n
  ·have hb2:=Zf7 h.ok i on i.toNat
   rw [← hw,Ye ⟨hb.1,hb.2,by omega⟩] at hb2
   unfold hasW
   rw [show (decide (0≤i) && decide (i<(n:Int)))=true by simp [hb],hb2]
   simp
  ·rw [Zcu hb];rfl
 ·rw [Ym e]
  cases hs:Go.Proofs.YthfoojdlcjfmcaaGreatDoor.setB n ws i on with
  | true=>rfl
  | false=>
   have:setW n ws i on=ws:=by unfold setW;rw [hs];rfl
   rw [this] at k
   exact absurd (h.uniq k) e
def valB:List Nat→Nat
 | []=>0
 | b :: l=>b+256*valB l
def ZhH (m:Nat):Nat→Nat
 | 0=>0
 | k+1=>m+256*ZhH m k
theorem Zc7 (b y m M:Nat) (hb:b<256) (hm:m<256):(b+256*y) &&& (m+256*M)=(b &&& m)+256*(y &&& M):=by
 have h1:((b+256*y) &&& (m+256*M)) % 2 ^ 8=b &&& m:=by
  rw [Nat.and_mod_two_pow,show (b+256*y) % 2 ^ 8=b by omega,show (m+256*M) % 2 ^ 8=m by omega]
 have h2:((b+256*y) &&& (m+256*M)) / 2 ^ 8=y &&& M:=by
  rw [← Nat.shiftRight_eq_div_pow,Nat.shiftRight_and_distrib,Nat.shiftRight_eq_div_pow,Nat.shiftRight_eq_div_pow,show (b+256*y) / 2 ^ 8=y by omega,show (m+256*M) / 2 ^ 8=M by omega]
 have h3:=Nat.div_add_mod ((b+256*y) &&& (m+256*M)) (2 ^ 8)
 rw [h1,h2] at h3
 omega
def s1 (b:Nat):Nat:=(b / 2 &&& 85)+(b &&& 85)
def s2 (b:Nat):Nat:=(b / 4 &&& 51)+(b &&& 51)
def s3 (b:Nat):Nat:=(b / 16+b) &&& 15
theorem ZnA:∀ bs:List Nat,(∀ b ∈ bs,b<256)→(valB bs / 2 &&& ZhH 85 bs.length)+(valB bs &&& ZhH 85 bs.length)=valB (bs.map s1)
 | [],_=>rfl
 | b :: l,h=>by
  have ih:=ZnA l fun x hx=>h x (by simp [hx])
  have hb:=h b (by simp)
  simp only [valB,Yv,ZhH,YI]
  have e:(b+256*valB l) / 2=(b / 2+128*(valB l % 2))+256*(valB l / 2):=by omega
  rw [e,Zc7 _ _ _ _ ow (by decide),Zc7 _ _ _ _ hb (by decide)]
  have k:∀ (b:Fin 256) (t:Fin 2),(b.val / 2+128*t.val) &&& 85=b.val / 2 &&& 85:=by decide +kernel
  have:=k ⟨b,hb⟩ ⟨valB l % 2,Yby _ (by decide)⟩
  simp only at this
  rw [this,s1]
  omega
theorem Znm:∀ bs:List Nat,(∀ b ∈ bs,b<256)→(valB bs / 4 &&& ZhH 51 bs.length)+(valB bs &&& ZhH 51 bs.length)=valB (bs.map s2)
 | [],_=>rfl
 | b :: l,h=>by
  have ih:=Znm l fun x hx=>h x (by simp [hx])
  have hb:=h b (by simp)
  simp only [valB,Yv,ZhH,YI]
  have e:(b+256*valB l) / 4=(b / 4+64*(valB l % 4))+256*(valB l / 4):=by omega
  rw [e,Zc7 _ _ _ _ ow (by decide),Zc7 _ _ _ _ hb (by decide)]
  have k:∀ (b:Fin 256) (t:Fin 4),(b.val / 4+64*t.val) &&& 51=b.val / 4 &&& 51:=by decide +kernel
  have:=k ⟨b,hb⟩ ⟨valB l % 4,Yby _ (by decide)⟩
  simp only at this
  rw [this,s2]
  omega
theorem Zni:∀ bs:List Nat,(∀ b ∈ bs,b / 16≤4∧b % 16≤4)→(valB bs / 16+valB bs) &&& ZhH 15 bs.length=valB (bs.map s3)∧valB bs % 16≤4
 | [],_=>⟨rfl,by decide⟩
 | b :: l,h=>by
  have ih:=Zni l fun x hx=>h x (by simp [hx])
  have hb:=h b (by simp)
  simp only [valB,Yv,ZhH,YI]
  refine ⟨?_,by omega⟩
  have e:(b+256*valB l) / 16+(b+256*valB l)=(b / 16+b+16*(valB l % 16))+256*(valB l / 16+valB l):=by omega
  rw [e,Zc7 _ _ _ _ ow (by decide),ih.1]
  have k:∀ (b:Fin 128) (t:Fin 5),(b.val / 16+b.val+16*t.val) &&& 15=(b.val / 16+b.val) &&& 15:=by decide +kernel
  have:=k ⟨b,by omega⟩ ⟨valB l % 16,by omega⟩
  simp only at this
  rw [this,s3]
def ZeR (b:Nat):Nat:=(List.range 8).countP fun j=>b.testBit j
theorem s321:∀ b:Fin 256,s3 (s2 (s1 b.val))=ZeR b.val∧s1 b.val<256∧s2 (s1 b.val) / 16≤4∧s2 (s1 b.val) % 16≤4∧ZeR b.val≤8:=by decide +kernel
def bytes8 (x:Nat):List Nat:=[x % 256,x / 256 % 256,x / 65536 % 256,x / 16777216 % 256,x / 4294967296 % 256,x / 1099511627776 % 256,x / 281474976710656 % 256,x / 72057594037927936]
theorem Zfb (x:Nat):valB (bytes8 x)=x:=by simp only [bytes8,valB];omega
theorem Zd0 {x:Nat} (h:x<18446744073709551616):∀ b ∈ bytes8 x,b<256:=by
 intro b hb
 simp only [bytes8,Yo,Ya8,Ybx] at hb
 rcases hb with h | h | h | h | h | h | h | h <;> omega
theorem dig1 (a r:Nat) (ha:a<256):(a+256*r) / 256=r:=by omega
theorem dig2 (a b r:Nat) (ha:a<256) (hb:b<256):(a+256*(b+256*r)) / 65536=r:=by omega
theorem dig4 (a b c d r:Nat) (ha:a<256) (hb:b<256) (hc:c<256) (hd:d<256):(a+256*(b+256*(c+256*(d+256*r)))) / 4294967296=r:=by omega
theorem sum81 (d0 d1 d2 d3 d4 d5 d6 d7:Nat):valB [d0,d1,d2,d3,d4,d5,d6,d7] + valB [d1,d2,d3,d4,d5,d6,d7] = valB [d0+d1,d1+d2,d2+d3,d3+d4,d4+d5,d5+d6,d6+d7,d7]:=by simp only [valB];omega
theorem sum82 (d0 d1 d2 d3 d4 d5 d6 d7:Nat):valB [d0,d1,d2,d3,d4,d5,d6,d7] + valB [d2,d3,d4,d5,d6,d7] = valB [d0+d2,d1+d3,d2+d4,d3+d5,d4+d6,d5+d7,d6,d7]:=by simp only [valB];omega
theorem sum84 (d0 d1 d2 d3 d4 d5 d6 d7:Nat):valB [d0,d1,d2,d3,d4,d5,d6,d7] + valB [d4,d5,d6,d7] = valB [d0+d4,d1+d5,d2+d6,d3+d7,d4,d5,d6,d7]:=by simp only [valB];omega
theorem last8 (g0 g1 g2 g3 g4 g5 g6 g7:Nat) (h0:g0≤64) (h1:g1≤64) (h2:g2≤64) (h3:g3≤64) (h4:g4≤64) (h5:g5≤64) (h6:g6≤64) (h7:g7≤64):valB [g0,g1,g2,g3,g4,g5,g6,g7] % 128=g0∧valB [g0,g1,g2,g3,g4,g5,g6,g7] < 18446744073709551616:=by
 refine ⟨?_,?_⟩
 ·show (g0+256*valB [g1,g2,g3,g4,g5,g6,g7]) % 128=g0
  generalize valB [g1,g2,g3,g4,g5,g6,g7] = r
  clear h1 h2 h3 h4 h5 h6 h7
  omega
 ·simp only [valB];omega
theorem Zpc (d0 d1 d2 d3 d4 d5 d6 d7:Nat) (h0:d0≤8) (h1:d1≤8) (h2:d2≤8) (h3:d3≤8) (h4:d4≤8) (h5:d5≤8) (h6:d6≤8) (h7:d7≤8) (x y z u:Nat)
  (hx:x=valB [d0,d1,d2,d3,d4,d5,d6,d7]) (hy:y=x+x / 256) (hz:z=y+y / 65536) (hu:u=z+z / 4294967296):u % 128=d0+d1+d2+d3+d4+d5+d6+d7∧u<18446744073709551616:=by
 have hx1:x / 256=valB [d1,d2,d3,d4,d5,d6,d7]:=by rw [hx];exact dig1 _ _ ow
 rw [hx1,hx,sum81] at hy
 have hy1:y / 65536=valB [d2+d3,d3+d4,d4+d5,d5+d6,d6+d7,d7]:=by rw [hy];exact dig2 _ _ _ ow ow
 rw [hy1,hy,sum82] at hz
 have hz1:z / 4294967296=valB [d4+d5+(d6+d7),d5+d6+d7,d6+d7,d7]:=by rw [hz];exact dig4 _ _ _ _ _ ow ow ow ow
 rw [hz1,hz,sum84] at hu
 have:=last8 (d0+d1+(d2+d3)+(d4+d5+(d6+d7))) (d1+d2+(d3+d4)+(d5+d6+d7)) (d2+d3+(d4+d5)+(d6+d7)) (d3+d4+(d5+d6)+d7) (d4+d5+(d6+d7)) (d5+d6+d7) (d6+d7) d7 ow ow ow ow ow ow ow ow
 rw [hu]
 exact ⟨by rw [this.1];omega,this.2⟩
theorem ZaJ (x m:Nat) (hx:x<18446744073709551616) (hm:m<18446744073709551616):bits .and .u64 (x:Int) (m:Int)=((x &&& m:Nat):Int):=by
 have h1:(BitVec.ofInt 64 (x:Int)).toNat=x:=by rw [Yat];omega
 have h2:(BitVec.ofInt 64 (m:Int)).toNat=m:=by rw [Yat];omega
 show IntKind.wrap .u64 (((BitVec.ofInt 64 (x:Int) &&& BitVec.ofInt 64 (m:Int)).toNat:Nat):Int)=_
 rw [BitVec.toNat_and,h1,h2]
 exact Z3 (by have:=Nat.and_lt_two_pow (n:=64) x (y:=m) ow;omega)
theorem ZdR (x k:Nat) (hk:k<64):ZoM (x:Int) (k:Int)=((x / 2 ^ k:Nat):Int):=by
 unfold ZoM
 rw [Yc,show min k (IntKind.bits .u64)=k by simp only [IntKind.bits];omega,YaJ _ (by exact_mod_cast Yr _)]
 norm_cast
theorem ZaU (x m:Nat):x &&& m≤m:=Nat.and_le_right
theorem Zmn {x:Nat} (h:x<18446744073709551616):onesF (x:Int)=((((bytes8 x).map ZeR).sum:Nat):Int):=by
 have e1:ones1 (x:Int)=((valB ((bytes8 x).map s1):Nat):Int):=by
  rw [← ZnA _ (Zd0 h),Zfb]
  unfold ones1
  rw [show (1:Int)=((1:Nat):Int) from rfl,ZdR x 1 (by decide)]
  rw [show (6148914691236517205:Int)=((6148914691236517205:Nat):Int) from rfl,ZaJ _ _ ow (by decide),ZaJ _ _ h (by decide)]
  have l1:=ZaU (x / 2 ^ 1) 6148914691236517205
  have l2:=ZaU x 6148914691236517205
  rw [Z3 ow]
  have er:ZhH 85 (bytes8 x).length=6148914691236517205:=by show ZhH 85 8=_;decide
  rw [er]
  simp only [Nat.pow_one]
  omega
 have hb:∀ b ∈ bytes8 x,s3 (s2 (s1 b))=ZeR b∧s1 b<256∧s2 (s1 b) / 16≤4∧s2 (s1 b) % 16≤4∧ZeR b≤8:=fun b hb=>s321 ⟨b,Zd0 h b hb⟩
 have e2:ones2 (ones1 (x:Int))=((valB (((bytes8 x).map s1).map s2):Nat):Int):=by
  have hl:∀ b ∈ (bytes8 x).map s1,b<256:=by
   intro b hm
   obtain ⟨c,hc,rfl⟩:=YD.1 hm
   exact (hb c hc).2.1
  have hv:valB ((bytes8 x).map s1)<18446744073709551616:=by
   have:∀ l:List Nat,(∀ b ∈ l,b<256)→valB l<256 ^ l.length:=by
    intro l
    induction l with
    | nil=>intro _;decide
    | cons b l ih=>
     intro hh
     have:=ih fun x hx=>hh x (by simp [hx])
     have:=hh b (by simp)
     simp only [valB,Yv,Nat.pow_succ]
     omega
   have:=this _ hl
   have e:(256:Nat) ^ (bytes8 x).length=18446744073709551616:=by show 256 ^ 8=_;decide
   rw [YY,e] at this
   exact this
  rw [e1,← Znm _ hl]
  generalize valB ((bytes8 x).map s1)=y at hv
  unfold ones2
  rw [show (2:Int)=((2:Nat):Int) from rfl,ZdR y 2 (by decide)]
  rw [show (3689348814741910323:Int)=((3689348814741910323:Nat):Int) from rfl,ZaJ _ _ ow (by decide),ZaJ _ _ hv (by decide)]
  have l1:=ZaU (y / 2 ^ 2) 3689348814741910323
  have l2:=ZaU y 3689348814741910323
  rw [Z3 ow]
  have er:ZhH 51 ((bytes8 x).map s1).length=3689348814741910323:=by rw [YY];show ZhH 51 8=_;decide
  rw [er]
  simp only [show 2 ^ 2=4 from rfl]
  omega
 have e3:ones3 (ones2 (ones1 (x:Int)))=((valB ((bytes8 x).map ZeR):Nat):Int):=by
  have hl:∀ b ∈ ((bytes8 x).map s1).map s2,b / 16≤4∧b % 16≤4:=by
   intro b hm
   obtain ⟨c,hc,rfl⟩:=YD.1 hm
   obtain ⟨d,hd,rfl⟩:=YD.1 hc
   exact ⟨(hb d hd).2.2.1,(hb d hd).2.2.2.1⟩
  have hv:valB (((bytes8 x).map s1).map s2)<5000000000000000000:=by
   have:∀ l:List Nat,(∀ b ∈ l,b / 16≤4∧b % 16≤4)→valB l*255≤68*(256 ^ l.length - 1):=by
    intro l
    induction l with
    | nil=>intro _;decide
    | cons b l ih=>
     intro hh
     have h1:=ih fun x hx=>hh x (by simp [hx])
     have h2:=hh b (by simp)
     have h3:0<256 ^ l.length:=Nat.pow_pos (by decide)
     simp only [valB,Yv,Nat.pow_succ]
     omega
   have:=this _ hl
   rw [YY,YY] at this
   have e:(256:Nat) ^ (bytes8 x).length=18446744073709551616:=by show 256 ^ 8=_;decide
   rw [e] at this
   omega
  have hp:(((bytes8 x).map s1).map s2).map s3=(bytes8 x).map ZeR:=by
   rw [Ybu,Ybu]
   exact List.map_congr_left fun b hm=>(hb b hm).1
  rw [e2,← hp,← (Zni _ hl).1]
  generalize valB (((bytes8 x).map s1).map s2)=y at hv
  unfold ones3
  rw [show (4:Int)=((4:Nat):Int) from rfl,ZdR y 4 (by decide)]
  rw [show (1085102592571150095:Int)=((1085102592571150095:Nat):Int) from rfl,Z3 ow,← Int.natCast_add,ZaJ _ _ ow (by decide)]
  have er:ZhH 15 (((bytes8 x).map s1).map s2).length=1085102592571150095:=by rw [YY,YY];show ZhH 15 8=_;decide
  rw [er]
 unfold onesF
 rw [e3]
 have hd:∀ b ∈ (bytes8 x).map ZeR,b≤8:=by
  intro b hm
  obtain ⟨c,hc,rfl⟩:=YD.1 hm
  exact (hb c hc).2.2.2.2
 simp only [bytes8,YI,Ybt,Yo,Ya8,Ybx,forall_eq_or_imp,forall_eq] at hd
 obtain ⟨h0,h1,h2,h3,h4,h5,h6,h7⟩:=hd
 have hsum:((bytes8 x).map ZeR).sum=ZeR (x % 256)+ZeR (x / 256 % 256)+ZeR (x / 65536 % 256)+ZeR (x / 16777216 % 256)+ZeR (x / 4294967296 % 256)+ZeR (x / 1099511627776 % 256)+ZeR (x / 281474976710656 % 256)+ZeR (x / 72057594037927936):=by
  simp only [bytes8,YI,Ybt,List.sum_cons,List.sum_nil]
  omega
 rw [hsum]
 obtain ⟨X,hX⟩:∃ X,X=valB ((bytes8 x).map ZeR):=⟨_,rfl⟩
 obtain ⟨y,hy⟩:∃ y,y=X+X / 256:=⟨_,rfl⟩
 obtain ⟨z,hz⟩:∃ z,z=y+y / 65536:=⟨_,rfl⟩
 obtain ⟨u,hu⟩:∃ u,u=z+z / 4294967296:=⟨_,rfl⟩
 obtain ⟨g1,g2⟩:=Zpc _ _ _ _ _ _ _ _ h0 h1 h2 h3 h4 h5 h6 h7 X y z u hX hy hz hu
 rw [← g1,← hX]
 clear hX h0 h1 h2 h3 h4 h5 h6 h7 hsum g1 hb e1 e2 e3
 have o4:∀ (y k:Nat),k<64→y+y / 2 ^ k<18446744073709551616→ones4 (y:Int) (k:Int)=((y+y / 2 ^ k:Nat):Int):=by
  intro y k hk hy
  unfold ones4
  rw [ZdR y k hk]
  generalize y / 2 ^ k=r at hy ⊢
  rw [Z3 ow]
  omega
 have o1:ones4 (X:Int) 8=(y:Int):=by rw [hy];exact o4 X 8 (by decide) (by show X+X / 256<_;omega)
 have o2:ones4 (y:Int) 16=(z:Int):=by rw [hz];exact o4 y 16 (by decide) (by show y+y / 65536<_;omega)
 have o3:ones4 (z:Int) 32=(u:Int):=by rw [hu];exact o4 z 32 (by decide) (by show z+z / 4294967296<_;omega)
 rw [o1,o2,o3]
 have e:bits .and .i64 (IntKind.wrap .i64 (u:Int)) 127=((u % 128:Nat):Int):=by
  have h2:(BitVec.ofInt 64 (127:Int)).toNat=2 ^ 7 - 1:=by decide
  show IntKind.wrap .i64 (((BitVec.ofInt 64 (IntKind.wrap .i64 (u:Int)) &&& BitVec.ofInt 64 127).toNat:Nat):Int)=_
  rw [BitVec.toNat_and,h2,Nat.and_two_pow_sub_one_eq_mod]
  have h1:(BitVec.ofInt 64 (IntKind.wrap .i64 (u:Int))).toNat % 2 ^ 7=u % 128:=by
   rw [Yat]
   simp only [IntKind.wrap,IntKind.bits,IntKind.signed,YaG,Yu]
   split <;> omega
  rw [h1,ZN ow]
 exact e
theorem Zmi (b y k:Nat) (hb:b<256):(List.range (8+k)).countP (fun j=>(b+256*y).testBit j)=ZeR b+(List.range k).countP (fun j=>y.testBit j):=by
 rw [List.range_add,List.countP_append,List.countP_map]
 congr 1
 ·unfold ZeR
  refine List.countP_congr fun j hj=>?_
  rw [Yaa] at hj
  have:(b+256*y).testBit j=b.testBit j:=by
   have:=Nat.testBit_mod_two_pow (b+256*y) 8 j
   rw [show (b+256*y) % 2 ^ 8=b by omega] at this
   rw [this];simp [hj]
  rw [this]
 ·refine List.countP_congr fun j _=>?_
  have:(b+256*y).testBit (8+j)=y.testBit j:=by
   rw [show b+256*y=2 ^ 8*y+b by omega,Nat.add_comm 8 j,Nat.testBit_two_pow_mul_add y (by omega:b<2 ^ 8),Yb ow,Nat.add_sub_cancel]
  simp only [Function.comp_apply,this]
theorem ZlQ {x:Nat} (h:x<18446744073709551616):((bytes8 x).map ZeR).sum=(List.range 64).countP (fun j=>x.testBit j):=by
 have hv:=Zfb x
 have hl:=Zd0 h
 have key:∀ l:List Nat,(∀ b ∈ l,b<256)→(l.map ZeR).sum=(List.range (8*l.length)).countP (fun j=>(valB l).testBit j):=by
  intro l
  induction l with
  | nil=>intro _;rfl
  | cons b l ih=>
   intro hh
   rw [YI,List.sum_cons,ih fun x hx=>hh x (by simp [hx]),Yv,show 8*(l.length+1)=8+8*l.length by omega,valB,Zmi _ _ _ (hh b (by simp))]
 have:=key _ hl
 rw [hv] at this
 exact this
theorem ZbD (p:Nat→Bool) (a b:Nat):(List.range (a+b)).countP p=(List.range a).countP p+(List.range b).countP fun j=>p (a+j):=by
 rw [List.range_add,List.countP_append,List.countP_map]
 rfl
theorem ZhJ (p:Nat→Bool) (b:Nat) (h:∀ j,j<b→p j=false):(List.range b).countP p=0:=by
 rw [List.countP_eq_zero]
 intro j hj
 rw [Yaa] at hj
 simp [h j hj]
theorem ZgO:∀ ws:List Int,(∀ x ∈ ws,0≤x∧x<18446744073709551616)→ZpF ws=(((List.range (64*ws.length)).countP fun j=>bitAt ws j:Nat):Int)
 | [],_=>rfl
 | x :: ws,h=>by
  have hx:=h x (by simp)
  have ih:=ZgO ws fun y hy=>h y (by simp [hy])
  have e:∀ (l:List Int) (s:Int),l.foldl (fun s x=>s+onesF x) s=s+l.foldl (fun s x=>s+onesF x) 0:=by
   intro l
   induction l with
   | nil=>intro s;simp
   | cons y l ih=>intro s;rw [Yav,Yav,ih (s+onesF y),ih (0+onesF y)];omega
  obtain ⟨X,rfl⟩:=Y9 hx.1
  unfold ZpF at ih ⊢
  rw [Yav,e,ih,Zmn ow,ZlQ ow,Yv,show 64*(ws.length+1)=64+64*ws.length by omega,ZbD]
  have e1:(List.range 64).countP (fun j=>bitAt ((X:Int) :: ws) j)=(List.range 64).countP (fun j=>X.testBit j):=by
   refine List.countP_congr fun j hj=>?_
   rw [Yaa] at hj
   unfold bitAt
   rw [show j / 64=0 by omega,show j % 64=j by omega]
   simp [Nn]
  have e2:(fun j=>bitAt ((X:Int) :: ws) (64+j))=fun j=>bitAt ws j:=by
   funext j
   unfold bitAt
   rw [show (64+j) / 64=j / 64+1 by omega,show (64+j) % 64=j % 64 by omega]
   simp [Nn]
  rw [e1,e2]
  omega
theorem Zaf.count {n:Nat} {ws x:List Int} (h:Zaf n ws x):ZpF ws=(x.length:Int):=by
 have e:x=places n ws:=Zfw h.up.1 (Zlv n ws).1 fun i=>by
  rw [Zfi]
  constructor
  ·intro hi
   have h1:=h.up.2 i hi
   exact ⟨h1.1,h1.2,(h.mem i.toNat).2 (by rw [Yac h1.1];exact hi)⟩
  ·rintro ⟨h1,_,h3⟩
   have:=(h.mem i.toNat).1 h3
   rwa [Yac h1] at this
 rw [ZgO ws (fun x hx=>by
  obtain ⟨k,hk,rfl⟩:=YL hx
  have:=h.ok.wd k
  rwa [Zm hk] at this),e]
 unfold places
 rw [YY,← List.countP_eq_length_filter]
 have hl:=h.ok.len
 obtain ⟨d,hd⟩:∃ d,64*ws.length=n+d:=⟨64*ws.length - n,by omega⟩
 rw [hd,ZbD,ZhJ (fun j=>bitAt ws (n+j)) d (fun j _=>h.clean _ ow)]
 rfl
def ZnE:List Int:=Lib.deBruijn64tab.map fun c:Nat=>(c:Int)
def ZhQ:PV:=.ref (ZnE.map fun c=>PV.int .u8 c)
def Zh1:Value:=.pointer (some ⟨0,0,none⟩)
def ZhM (v:Value) (n:Nat) (x:List Int):HP:=.ex fun ws:List Int=>.and (Zaf n ws x) (.star [RS.hp (Zc3 v n ws),RS.hp (gH ZhQ Zh1)])
def setR (n:Nat) (x:List Int):PV:=⟨fun u w y=>(∃ ws,Zaf n ws x∧(PV.ref [.int .i64 n,.sl Znx ws]).p u w y)∧ZhQ.p Zh1 w y,
 fun h ⟨⟨ws,h1,h2⟩,h3⟩=>⟨⟨ws,h1,PV.mono _ h h2⟩,PV.mono _ h h3⟩⟩
theorem ZcO {v:Value} {n:Nat} {x:List Int} {w:World} {f y:Ys} : (ZhM v n x).p w f y ↔ ∃ ws,Zaf n ws x∧(Zc3 v n ws).p w f y∧ZhQ.p Zh1 w y:=by
 constructor
 ·rintro ⟨ws,h1,h2⟩
  obtain ⟨h3,h4⟩:=(Zo2 rfl).1 h2
  exact ⟨ws,h1,h3,h4⟩
 ·rintro ⟨ws,h1,h3,h4⟩
  exact ⟨ws,h1,(Zo2 rfl).2 ⟨h3,h4⟩⟩
theorem Zm6 {v:Value} {n:Nat} {x:List Int} {w:World} {f y:Ys} (h:(ZhM v n x).p w f y):∃ b,v = .pointer (some ⟨b,0,none⟩):=by
 obtain ⟨ws,_,h,_⟩:=ZcO.1 h
 exact (Zlh h).2
theorem ZoK (v:Value) (n:Nat) (ws:List Int):ZpR (Zc3 v n ws):=by
 rintro w f y y' ⟨wv,hI,f1,f2,e1,e2,e3,⟨b,vs,h1,h2,h3,h4⟩,f3,f4,e4,e5,e6,⟨xs,h5,h6,h7⟩,h8⟩
 refine ⟨wv,hI,f1,f2,e1,e2,e3,⟨b,vs,h1,h2,h3,?_⟩,f3,f4,e4,e5,e6,⟨xs,h5,?_,h7⟩,h8⟩
 ·generalize vs.toList=us at h4
  match us,h4 with
  | [u1,u2],h4=>exact h4
 ·have:∀ (l:List Int) (us:List Value),PVs (l.flatMap Znx) us w y→PVs (l.flatMap Znx) us w y':=by
   intro l
   induction l with
   | nil=>
    intro us h
    match us,h with
    | [],_=>trivial
   | cons a l ih=>
    intro us h
    match us,h with
    | u :: us,h=>exact ⟨h.1,ih us h.2⟩
  exact this _ _ h6
theorem ZkJ {v:Value} {n:Nat} {x:List Int} : Zoj (ZhM v n x) v (setR n x):=by
 intro w f y y' h hle hf hb
 obtain ⟨ws,h1,h2,h3⟩:=ZcO.1 h
 refine ⟨⟨ws,h1,?_⟩,PV.mono _ (Ev.less w hle) h3⟩
 obtain ⟨wv,hI,f1,f2,e1,e2,e3,⟨b,vs,k1,k2,k3,k4⟩,f3,f4,e4,e5,e6,⟨xs,k5,k6,k7⟩,k8⟩:=h2
 refine ⟨b,0,vs.toList,k1,hf b ((e1 b).2 (.inl ((k3 b).2 O))),hb b ((e1 b).2 (.inl ((k3 b).2 O))),Zq.mk fun j u hj=>?_,?_⟩
 ·simp only [YP]
  simp [World.cell?,k2]
  simpa using hj
 ·generalize vs.toList=us at k4
  match us,k4 with
  | [u1,u2],k4=>
   refine ⟨k4.1,⟨k4.2.1.1,?_⟩,tv⟩
   have e:u2=wv:=k4.2.1.2.1
   subst e
   obtain ⟨ad,cap,e8,h8,h9,h10⟩:=ZB k5
   refine ⟨ad,cap,e8,h8,h9,?_⟩
   rcases h10 with h10 | ⟨b',rfl,h11,h12⟩
   ·exact .inl (YE h10)
   ·have hb':f b':=(e1 b').2 (.inr ((e4 b').2 (.inl ((k7 b').2 h11))))
    exact .inr ⟨b',0,xs,rfl,hf b' hb',hb b' hb',h12,PVs.mono (Ev.less w hle) k6⟩
theorem ZkX {W:List Nat} {w w':World} {F F':Fp} (h:Stp W w F w' F') (k:ZhQ.p Zh1 w (U F)):ZhQ.p Zh1 w' (U F'):=ZhQ.mono h.ev k
theorem FnG.ofWords {f:FuncId} {args:List PV} {q:PV} {v:Value} {n:Nat} {x x':List Int} (h:∀ ws,Zaf n ws x → ∃ ws',Zaf n ws' x' ∧ FnG prog f 1 args [Zc3 v n ws] q (fun _=>[Zc3 v n ws'])):FnG prog f 1 args [ZhM v n x] q (fun _=>[ZhM v n x']):=fun w F vs hw hle hv hp=>by
 obtain ⟨ws,h1,h2,h3⟩:=ZcO.1 (hp 0 _ rfl)
 obtain ⟨ws',h4,hc⟩:=h ws h1
 refine (hc w F vs hw hle hv (fun i k hi=>by
  match i,hi with
  | 0,hi=>simp at hi;subst hi;exact h2)).mono ?_
 rintro e w' ⟨u,F',rfl,a1,a2,a3,a4,a5⟩
 refine ⟨u,F',rfl,a1,a2,a3,a4,fun i k hi=>?_⟩
 match i,hi with
 | 0,hi=>simp at hi;subst hi;exact ZcO.2 ⟨ws',h4,a5 0 _ rfl,ZkX a2 h3⟩
theorem FnG.newSet {f:FuncId} {args:List PV} {q:PV} {n:Nat} {ws x:List Int} (hs:Zaf n ws x) (h:FnG prog f 1 args [HP.star []] q (fun v=>[Zc3 v n ws])):FnG prog f 1 args [gH ZhQ Zh1] q (fun v=>[ZhM v n x]):=fun w F vs hw hle hv hp=>by
 obtain ⟨h1,h2⟩:=hp 0 _ rfl
 refine (h w F vs hw hle hv (fun i k hi=>by
  match i,hi with
  | 0,hi=>simp at hi;subst hi;exact h1)).mono ?_
 rintro e w' ⟨u,F',rfl,a1,a2,a3,a4,a5⟩
 refine ⟨u,F',rfl,a1,a2,a3,a4,fun i k hi=>?_⟩
 match i,hi with
 | 0,hi=>simp at hi;subst hi;exact ZcO.2 ⟨ws,hs,a5 0 _ rfl,ZkX a2 h2⟩
def ZpX (l o:List Int):List Int:=l.filter fun x=>decide (x ∈ o)
theorem Zlk {n:Nat} {l:List Int} (h:Up n l) (p:Int→Bool):Up n (l.filter p):=⟨h.1.filter p,fun i hi=>h.2 i (YN.1 hi).1⟩
structure ZpG (ws:List Int) (I k X:Nat):Prop where
 hk:k<ws.length
 hX:X<18446744073709551616
 bit:∀ t,t<64→X.testBit t=(decide (I≤64*k+t) && bitAt ws (64*k+t))
 off:∀ j,I≤j→j<64*k→bitAt ws j=false
theorem Up.len {n:Nat} {x:List Int} (h:Up n x):x.length≤n:=by
 have:∀ (x:List Int) (a:Int),x.Pairwise (· < ·)→(∀ i ∈ x,a≤i∧i<n)→(x.length:Int)≤max 0 (n - a):=by
  intro x
  induction x with
  | nil=>intro a _ _;simp;omega
  | cons b x ih=>
   intro a hp hb
   rw [Yq] at hp
   have h1:=hb b (by simp)
   have:=ih (b+1) hp.2 fun i hi=>⟨by have:=hp.1 i hi;omega,(hb i (by simp [hi])).2⟩
   simp only [Yv]
   omega
 have:=this x 0 h.1 h.2
 omega
theorem Zpo (b n:Nat) (x:List Int) (i:Int) (on:Bool):FnG prog 89 1 [.is (.pointer (some ⟨b,0,none⟩)),.int .i64 i,.bool on] [ZhM (.pointer (some ⟨b,0,none⟩)) n x] (.bool (!decide (x=Zms x n i on))) (fun _=>[ZhM (.pointer (some ⟨b,0,none⟩)) n (Zms x n i on)]):=FnG.ofWords fun ws hs=>⟨_,hs.set i on,by rw [← hs.setB];exact set_c b n ws i on⟩
theorem Zfg (m:Int):FnG prog 88 1 [.int .i64 m] [gH ZhQ Zh1] PV.ptr (fun v=>[ZhM v (rowN m) []]):=FnG.newSet (Zaf.zero m) (Zpk m)
def trimW (n:Nat) (c:Int):Int:=if n % 64=0 then c else ((c.toNat % 2 ^ (n % 64):Nat):Int)
def ZgA (n:Nat) (ws:List Int):List Int:=ws.set (ws.length - 1) (trimW n (Nn ws (ws.length - 1)))
theorem ZgY (n:Nat) (ws:List Int):(ZgA n ws).length=ws.length:=by simp [ZgA]
theorem Zd8 {n:Nat} {ws:List Int} (hl:ws.length=(n+63) / 64) (j:Nat):bitAt (ZgA n ws) j=(decide (j<n) && bitAt ws j):=by
 unfold bitAt ZgA
 by_cases hj:j / 64<ws.length
 ·rw [ZcM hj]
  by_cases he:ws.length - 1=j / 64
  ·rw [Ye he,he]
   unfold trimW
   by_cases h0:n % 64=0
   ·rw [Ye h0,YR ow,YaG]
   ·rw [Yb h0,Yc,Nat.testBit_mod_two_pow]
    congr 1
    exact decide_eq_decide.2 ow
  ·rw [Yb he,YR ow,YaG]
 ·rw [Zcx (by rw [YF];omega),Zcx ow]
  simp
theorem Zaz.trim {n:Nat} {ws:List Int} (h:Zaz n ws):Zaz n (ZgA n ws):=by
 refine ⟨h.hi,by rw [ZgY];exact h.len,fun k=>?_⟩
 by_cases hk:k<ws.length
 ·unfold ZgA
  rw [ZcM hk]
  split
  ·unfold trimW
   have:=h.wd (ws.length - 1)
   split
   ·exact this
   ·have hm:=Nat.mod_le (Nn ws (ws.length - 1)).toNat (2 ^ (n % 64))
    omega
  ·exact h.wd k
 ·rw [Zcx (by rw [ZgY];omega)];omega
theorem ZlV.trim {n:Nat} {ws:List Int} (hl:ws.length=(n+63) / 64):ZlV n (ZgA n ws):=fun j hj=>by
 rw [Zd8 hl,Ym ow,Ya9]
def ZnY (len:Nat) (f:Nat→Int):List Int:=(List.range len).map f
theorem ZdL (len:Nat) (f:Nat→Int):(ZnY len f).length=len:=by simp [ZnY]
theorem Zh8 {len:Nat} {f:Nat→Int} {i:Nat} (h:i<len):Nn (ZnY len f) i=f i:=by
 rw [Zm (by rw [ZdL];exact h)];simp [ZnY]
theorem Zaz.map {n len:Nat} (h1:n≤65536) (h2:len=(n+63) / 64) {f:Nat→Int} (h:∀ i,i<len→0≤f i∧f i<18446744073709551616):Zaz n (ZnY len f):=by
 refine ⟨h1,by rw [ZdL];exact h2,fun k=>?_⟩
 by_cases hk:k<len
 ·rw [Zh8 hk];exact h k hk
 ·rw [Zcx (by rw [ZdL];omega)];omega
theorem ZjE {len:Nat} {f:Nat→Int} {j:Nat} (h:j / 64<len):bitAt (ZnY len f) j=(f (j / 64)).toNat.testBit (j % 64):=by
 unfold bitAt;rw [Zh8 h]
structure Zlc (f:Int→Int→Int) (g:Bool→Bool→Bool):Prop where
 rg:∀ a b,0≤a∧a<18446744073709551616→0≤b∧b<18446744073709551616→0≤f a b∧f a b<18446744073709551616
 bit:∀ a b,0≤a∧a<18446744073709551616→0≤b∧b<18446744073709551616 → ∀ t,t<64→(f a b).toNat.testBit t=g (a.toNat.testBit t) (b.toNat.testBit t)
theorem Zha {x:Int} (h:0≤x∧x<18446744073709551616) (t:Nat):(BitVec.ofInt 64 x).getLsbD t=x.toNat.testBit t:=by
 obtain ⟨X,rfl⟩:=Y9 h.1
 have h1:(BitVec.ofInt 64 (X:Int)).toNat=X:=by rw [Yat];omega
 rw [← BitVec.testBit_toNat,h1];rfl
theorem Zg1 (b:BitVec 64):IntKind.wrap .u64 ((b.toNat:Nat):Int)=((b.toNat:Nat):Int):=Z3 (by have:=b.isLt;omega)
theorem ZmI {f:Int→Int→Int} {g:Bool→Bool→Bool} (h:BitVec 64→BitVec 64→BitVec 64) (e:∀ a b,f a b=IntKind.wrap .u64 (((h (BitVec.ofInt 64 a) (BitVec.ofInt 64 b)).toNat:Nat):Int)) (hb:∀ x y t,t<64→(h x y).getLsbD t=g (x.getLsbD t) (y.getLsbD t)):Zlc f g:=by
 refine ⟨fun a b _ _=>?_,fun a b ha hb' t ht=>?_⟩
 ·rw [e,Zg1]
  have:=(h (BitVec.ofInt 64 a) (BitVec.ofInt 64 b)).isLt
  omega
 ·rw [e,Zg1,Yc,BitVec.testBit_toNat,hb _ _ t ht,Zha ha,Zha hb']
theorem ZkU:Zlc (fun a b=>bits .and .u64 a b) (fun p q=>p && q):=ZmI (fun x y=>x &&& y) (fun _ _=>rfl) (fun x y t _=>by simp)
def ZpW (f:Int→Int→Int) (ws us:List Int):List Int:=ZnY ws.length fun i=>f (Nn ws i) (Nn us i)
def Zj6 (f:Int→Int→Int) (n:Nat) (ws us:List Int):List Int:=ZgA n (ZpW f ws us)
theorem Zmk {f:Int→Int→Int} {g:Bool→Bool→Bool} (hf:Zlc f g) {n:Nat} {ws us:List Int} (h:Zaz n ws) (hu:∀ k,0≤Nn us k∧Nn us k<18446744073709551616):Zaz n (Zj6 f n ws us):=
 Zaz.trim (Zaz.map h.hi h.len fun i _=>hf.rg _ _ (h.wd i) (hu i))
theorem ZgW {f:Int→Int→Int} {g:Bool→Bool→Bool} (hf:Zlc f g) {n:Nat} {ws us:List Int} (h:Zaz n ws) (hu:∀ k,0≤Nn us k∧Nn us k<18446744073709551616) (j:Nat):bitAt (Zj6 f n ws us) j=(decide (j<n) && g (bitAt ws j) (bitAt us j)):=by
 unfold Zj6 ZpW
 rw [Zd8 (by rw [ZdL];exact h.len)]
 by_cases hj:j<n
 ·rw [YR hj,YaG,YaG,ZjE (by have:=h.len;omega),hf.bit _ _ (h.wd _) (hu _) _ (Yby _ (by decide))]
  rfl
 ·rw [Ym hj,Ya9,Ya9]
theorem Zaf.each {f:Int→Int→Int} {g:Bool→Bool→Bool} (hf:Zlc f g) {n m:Nat} {ws us x y x':List Int} (h:Zaf n ws x) (k:Zaf m us y) (hx:Up n x') (hm:∀ i:Int,0≤i→i<n→(g (decide (i ∈ x)) (decide (i ∈ y))=true ↔ i ∈ x')):Zaf n (Zj6 f n ws us) x':=by
 refine Zaf.mk' (Zmk hf h.ok k.ok.wd) (fun j hj=>by rw [ZgW hf h.ok k.ok.wd,Ym ow,Ya9]) hx fun j hj=>?_
 rw [ZgW hf h.ok k.ok.wd,YR hj,YaG,← hm (j:Int) ow ow]
 have e1:bitAt ws j=decide ((j:Int) ∈ x):=by rw [Y3,← Bool.coe_iff_coe,Yu];exact (h.mem j).symm
 have e2:bitAt us j=decide ((j:Int) ∈ y):=by rw [Y3,← Bool.coe_iff_coe,Yu];exact (k.mem j).symm
 rw [e1,e2]
theorem Zaf.and {n m:Nat} {ws us x y:List Int} (h:Zaf n ws x) (k:Zaf m us y):Zaf n (Zj6 (fun a b=>bits .and .u64 a b) n ws us) (ZpX x y):=
 h.each ZkU k (Zlk h.up _) fun i h0 h1=>by
  unfold ZpX
  rw [YN]
  simp
theorem Zcd {n:Nat} (h:n≤65536):rowN (n:Int)=n:=by unfold rowN;split; (omega);split <;> omega
section
variable {out t T:List Int} {x e:Int} {d:Bool}
end
structure Zp6 where
 kind:Int
 other:Bool
 i:Int
 on:Bool
 deriving DecidableEq,Inhabited
structure Zy where
 key:Int
 val:Int
 deriving DecidableEq,Inhabited
def Zav (p:Zy):List PV:=[.int .i64 p.key,.int .i64 p.val]
section
variable {out t T:List Zy} {k x:Int} {e:Zy} {d:Bool}
end
def Zcq (x:Int):List PV:=[.int .i32 x]
def ZkK:Nat→List Int→Int→Int
 | _,[],_=>-1
 | n,x :: t,id=>if x=id∧x≠0 then n else ZkK (n+1) t id
theorem ZfI (id:Int):∀ (ids:List Int) (n:Nat),(ZkK n ids id = -1 ∧ ∀ i,i<ids.length→Nn ids i=id→id=0)∨(∃ i,i<ids.length∧ZkK n ids id=((n+i:Nat):Int)∧Nn ids i=id∧id≠0)
 | [],n=>.inl ⟨rfl,fun i h=>by simp at h⟩
 | x :: t,n=>by
  unfold ZkK
  by_cases h:x=id∧x≠0
  ·rw [Ye h]
   exact .inr ⟨0,by simp,by simp,h.1,by rw [← h.1];exact h.2⟩
  ·rw [Yb h]
   rcases ZfI id t (n+1) with ⟨h1,h2⟩ | ⟨i,h1,h2,h3⟩
   ·refine .inl ⟨h1,fun i hi he=>?_⟩
    cases i with
    | zero=>
     have e:x=id:=he
     by_cases h0:id=0
     ·exact h0
     ·exact absurd ⟨e,by rw [e];exact h0⟩ h
    | succ i=>exact h2 i (by simpa using hi) he
   ·exact .inr ⟨i+1,by simpa using h1,by rw [h2];omega,h3⟩
def ZoH (ids:List Int):Nat:=ids.countP fun x=>decide (x≠0)
theorem ZlZ {ids:List Int} {i:Nat} {v:Int} (h:i<ids.length):ZoH (ids.set i v)+(if Nn ids i≠0 then 1 else 0)=ZoH ids+(if v≠0 then 1 else 0):=by
 induction ids generalizing i with
 | nil=>simp at h
 | cons x t ih=>
  cases i with
  | zero=>
   unfold ZoH
   rw [List.set_cons_zero,List.countP_cons,List.countP_cons]
   have e:Nn (x :: t) 0=x:=rfl
   rw [e]
   by_cases h1:x=0 <;> by_cases h2:v=0 <;> simp [h1,h2]
  | succ i=>
   have:=ih (i:=i) (by simpa using h)
   have e:Nn (x :: t) (i+1)=Nn t i:=rfl
   unfold ZoH at this ⊢
   rw [List.set_cons_succ,List.countP_cons,List.countP_cons,e]
   omega
def ZjS (ids:List Int):List Int:=((List.range ids.length).filter fun i=>decide (Nn ids i=0)).map fun i:Nat=>(i:Int)
theorem Zgp {ids:List Int} {i:Int} : i ∈ ZjS ids ↔ 0≤i∧i<ids.length∧Nn ids i.toNat=0:=by
 unfold ZjS
 rw [YD]
 constructor
 ·rintro ⟨j,hj,rfl⟩
  rw [YN,Yaa] at hj
  exact ⟨by omega,by omega,by simpa using hj.2⟩
 ·rintro ⟨h1,h2,h3⟩
  exact ⟨i.toNat,by rw [YN,Yaa];exact ⟨by omega,by simpa using h3⟩,by omega⟩
theorem ZmS (ids:List Int):Up ids.length (ZjS ids):=by
 refine ⟨?_,fun i hi=>by have:=Zgp.1 hi;omega⟩
 unfold ZjS
 rw [Yay]
 refine List.Pairwise.imp (R:=fun a b:Nat=>a<b) (fun h=>by omega) ?_
 exact List.Pairwise.filter _ Yba
structure ZcC (N:Nat) (ids:List Int) (es:List (Zbn Int)):Prop where
 hi:N≤4096
 len:ids.length=N
 rg:∀ i,i<N→0≤Nn ids i∧Nn ids i≤1048575
 one:∀ i j,i<N→j<N→Nn ids i=Nn ids j→Nn ids i≠0→i=j
 nd:MNd es
 get:∀ k v,Zpw k es=some v ↔ k≠0 ∧ ∃ i:Nat,v=i∧i<N∧Nn ids i=k
 cnt:es.length=ZoH ids
theorem ZcC.take {N:Nat} {ids:List Int} {es es':List (Zbn Int)} {id:Int} {i:Nat} (h:ZcC N ids es) (hid:1≤id∧id≤1048575) (hs:ZkK 0 ids id<0) (hi:i<N) (h0:Nn ids i=0)
  (hnd:MNd es') (hget:∀ k,Zpw k es' = if k=id then some (i:Int) else Zpw k es) (hlen:es'.length=es.length+1):ZcC N (ids.set i id) es':=by
 have hl:=h.len
 have hno:∀ j,j<N→Nn ids j≠id:=by
  intro j hj e
  rcases ZfI id ids 0 with ⟨_,h2⟩ | ⟨j,_,h2,_⟩
  ·have:=h2 j ow e;omega
  ·omega
 have hn:∀ j,j<N→Nn (ids.set i id) j=if i=j then id else Nn ids j:=fun j hj=>ZcM ow
 refine ⟨h.hi,by rw [YF];exact h.len,fun j hj=>?_,fun j k hj hk he hne=>?_,hnd,fun k v=>?_,?_⟩
 ·rw [hn j hj]
  split
  ·omega
  ·exact h.rg j hj
 ·rw [hn j hj] at he hne
  rw [hn k hk] at he
  by_cases e1:i=j <;> by_cases e2:i=k <;> simp [e1,e2] at he hne
  ·omega
  ·subst e1;simp [e2] at he;exact absurd he.symm (hno k hk)
  ·subst e2;simp [e1] at he;exact absurd he (hno j hj)
  ·exact h.one j k hj hk he hne
 ·rw [hget k]
  by_cases e:k=id
  ·rw [Ye e]
   constructor
   ·intro hv
    simp at hv
    exact ⟨by omega,i,hv.symm,hi,by rw [hn i hi,Ye rfl,e]⟩
   ·rintro ⟨_,j,rfl,hj,he⟩
    rw [hn j hj] at he
    split at he
    ·rename_i e3;subst e3;rfl
    ·exact absurd (he.trans e) (hno j hj)
  ·rw [Yb e,h.get]
   constructor
   ·rintro ⟨k0,j,rfl,hj,he⟩
    exact ⟨k0,j,rfl,hj,by rw [hn j hj,Yb (fun e4=>by subst e4;rw [h0] at he;exact k0 he.symm)];exact he⟩
   ·rintro ⟨k0,j,rfl,hj,he⟩
    rw [hn j hj] at he
    split at he
    ·exact absurd he.symm e
    ·exact ⟨k0,j,rfl,hj,he⟩
 ·have:=ZlZ (ids:=ids) (i:=i) (v:=id) ow
  rw [Yb (by simp [h0]),Ye ow] at this
  rw [hlen,h.cnt]
  omega
def Z2 (N:Nat):List Int:=List.replicate N 0
theorem ZcC.new {N:Nat} (h:N≤4096):ZcC N (Z2 N) []:=by
 have hz:∀ i,Nn (Z2 N) i=0:=fun i=>ZfM N i
 refine ⟨h,by simp [Z2],fun i _=>by rw [hz];omega,fun i j _ _ _ hne=>absurd (hz i) hne,by simp [MNd],fun k v=>?_,?_⟩
 ·constructor
  ·intro h;cases h
  ·rintro ⟨k0,j,_,_,hx⟩;rw [hz] at hx;exact absurd hx.symm k0
 ·unfold ZoH Z2
  rw [Y3,YS,List.countP_eq_zero]
  intro x hx
  have:=List.eq_of_mem_replicate hx
  simp [this]
def Zcl (n:Int):List Int→Bool→List Int
 | [],d=>if d then [] else [n]
 | x :: l,d=>(if d=false∧n≤x then [n] else [])++(if x=n then [] else [x])++Zcl n l (d || decide (n≤x))
def Zft (l:List Int) (n:Int):List Int:=Zcl n l false
abbrev Zdd (l:List Int):Prop:=l.Pairwise fun a b=>a<b
theorem Zdm {n:Int} : ∀ {l:List Int},(∀ x ∈ l,n<x)→Zcl n l true=l
 | [],_=>rfl
 | x :: l,h=>by
  have:=h x (by simp)
  rw [Zcl,Bool.true_or,Zdm fun y hy=>h y (by simp [hy]),Yb (by simp),Yb ow]
  rfl
theorem Zca {n:Int} : ∀ {l:List Int},Zdd l→Zdd (Zft l n) ∧ ∀ x,x ∈ Zft l n ↔ x ∈ l∨x=n
 | [],_=>by simp [Zft,Zcl]
 | y :: l,h=>by
  have h':=Yq.1 h
  unfold Zft
  by_cases h1:y<n
  ·have e:Zcl n (y :: l) false=y :: Zcl n l false:=by
    rw [Zcl,Yb ow,Yb ow,show (false || decide (n≤y))=false by simp;omega];rfl
   have ih:=Zca (n:=n) h'.2
   rw [e]
   refine ⟨Yq.2 ⟨fun p hp=>?_,ih.1⟩,fun x=>?_⟩
   ·rcases (ih.2 p).1 hp with hp | rfl
    ·exact h'.1 p hp
    ·exact h1
   ·have:=ih.2 x
    unfold Zft at this
    simp only [Yo,this]
    constructor
    ·rintro (h | h | h)
     ·exact .inl (.inl h)
     ·exact .inl (.inr h)
     ·exact .inr h
    ·rintro ((h | h) | h)
     ·exact .inl h
     ·exact .inr (.inl h)
     ·exact .inr (.inr h)
  ·by_cases h2:y=n
   ·subst h2
    rw [Zcl,Ye ⟨rfl,Ya6 _⟩,Ye rfl,show (false || decide (y≤y))=true by simp,Zdm h'.1]
    exact ⟨h,fun x=>by simp;intro e;exact .inl e⟩
   ·rw [Zcl,Ye ⟨rfl,by omega⟩,Yb h2,show (false || decide (n≤y))=true by simp;omega,Zdm fun x hx=>by have:=h'.1 x hx;omega]
    refine ⟨Yq.2 ⟨fun p hp=>?_,h⟩,fun x=>by simp;constructor <;> (rintro (h | h | h) <;> simp [h])⟩
    rcases Yo.1 hp with rfl | hp
    ·omega
    ·have:=h'.1 p hp;omega
def Zdq (l:List Int):List Int:=l.foldl Zft []
theorem ZaH (l:List Int):Zdd (Zdq l) ∧ ∀ x,x ∈ Zdq l ↔ x ∈ l:=by
 have key:∀ (l acc:List Int),Zdd acc→Zdd (l.foldl Zft acc) ∧ ∀ x,x ∈ l.foldl Zft acc ↔ x ∈ acc∨x ∈ l:=by
  intro l
  induction l with
  | nil=>intro acc h;exact ⟨h,fun x=>by simp⟩
  | cons y l ih=>
   intro acc h
   have h1:=Zca (n:=y) h
   have h2:=ih (Zft acc y) h1.1
   refine ⟨h2.1,fun x=>?_⟩
   rw [Yav,h2.2 x,h1.2 x,Yo]
   constructor
   ·rintro ((h | h) | h)
    ·exact .inl h
    ·exact .inr (.inl h)
    ·exact .inr (.inr h)
   ·rintro (h | h | h)
    ·exact .inl (.inl h)
    ·exact .inl (.inr h)
    ·exact .inr h
 have:=key l [] List.Pairwise.nil
 exact ⟨this.1,fun x=>by rw [show Zdq l=l.foldl Zft [] from rfl,this.2 x];simp⟩
theorem Zdj:∀ {a b:List Int},Zdd a→Zdd b→(∀ x,x ∈ a ↔ x ∈ b)→a=b
 | [],[],_,_,_=>rfl
 | [],y :: b,_,_,h=>by have:=(h y).2 (by simp);cases this
 | x :: a,[],_,_,h=>by have:=(h x).1 (by simp);cases this
 | x :: a,y :: b,ha,hb,h=>by
  have ha':=Yq.1 ha
  have hb':=Yq.1 hb
  have e:x=y:=by
   rcases Yo.1 ((h x).1 (by simp)) with e | e
   ·exact e
   ·rcases Yo.1 ((h y).2 (by simp)) with e2 | e2
    ·exact e2.symm
    ·have:=hb'.1 x e;have:=ha'.1 y e2;omega
  subst e
  congr 1
  refine Zdj ha'.2 hb'.2 fun z=>⟨fun hz=>?_,fun hz=>?_⟩
  ·rcases Yo.1 ((h z).1 (by simp [hz])) with e | e
   ·have:=ha'.1 z hz;omega
   ·exact e
  ·rcases Yo.1 ((h z).2 (by simp [hz])) with e | e
   ·have:=hb'.1 z hz;omega
   ·exact e
theorem ZgD {n:Int} : ∀ (l:List Int) (d:Bool),(Zcl n l d).length≤l.length+1
 | [],d=>by cases d <;> simp [Zcl]
 | x :: l,d=>by
  have h1:=ZgD (n:=n) l (d || decide (n≤x))
  have h2:∀ l:List Int,(Zcl n l true).length≤l.length:=fun l=>by
   induction l with
   | nil=>simp [Zcl]
   | cons y l ih=>
    rw [Zcl,Yb (by simp),Yd,Yd,Bool.true_or]
    split <;> simp <;> omega
  rw [Zcl,Yd,Yd]
  have h3:=h2 l
  by_cases hA:d=false∧n≤x
  ·rw [show (d || decide (n≤x))=true by simp [hA.2],Ye hA]
   split <;> simp <;> omega
  ·rw [Yb hA]
   split <;> simp <;> omega
structure STO {α:Type} (lt:α→α→Bool):Prop where
 irr:∀ a,lt a a=false
 tr:∀ a b c,lt a b=true→lt b c=true→lt a c=true
 tot:∀ a b,lt a b=false→lt b a=false→a=b
section
variable {α:Type} {lt:α→α→Bool}
theorem STO.ne (h:STO lt) {a b:α} (k:lt a b=true):a≠b:=fun e=>by subst e;rw [h.irr] at k;cases k
abbrev ZoZ (lt:α→α→Bool) (l:List α):Prop:=l.Pairwise fun a b=>lt a b=true
variable [DecidableEq α]
def Ze0 (lt:α→α→Bool) (e:α):List α→Bool→List α
 | [],d=>if d then [] else [e]
 | x :: l,d=>(if d=false∧lt x e=false then [e] else [])++(if x=e then [] else [x])++Ze0 lt e l (d || !lt x e)
def ZlL (lt:α→α→Bool) (l:List α) (e:α):List α:=Ze0 lt e l false
theorem Zds (h:STO lt) {e:α} : ∀ {l:List α},(∀ x ∈ l,lt e x=true)→Ze0 lt e l true=l
 | [],_=>rfl
 | x :: l,k=>by
  have h1:=k x (by simp)
  rw [Ze0,Bool.true_or,Zds h fun y hy=>k y (by simp [hy]),Yb (by simp),Yb (h.ne h1).symm]
  rfl
theorem Zia (h:STO lt) {e:α} : ∀ {l:List α},ZoZ lt l→ZoZ lt (ZlL lt l e) ∧ ∀ x,x ∈ ZlL lt l e ↔ x ∈ l∨x=e
 | [],_=>by simp [ZlL,Ze0]
 | y :: l,k=>by
  have h':=Yq.1 k
  unfold ZlL
  cases h1:lt y e with
  | true=>
   have e1:Ze0 lt e (y :: l) false=y :: Ze0 lt e l false:=by
    rw [Ze0,Yb (by rw [h1];simp),Yb (h.ne h1),h1];rfl
   have ih:=Zia h (e:=e) h'.2
   rw [e1]
   refine ⟨Yq.2 ⟨fun p hp=>?_,ih.1⟩,fun x=>?_⟩
   ·rcases (ih.2 p).1 hp with hp | rfl
    ·exact h'.1 p hp
    ·exact h1
   ·have:=ih.2 x
    unfold ZlL at this
    simp only [Yo,this,or_assoc]
  | false=>
   by_cases h2:y=e
   ·subst h2
    rw [Ze0,Ye ⟨rfl,h1⟩,Ye rfl,h1,show (false || !false)=true from rfl,Zds h h'.1]
    exact ⟨k,fun x=>by simp;intro e;exact .inl e⟩
   ·have h3:lt e y=true:=by
     cases e3:lt e y with
     | true=>rfl
     | false=>exact absurd (h.tot y e h1 e3) h2
    rw [Ze0,Ye ⟨rfl,h1⟩,Yb h2,h1,show (false || !false)=true from rfl,Zds h fun x hx=>h.tr e y x h3 (h'.1 x hx)]
    refine ⟨Yq.2 ⟨fun p hp=>?_,k⟩,fun x=>by simp;constructor <;> (rintro (h | h | h) <;> simp [h])⟩
    rcases Yo.1 hp with rfl | hp
    ·exact h3
    ·exact h.tr e y p h3 (h'.1 p hp)
def Zme (lt:α→α→Bool) (l:List α):List α:=l.foldl (ZlL lt) []
theorem ZgH (h:STO lt) (l:List α):ZoZ lt (Zme lt l) ∧ ∀ x,x ∈ Zme lt l ↔ x ∈ l:=by
 have key:∀ (l acc:List α),ZoZ lt acc→ZoZ lt (l.foldl (ZlL lt) acc) ∧ ∀ x,x ∈ l.foldl (ZlL lt) acc ↔ x ∈ acc∨x ∈ l:=by
  intro l
  induction l with
  | nil=>intro acc k;exact ⟨k,fun x=>by simp⟩
  | cons y l ih=>
   intro acc k
   have h1:=Zia h (e:=y) k
   have h2:=ih (ZlL lt acc y) h1.1
   refine ⟨h2.1,fun x=>?_⟩
   rw [Yav,h2.2 x,h1.2 x,Yo,or_assoc]
 have:=key l [] List.Pairwise.nil
 exact ⟨this.1,fun x=>by rw [show Zme lt l=l.foldl (ZlL lt) [] from rfl,this.2 x];simp⟩
end
inductive Rch (E:Int→Int→Prop) (u:Int):Int→Prop
 | one {v:Int} (h:E u v):Rch E u v
 | step {v w:Int} (h:Rch E u v) (k:E v w):Rch E u w
theorem Rch.trans {E:Int→Int→Prop} {u v w:Int} (h:Rch E u v) (k:Rch E v w):Rch E u w:=by
 induction k with
 | one k=>exact .step h k
 | step _ k ih=>exact .step ih k
theorem Rch.mono {E E':Int→Int→Prop} (hE:∀ a b,E a b→E' a b) {u v:Int} (h:Rch E u v):Rch E' u v:=by
 induction h with
 | one h=>exact .one (hE _ _ h)
 | step _ k ih=>exact .step ih (hE _ _ k)
theorem Rch.congr {E E':Int→Int→Prop} (hE:∀ a b,E a b ↔ E' a b) {u v:Int} : Rch E u v ↔ Rch E' u v:=⟨Rch.mono fun a b=>(hE a b).1,Rch.mono fun a b=>(hE a b).2⟩
theorem Rch.last {E:Int→Int→Prop} {u v:Int} (h:Rch E u v):∃ a,E a v:=by
 cases h with
 | one h=>exact ⟨_,h⟩
 | step _ k=>exact ⟨_,k⟩
structure ZeS where
 src:Int
 dst:Int
 kind:Int
 label:Int
 deriving DecidableEq,Inhabited
def ZoL (a b:ZeS):Bool:=decide (a.src<b.src) || (decide (a.src=b.src) && (decide (a.kind<b.kind) || (decide (a.kind=b.kind) && (decide (a.label<b.label) || (decide (a.label=b.label) && decide (a.dst<b.dst))))))
theorem ZiO (a b:ZeS):ZoL a b=true ↔ a.src<b.src∨a.src=b.src∧(a.kind<b.kind∨a.kind=b.kind∧(a.label<b.label∨a.label=b.label∧a.dst<b.dst)):=by
 unfold ZoL
 simp only [YaC,Yw,Yu]
theorem Zh7 (a b:ZeS):ZoL a b=false ↔ ¬ (a.src<b.src∨a.src=b.src∧(a.kind<b.kind∨a.kind=b.kind∧(a.label<b.label∨a.label=b.label∧a.dst<b.dst))):=by rw [← ZiO];cases ZoL a b <;> simp
theorem ZiT:STO ZoL where
 irr a:=by rw [Zh7];omega
 tr a b c h1 h2:=by rw [ZiO] at *;omega
 tot a b h1 h2:=by
  rw [Zh7] at *
  obtain ⟨s,d,k,l⟩:=a
  obtain ⟨s2,d2,k2,l2⟩:=b
  simp only [ZeS.mk.injEq] at *
  omega
def EA (l:List ZeS) (a b:Int):Prop:=∃ x ∈ l,x.src=a∧x.dst=b
def Zbe (from_:Int) (o:List Int) (a:ZeS):List Int:=if a.src=from_ then Zft o a.dst else o
def Zk9 (l:List ZeS) (u:Int):List Int:=l.foldl (Zbe u) []
def ZcS (o:List Int) (a:ZeS):List Int:=if a.src ∈ o∧a.dst ∉ o then Zft o a.dst else o
def ZaL (l:List ZeS) (o:List Int):List Int:=l.foldl ZcS o
def ZdG (l:List ZeS):Nat→List Int→List Int
 | 0,o=>o
 | n+1,o=>ZaL l (ZdG l n o)
def ZfK (l:List ZeS) (u:Int):List Int:=ZdG l (l.length+1) (Zk9 l u)
theorem Zfq (u:Int):∀ (l:List ZeS) (o:List Int),Zdd o→Zdd (l.foldl (Zbe u) o) ∧ ∀ v,v ∈ l.foldl (Zbe u) o ↔ v ∈ o∨EA l u v
 | [],o,h=>⟨h,fun v=>⟨.inl,fun k=>by rcases k with k | ⟨x,hx,_⟩;exact k;cases hx⟩⟩
 | a :: l,o,h=>by
  have h1:Zdd (Zbe u o a) ∧ ∀ v,v ∈ Zbe u o a ↔ v ∈ o∨(a.src=u∧a.dst=v):=by
   unfold Zbe
   split
   ·rename_i e
    refine ⟨(Zca h).1,fun v=>?_⟩
    rw [(Zca h).2]
    constructor
    ·rintro (k | k)
     ·exact .inl k
     ·exact .inr ⟨e,k.symm⟩
    ·rintro (k | k)
     ·exact .inl k
     ·exact .inr k.2.symm
   ·rename_i e
    exact ⟨h,fun v=>⟨.inl,fun k=>by rcases k with k | k;exact k;exact absurd k.1 e⟩⟩
  obtain ⟨h2,h3⟩:=Zfq u l (Zbe u o a) h1.1
  refine ⟨h2,fun v=>?_⟩
  rw [Yav,h3,h1.2]
  constructor
  ·rintro ((k | k) | ⟨x,hx,k⟩)
   ·exact .inl k
   ·exact .inr ⟨a,by simp,k⟩
   ·exact .inr ⟨x,by simp [hx],k⟩
  ·rintro (k | ⟨x,hx,k⟩)
   ·exact .inl (.inl k)
   ·rcases Yo.1 hx with rfl | hx
    ·exact .inl (.inr k)
    ·exact .inr ⟨x,hx,k⟩
theorem Zku (l:List ZeS) (u:Int):Zdd (Zk9 l u) ∧ ∀ v,v ∈ Zk9 l u ↔ EA l u v:=by
 have h:=Zfq u l [] List.Pairwise.nil
 exact ⟨h.1,fun v=>by rw [show Zk9 l u=l.foldl (Zbe u) [] from rfl,h.2];simp⟩
theorem ZjX {o:List Int} (h:Zdd o) {x:Int} (hx:x ∉ o):(Zft o x).length=o.length+1:=by
 have h1:=Zca (n:=x) h
 have e:(Zft o x).Perm (x :: o):=(List.perm_ext_iff_of_nodup (h1.1.imp fun h=>by omega) (Ybn.2 ⟨hx,h.imp fun h=>by omega⟩)).2 fun y=>by rw [h1.2,Yo];exact ⟨Or.symm,Or.symm⟩
 simpa using e.length_eq
theorem Zbu {P:Int→Prop} : ∀ (l:List ZeS) (o:List Int),Zdd o→(∀ v ∈ o,P v)→(∀ a ∈ l,P a.src→P a.dst) →
  Zdd (ZaL l o)∧(∀ v ∈ ZaL l o,P v)∧(∀ v ∈ o,v ∈ ZaL l o)∧(∀ v ∈ ZaL l o,v ∈ o ∨ ∃ a ∈ l,a.dst=v)∧(ZaL l o=o∨o.length<(ZaL l o).length)∧(ZaL l o=o → ∀ a ∈ l,a.src ∈ o→a.dst ∈ o)
 | [],o,h,hp,_=>⟨h,hp,fun _ h=>h,fun _ h=>.inl h,.inl rfl,fun _ a ha=>by cases ha⟩
 | a :: l,o,h,hp,hl=>by
  have e:ZaL (a :: l) o=ZaL l (ZcS o a):=rfl
  rw [e]
  by_cases hc:a.src ∈ o∧a.dst ∉ o
  ·have e2:ZcS o a=Zft o a.dst:=Ye hc
   have hi:=Zca (n:=a.dst) h
   have hlen:=ZjX h hc.2
   rw [e2]
   obtain ⟨g1,g2,g3,g4,g5,g6⟩:=Zbu l (Zft o a.dst) hi.1 (fun v hv=>by
    rcases (hi.2 v).1 hv with hv | rfl
    ·exact hp v hv
    ·exact hl a (by simp) (hp _ hc.1)) (fun x hx=>hl x (by simp [hx]))
   have hgt:o.length<(ZaL l (Zft o a.dst)).length:=by
    rcases g5 with g5 | g5
    ·rw [g5];omega
    ·omega
   refine ⟨g1,g2,fun v hv=>g3 v ((hi.2 v).2 (.inl hv)),fun v hv=>?_,.inr hgt,fun e=>?_⟩
   ·rcases g4 v hv with hv | ⟨x,hx,k⟩
    ·rcases (hi.2 v).1 hv with hv | rfl
     ·exact .inl hv
     ·exact .inr ⟨a,by simp,rfl⟩
    ·exact .inr ⟨x,by simp [hx],k⟩
   ·rw [e] at hgt;exact absurd hgt (Nat.lt_irrefl _)
  ·have e2:ZcS o a=o:=Yb hc
   rw [e2]
   obtain ⟨g1,g2,g3,g4,g5,g6⟩:=Zbu l o h hp (fun x hx=>hl x (by simp [hx]))
   refine ⟨g1,g2,g3,fun v hv=>?_,g5,fun e x hx hs=>?_⟩
   ·rcases g4 v hv with hv | ⟨x,hx,k⟩
    ·exact .inl hv
    ·exact .inr ⟨x,by simp [hx],k⟩
   ·rcases Yo.1 hx with rfl | hx
    ·exact YaN fun h=>hc ⟨hs,h⟩
    ·exact g6 e x hx hs
theorem Zfs {P:Int→Prop} {l:List ZeS} (hl:∀ a ∈ l,P a.src→P a.dst):∀ (n:Nat) (o:List Int),Zdd o→(∀ v ∈ o,P v)→(∀ v ∈ o,∃ a ∈ l,a.dst=v) →
  Zdd (ZdG l n o)∧(∀ v ∈ ZdG l n o,P v)∧(∀ v ∈ o,v ∈ ZdG l n o)∧(∀ v ∈ ZdG l n o,∃ a ∈ l,a.dst=v)∧(ZaL l (ZdG l n o)=ZdG l n o∨n≤(ZdG l n o).length)
 | 0,o,h,hp,hd=>⟨h,hp,fun _ h=>h,hd,.inr (Yr _)⟩
 | n+1,o,h,hp,hd=>by
  obtain ⟨h1,h2,h3,h4,h5⟩:=Zfs hl n o h hp hd
  obtain ⟨g1,g2,g3,g4,g5,g6⟩:=Zbu l _ h1 h2 hl
  refine ⟨g1,g2,fun v hv=>g3 v (h3 v hv),fun v hv=>?_,?_⟩
  ·rcases g4 v hv with hv | hv
   ·exact h4 v hv
   ·exact hv
  ·show ZaL l (ZaL l (ZdG l n o))=ZaL l (ZdG l n o)∨n+1≤(ZaL l (ZdG l n o)).length
   rcases g5 with g5 | g5
   ·exact .inl (by rw [g5,g5])
   ·rcases h5 with h5 | h5
    ·exact .inl (by rw [h5,h5])
    ·exact .inr ow
theorem ZcV:∀ {o d:List Int},o.Nodup→(∀ v ∈ o,v ∈ d)→o.length≤d.length
 | [],_,_,_=>Yr _
 | x :: o,d,h,hs=>by
  rw [Ybn] at h
  have hx:=hs x (by simp)
  have ih:=ZcV (o:=o) (d:=d.erase x) h.2 fun v hv=>(List.mem_erase_of_ne fun e=>h.1 (by rw [← e];exact hv)).2 (hs v (by simp [hv]))
  rw [List.length_erase_of_mem hx] at ih
  have:=List.length_pos_of_mem hx
  rw [Yv];omega
theorem ZhD {o d:List Int} (h:Zdd o) (hs:∀ v ∈ o,v ∈ d):o.length≤d.length:=ZcV (h.imp fun h=>by omega) hs
theorem ZhS (l:List ZeS) (u:Int):Zdd (ZfK l u) ∧ ∀ v,v ∈ ZfK l u ↔ Rch (EA l) u v:=by
 obtain ⟨hn1,hn2⟩:=Zku l u
 have hl:∀ a ∈ l,Rch (EA l) u a.src→Rch (EA l) u a.dst:=fun a ha h=>.step h ⟨a,ha,rfl,rfl⟩
 obtain ⟨h1,h2,h3,h4,h5⟩:=Zfs (P:=Rch (EA l) u) hl (l.length+1) (Zk9 l u) hn1 (fun v hv=>.one ((hn2 v).1 hv)) (fun v hv=>by obtain ⟨a,ha,_,k⟩:=(hn2 v).1 hv;exact ⟨a,ha,k⟩)
 have hfix:ZaL l (ZfK l u)=ZfK l u:=by
  rcases h5 with h5 | h5
  ·exact h5
  ·have hle:=ZhD (d:=l.map ZeS.dst) h1 fun v hv=>by obtain ⟨a,ha,k⟩:=h4 v hv;exact YD.2 ⟨a,ha,k⟩
   rw [YY] at hle
   omega
 have hcl:=(Zbu (P:=fun _=>True) l (ZfK l u) h1 (fun _ _=>trivial) (fun _ _ _=>trivial)).2.2.2.2.2 hfix
 refine ⟨h1,fun v=>⟨h2 v,fun h=>?_⟩⟩
 induction h with
 | one h=>exact h3 _ ((hn2 _).2 h)
 | step _ k ih=>
  obtain ⟨a,ha,e1,e2⟩:=k
  subst e1;subst e2
  exact hcl a ha ih
def Zp4 (p:Zy):ZeS:=⟨p.key,p.val,1,0⟩
def Zkv (q:List Zy):List ZeS:=Zme ZoL (q.map Zp4)
def EQ_ (q:List Zy) (a b:Int):Prop:=(⟨a,b⟩:Zy) ∈ q
theorem ZnR {q:List Zy} {a b:Int} : EA (Zkv q) a b ↔ EQ_ q a b:=by
 unfold EA EQ_ Zkv
 constructor
 ·rintro ⟨x,hx,rfl,rfl⟩
  rw [(ZgH ZiT _).2] at hx
  obtain ⟨p,hp,rfl⟩:=YD.1 hx
  exact hp
 ·intro h
  exact ⟨Zp4 ⟨a,b⟩,by rw [(ZgH ZiT _).2];exact YD.2 ⟨_,h,rfl⟩,rfl,rfl⟩
def Zay (q:List Zy) (u:Int):List Int:=ZfK (Zkv q) u
theorem Zbp (q:List Zy) (u:Int):Zdd (Zay q u) ∧ ∀ v,v ∈ Zay q u ↔ Rch (EQ_ q) u v:=by
 obtain ⟨h1,h2⟩:=ZhS (Zkv q) u
 exact ⟨h1,fun v=>(h2 v).trans (Rch.congr fun a b=>ZnR)⟩
def InN (n:Nat) (q:List Zy):Prop:=∀ p ∈ q,(0≤p.key∧p.key<n)∧0≤p.val∧p.val<n
def Zdi (q:List Zy) (n:Nat) (u:Int):List Int:=((List.range n).map fun j:Nat=>(j:Int)).filter fun v=>decide ((⟨u,v⟩:Zy) ∈ q)
theorem Zii (n:Nat):Up n ((List.range n).map fun j:Nat=>(j:Int)):=⟨by
 rw [Yay]
 exact Yba.imp fun h=>by omega,fun i hi=>by
 obtain ⟨j,hj,rfl⟩:=YD.1 hi
 have:=Yaa.1 hj
 omega⟩
theorem Zgr {n:Nat} {v:Int} : v ∈ ((List.range n).map fun j:Nat=>(j:Int)) ↔ 0≤v∧v<n:=by
 rw [YD]
 constructor
 ·rintro ⟨j,hj,rfl⟩;have:=Yaa.1 hj;omega
 ·rintro ⟨h1,h2⟩;exact ⟨v.toNat,Yaa.2 ow,by omega⟩
theorem Zng {n:Nat} : Up n []:=⟨List.Pairwise.nil,by simp⟩
structure Zp7 (n:Nat) (q:List Zy) (x:Int) (row wait:List Int):Prop where
 up:Up n row
 rch:∀ v ∈ row,Rch (EQ_ q) x v
 sub:∀ v ∈ wait,v ∈ row
 one:∀ w,EQ_ q x w→w ∈ row
 all:∀ v ∈ row,v ∈ wait ∨ ∀ w,EQ_ q v w→w ∈ row
def Zmo (q:List Zy) (n:Nat):List (List Int):=(List.range n).map fun i:Nat=>Zay q (i:Int)
theorem ZcP (q:List Zy) (n:Nat):(Zmo q n).length=n:=by unfold Zmo;rw [YY,List.length_range]
def kv32 {κ:Type} (enc:κ→List Int) (k:κ):Value:=.agg ((enc k).map fun n=>Value.int .i32 n).toArray
def Zpz (p:Zy):List Int:=[p.key,p.val]
def roomN (n:Int):Nat:=(if n<0 then 0 else if n > 4096 then 4096 else n).toNat
theorem ZaS (n:Int):roomN n≤4096:=by unfold roomN;split; (· omega);split <;> omega
theorem Zix (n:Int):(if 4096<(if n<0 then 0 else n) then 4096 else if n<0 then 0 else n)=((roomN n:Nat):Int):=by unfold roomN;split <;> split <;> (try split) <;> omega
abbrev ZpU (es:List (Zbn Int)) (ck:Nat) (v:Value):HP:=Znf .i32 (fun _=>True) (fun n:Int=>Value.int .i64 n) es ck v
def Zeb (v:Value) (N:Nat) (ids:List Int) (x:Value×Value×Value×List (Zbn Int)×Nat):List RS:=[.pt (.val v) 170 [.pv (.is x.1),.pv (.is x.2.1),.pv (.is x.2.2.1)],.ob (.val x.1) (Zs 21 1 Zcq ids),.ob (.val x.2.1) (ZpU x.2.2.2.1 x.2.2.2.2),RS.hp (ZhM x.2.2.1 N (ZjS ids))]
def ZgJ (v:Value) (N:Nat) (ids:List Int):HP:=.ex fun x:Value×Value×Value×List (Zbn Int)×Nat=>.and (ZcC N ids x.2.2.2.1) (.star (Zeb v N ids x))
theorem Zi6 (w:World) (yy:Ys):PVs (Zcq 0) [.int .i32 0] w yy:=⟨⟨rfl,rfl,by simp [inR,IntKind.min,IntKind.max,IntKind.signed,IntKind.bits]⟩,tv⟩
def upL (i:Nat):List Int:=(List.range i).map fun j:Nat=>(j:Int)
theorem ZfV {i:Nat} {j:Int} : j ∈ upL i ↔ 0≤j∧j<i:=by
 unfold upL
 rw [YD]
 constructor
 ·rintro ⟨k,hk,rfl⟩;rw [Yaa] at hk;omega
 ·intro h;exact ⟨j.toNat,by rw [Yaa];omega,by omega⟩
theorem Zk0 {i N:Nat} (h:i≤N):Up N (upL i):=by
 refine ⟨?_,fun j hj=>by have:=ZfV.1 hj;omega⟩
 unfold upL
 rw [Yay]
 exact Yba.imp fun h=>by omega
theorem ZlO {i N:Nat} (h:i<N):Zms (upL i) N i true=upL (i+1):=by
 refine Zfw (Zkr (Zk0 ow) _ _).1 (Zk0 (N:=N) ow).1 fun j=>?_
 rw [ZfL,ZfV,ZfV]
 constructor
 ·rintro (⟨_,h⟩ | ⟨h,_⟩) <;> omega
 ·intro h'
  by_cases e:j=i
  ·exact .inr ⟨e,rfl,by omega,by omega⟩
  ·exact .inl ⟨e,by omega⟩
theorem Zl3 (N:Nat):upL N=ZjS (Z2 N):=by
 have hl:(Z2 N).length=N:=by simp [Z2]
 refine Zfw (Zk0 (YO N)).1 (ZmS _).1 fun j=>?_
 rw [ZfV,Zgp,hl]
 have:Nn (Z2 N) j.toNat=0:=ZfM N _
 simp [this]
theorem Zpn (room:Int):FnG prog 61 1 [.int .i64 room] [gH ZhQ Zh1] (PV.ptr) (fun v=>[ZgJ v (roomN room) (Z2 (roomN room))]):=by
 refine FnG.mk func61 O ntmps61 O kr fun B F0 a w F J hG G=>?_
 have hroom:=Zix room
 have hrl:=ZaS room
 refine Ya (rZ G (qC qZ) J [2,0] [1,0] fun G=>Ya ?_)
 refine Zf G (qR rr (qf (ZkR .t qi) r1 qz (qf (ZlI .t qi) r1 qz (qO rr qZ)))) J [3,2] [1,0] O O fun a w F G=>?_
 rw [hroom] at G
 refine Za (Ya ?_)
 obtain ⟨F,G⟩:=G.rename 1 41 O rfl
 obtain ⟨F,G⟩:=G.nM [3,2] [41,0]
 refine Zbb G (qR rr (qf (ZeO (R:=Zcq) (v:=0) (c:=((roomN room):Int)) (sz:=1) (bs:=4) (zs:=[.int .i32 0]) 101 underlying165 kr kr kr Zi6 .t .t (Int.natCast_nonneg _) (by have:=ZaS room;omega) (by have:=ZaS room;omega)) r2 qz (qf (Zgt (vk:=.i32) (ok:=(fun _=>True)) (kv:=(fun n:Int=>Value.int .i64 n)) 102) trivial qz (qR rr (qf (ZaT 41 (Zfg ((roomN room):Int)) func88 O kr (Args.one .t) PV.ptr_one) r1 r1 (qf (oB [(0,.tmp 10),(1,.tmp 11),(2,.tmp 13)] [.slice none 0 0,.map none,.pointer none] [(0,1),(1,1),(2,1)] (.same O kr (.same O kr (.same O kr .nil)))) r3 qz (qf (oX 103 .t) r1 qz (qO rr qZ)))))))) J [4,3,2] [103,102,101,41,0] (fun _=>rfl) (fun _=>rfl) fun τ a w F G=>?_
 try dsimp only [RS.sub,SF.sub,CF.sub,csub,Anc.sub,List.map,Zg,xL,xM,Nat.reduceAdd,xD,xE,xT,xU,xC,xN,zCF] at G
 generalize τ 15=v15,τ 13=v13 at G
 generalize τ 10=v10,τ 11=v11 at G
 obtain ⟨_,_,_,ho⟩:=G.obGet 41 rfl
 obtain ⟨bf,rfl⟩:=Zm6 ho
 clear ho
 replace G:=G.turn 41 O (r':=RS.hp (ZhM (.pointer (some ⟨bf,0,none⟩)) (rowN ((roomN room):Int)) [])) (fun _ _ _ _ h=>h)
 obtain ⟨F,G⟩:=G.nM [4,3,2] [103,102,101,41,0]
 obtain ⟨bs,rfl⟩:=G.shape 103 rfl
 obtain ⟨F,G⟩:=G.nM [4,3,2] [103,102,101,41,0]
 rw [Zcd ow] at G
 rw [Yc] at G
 rw [show ([]:List Int)=upL 0 from rfl] at G
 refine Za (Ya (Ya (rZ G (qR rr (qJ qZ)) J [17,16,4,2] [103,102,101,41,0] fun G=>Yj ?_)))
 refine Zo (σ:=Nat) [2,4,16] [0,101,102,103] (fun s=>[(17,.pv (.int .i64 (s:Int)))]) (fun s=>[(41,RS.hp (ZhM (.pointer (some ⟨bf,0,none⟩)) (roomN room) (upL s)))]) (fun s=>s≤(roomN room)) (fun s=>(roomN room) - s) (0) G ⟨rfl,rfl,rfl,rfl,tv⟩ ⟨rfl,rfl,rfl,rfl,rfl,tv⟩ (Yr _) ?_
 clear G;intro i a w F hC G
 try dsimp only at hC
 obtain ⟨F,G⟩:=G.nM [17,16,4,2] [103,102,101,41,0]
 try dsimp only at G
 have hi:i≤(roomN room):=hC
 refine Ya (rZ G (qL r2) J [18,17,16,4,2] [103,102,101,41,0] fun G=>Ya ?_)
 refine Zc G O (fun hc0=>?_) (fun hc0=>?_)
 ·have hil:i<(roomN room):=by simp at hc0;omega
  refine Yi (Za (Ya (Yj (Ya (rZ G (qR rr (qO rr qZ)) J [17,16,5,4,2] [103,102,101,41,0] fun G=>?_)))))
  refine Zf G (qR rr (qf (Zr 103 .is (by rfl)) r1 r1 (qf (oF 2 103 .adr) r1 r1 (qa 103 r1 r1 (qR rr (qf (ZcQ 41 (Zpo bf (roomN room) (upL i) (i:Int) true) func89 O kr (Args.three .t .t .cb)) r2 r1 qZ)))))) J [17,16,4,2] [103,102,101,41,0] O O fun a w F G=>Zk (Za ?_)
  refine rZ G (qp r1 (qR rr qZ)) J [17,16,4,2] [103,102,101,41,0] fun G=>?_
  rw [ZlO ow] at G
  replace G:=G.ent (i:=17) (s':=.pv (.int .i64 ((i+1:Nat):Int))) O (.int (Zh ow))
  obtain ⟨F,G⟩:=G.nM [16,4,2,17] [103,102,101,0,41]
  exact ⟨(i+1),F,(by show i+1≤_;omega),G,(by show _ - (i+1)<_ - i;omega)⟩
 have hil:i=(roomN room):=by simp at hc0;omega
 rw [hil,Zl3] at G
 refine YA (Zj (Zj (Zw (Za (Ya (rZ G (qR rr (qO rr qZ)) J [2] [103,102,101,41,0] fun G=>Yg ?_))))))
 obtain ⟨F,G⟩:=G.nM [2] [103,101,102,41,0]
 have G:=G.fresh 1 rfl
 obtain ⟨F,G⟩:=G.push 1 41 O O O kr
 obtain ⟨F,G⟩:=G.push 1 102 O O O kr
 obtain ⟨F,G⟩:=G.push 1 101 O O O kr
 obtain ⟨F,G⟩:=G.push 1 103 O O O kr
 have G:=G.turn 1 O (r':=RS.hp (ZgJ (.pointer (some ⟨bs,0,none⟩)) (roomN room) (Z2 (roomN room)))) (fun _ _ _ _ h=>⟨⟨_,_,_,_,_⟩,ZcC.new (ZaS room),h⟩)
 refine Zab (h':=fun v=>ZgJ v (roomN room) (Z2 (roomN room))) hG G O (.tmp O .nil) (.one .ptr) rfl
structure Zqg where
 kind:Int
 u:Int
 v:Int
 deriving DecidableEq,Inhabited
abbrev Zo0 (n:Nat) (u:Int):Prop:=0≤u∧u<n
theorem Ent.sure {c:Prop} {s:SF} (h:c):Ent s (.when c s):=fun _ _ _ _ k=>⟨fun _=>k,fun n=>absurd h n⟩
def rV (v:Value):List PV:=[.is v]
def ZbR (ps:List Value) (f:Nat→List Int):List (Value×List Int):=(List.range ps.length).map fun k=>(Nn ps k,f k)
def ZdC (n:Nat) (p:Value×List Int):HP:=ZhM p.1 n p.2
theorem Zl1 (ps:List Value) (f:Nat→List Int):(ZbR ps f).length=ps.length:=by unfold ZbR;simp
theorem Zjl {ps:List Value} {f g:Nat→List Int} (h:∀ k,k<ps.length→f k=g k):ZbR ps f=ZbR ps g:=by
 unfold ZbR
 exact List.map_congr_left fun k hk=>by rw [h k (Yaa.1 hk)]
theorem Za1 {α:Type} [Inhabited α] {a b:List α} {k:Nat} (h:k<a.length):Nn (a++b) k=Nn a k:=by rw [Zm (by simp;omega),Zm h,List.getElem_append_left h]
theorem Zbx {α:Type} [Inhabited α] {a:List α} {x:α} : Nn (a ++ [x]) a.length=x:=by rw [Zm (by simp)];simp
theorem Zlb (ps:List Value) (v:Value) (f:Nat→List Int):ZbR (ps ++ [v]) f=ZbR ps f ++ [(v,f ps.length)]:=by
 unfold ZbR
 rw [Yd,Yax,List.range_succ,Yap,List.map_singleton,Zbx]
 congr 1
 exact List.map_congr_left fun k hk=>by rw [Za1 (Yaa.1 hk)]
section
variable {B:Zax} {E:En} {a:Act} {w:World} {F:Fp}
end
def ZpH (q:List Zy) (es:List (GE Zy Int)):Prop:=GNd es ∧ ∀ p,gGet p es=if q.count p=0 then none else some ((q.count p:Nat):Int)
theorem ZpH.get {q:List Zy} {es:List (GE Zy Int)} (h:ZpH q es) (p:Zy):(gGet p es).getD 0=((q.count p:Nat):Int):=by
 rw [h.2 p];split
 ·rename_i e;rw [e];rfl
 ·rfl
structure Zpq where
 cv:Value
 nv:Value
 rv:Value
 ns:List Value
 rs:List Value
 es:List (GE Zy Int)
 ck:Nat
structure Zma (n:Nat) (q:List Zy) (last:List Int) (s:Zpq):Prop where
 ll:last.length≤n
 hi:n≤4096
 inn:InN n q
 len:q.length≤1000000
 nl:s.ns.length=n
 rl:s.rs.length=n
 cnt:ZpH q s.es
abbrev Zpy (es:List (GE Zy Int)) (ck:Nat):Value→HP:=ZbO (fun c:Int=>PV.int .i32 c) (fun k:Zy=>∀ x ∈ Zpz k,inR .i32 x) (kv32 Zpz) es ck
def Znc (n:Nat) (q:List Zy) (last:List Int) (s:Zpq) (v:Value):List RS:=[.pt (.val v) 215 [.pv (.is s.cv),.pv (.is s.nv),.pv (.is s.rv),.pv (.sl rInt last)],.ob (.val s.cv) (Zpy s.es s.ck),.ob (.val s.nv) (Zs 167 1 rV s.ns),.ob (.val s.rv) (Zs 167 1 rV s.rs),
 ZeZ (ZdC n) (ZbR s.ns fun k=>Zdi q n (k:Int)),ZeZ (ZdC n) (ZbR s.rs fun k=>Zay q (k:Int))]
def clH (v:Value) (n:Nat) (q:List Zy) (last:List Int):HP:=.ex fun s:Zpq=>.and (Zma n q last s) (.star (Znc n q last s v))
theorem Sat.pushFam {α:Type} {B:Zax} {E:En} {a:Act} {w:World} {F:Fp} (g:α→HP) {L:List α} {x:α} (h:Sat B E a w F) (n i:Nat) (hl:Go.Gm.look E.r n=some (ZeZ g L)) (hi:Go.Gm.look E.r i=some (RS.hp (g x))) (hne:Nat.beq n i=false) :
  ∃ F',Sat B ⟨E.s,(n,ZeZ g (L ++ [x])) :: (i,RS.hp (HP.star [])) :: E.r⟩ a w F':=by
 obtain ⟨F',h1⟩:=h.push n i hl hi hne rfl
 have hp:(RS.hp (g x) :: L.map fun x=>RS.hp (g x)).Perm ((L ++ [x]).map fun x=>RS.hp (g x)):=by
  rw [Yap];exact (List.perm_append_singleton _ _).symm
 have h2:=h1.turn n (r:=RS.hp (HP.star (RS.hp (g x) :: L.map fun x=>RS.hp (g x)))) (by rw [Zd,Ye rfl]) (r':=ZeZ g (L ++ [x])) (fun _ _ _ _ k=>Zdo hp k)
 refine ⟨F',h2.congr (fun _=>rfl) (fun k=>?_)⟩
 simp only [Zd]
 split
 ·rfl
 ·split
  ·rfl
  ·rfl
theorem Zg9 (n:Nat) (u:Int):Zdi [] n u = []:=by unfold Zdi;simp
theorem Zfd (u:Int):Zay [] u = []:=by
 have h:=(Zbp [] u).2
 rw [List.eq_nil_iff_forall_not_mem]
 intro v hv
 obtain ⟨a,ha⟩:=((h v).1 hv).last
 cases ha
theorem Zcf {ps:List Value} {v:Value} {f:Nat→List Int} {x:List Int} (h:x=f ps.length):ZbR ps f ++ [(v,x)] = ZbR (ps ++ [v]) f:=by rw [Zlb,h]
theorem Zma.new {n:Nat} {s:Zpq} (hn:n≤4096) (h1:s.ns.length=n) (h2:s.rs.length=n) (h3:s.es = []):Zma n [] [] s:=⟨Yr _,hn,fun p hp=>(by cases hp),Yr _,h1,h2,by rw [h3];exact ⟨List.nodup_nil,fun p=>rfl⟩⟩
def Zqd (q q':List Zy) (i k:Nat):List Int:=if k<i then Zay q' (k:Int) else Zay q (k:Int)
theorem Zi3:inR .i64 0:=by show IntKind.min .i64≤0∧0≤IntKind.max .i64;decide
theorem Zce (l:List Int) (hl:l.length≤1000000):FnG prog 22 1 [.sl rInt l] [.star []] (PV.one) (fun v=>[Zs 3 1 rInt l v]):=by
 refine FnG.mk func22 O ntmps22 O kr fun B F0 a w F J hG G=>?_
 obtain ⟨F,G⟩:=G.nM [0] [0]
 refine Ya (rZ G (qC qZ) J [2,0] [0] fun G=>(Ya (Ya ?_)))
 refine Zf G (qR rr (qf (ZcF Ybz .t) r1 qz qZ)) J [4,2,0] [0] O O fun a w F G=>?_
 obtain ⟨β4,hβ4,G⟩:=G.pickBool 4 rfl
 obtain ⟨F,G⟩:=G.nM [4,2,0] [0]
 refine Za (Zc G O (fun hc0=>?_) (fun hc0=>?_))
 ·have hg:l = []:=hβ4 hc0
  refine Ya (rZ G (qC qZ) J [2,0] [0] fun G=>(Yg (Ze ?_)))
  have G:=G.fresh 1 rfl
  have G:=G.turn 1 O (Zbm (T:=3) (sz:=1) (R:=rInt))
  have G:=G.turn 1 O (r':=RS.hp (Zs 3 1 rInt l (.slice none 0 0))) (fun _ _ _ _ h=>by rw [hg];exact h)
  refine Zab (h':=fun v=>Zs 3 1 rInt l v) hG G O (.tmp O .nil) (.one .one) rfl
 have hg:l = [] ++ l:=rfl
 refine Yi (Za (Ya (Zb G (qf (Zby (R:=rInt) (sz:=1) 101 Ybz kr) trivial qz (qR rr (qf (Z4 (sz:=1) (bs:=8) 101 (.mk' Ybz kr kr) (by intro x;rfl) .same (.sl .t) (by simp only [Yd,YS];omega) (by decide)) ⟨rfl,rfl,tv⟩ ⟨rfl,tv⟩ (qO rr qZ)))) J [2] [101,0] (fun _=>rfl) (fun _=>rfl) fun τ a w F G=>?_)))
 try dsimp only [RS.sub,SF.sub,CF.sub,csub,Anc.sub,List.map,Zg,xL,xM,Nat.reduceAdd,xD,xE,xT,xU,xC,xN,zCF,rInt] at G
 generalize τ 7=v7 at G
 refine Za (Yg ?_)
 obtain ⟨F,G⟩:=G.rename 101 1 O rfl
 have G:=G.turn 1 O (r':=RS.hp (Zs 3 1 rInt l v7)) (fun _ _ _ _ h=>by rw [hg];exact h)
 refine Zab (h':=fun v=>Zs 3 1 rInt l v) hG G O (.tmp O .nil) (.one .one) rfl
end Go.Proofs.YthfoojdlcjfmcaaGreatDoor
