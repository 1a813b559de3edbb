/- The walk of the reference's double. -/
import Derived.Test.YthpdlidbaojlbaaGreatDoorQ23
set_option linter.unusedVariables false
set_option linter.unusedSimpArgs false
set_option maxHeartbeats 4000000
open Go.ChangeShapes Go.WideShapes Go.ChangeAt Go.RowKit
namespace Go.Proofs.YthpdlidbaojlbaaGreatDoor
namespace fl
def bor (x y b:Nat):Nat:=if x<y+b then 1 else 0
def dif (x y b:Nat):Nat:=(x+4294967296-y-b) % 4294967296
theorem Ng (z:Nat) (hz:z<4294967296):z / 2147483648=(z.testBit 31).toNat:=by
 rw[lZ]
 by_cases h:z / 2 ^ 31 % 2=1
 ·rw[fY h];simp only[Bool.toNat_true];omega
 ·rw[eK h];simp only[Bool.toNat_false];omega
theorem GN (z:Nat) (hz:z<4294967296):z.testBit 31=decide (2147483648≤z):=by
 rw[lZ]
 congr 1
 apply propext
 omega
theorem Fy (x y b:Nat) (hx:x<4294967296) (hy:y<4294967296) (hb:b≤1):
  (((4294967295 ^^^ x) &&& y)||| ((4294967295 ^^^ (x ^^^ y)) &&& dif x y b)) / 2147483648=bor x y b:=by
 have hd:dif x y b<4294967296:=dq _ (by decide);have h1:((4294967295 ^^^ x) &&& y)<2 ^ 32:=cE kE hy;have h2:((4294967295 ^^^ (x ^^^ y)) &&& dif x y b)<2 ^ 32:=cE kE hd;rw[Ng _ (Nat.or_lt_two_pow h1 h2)];rw[oV,lh,lh,k8,k8,k8,GN x hx,GN y hy,GN _ hd,GN 4294967295 (by decide)];unfold bor
 by_cases a1:2147483648≤x<;>by_cases a2:2147483648≤y<;>by_cases a3:2147483648≤dif x y b<;>by_cases a4:x<y+b<;>simp[a1,a2,a3,a4]<;>unfold dif at a3<;>omega
theorem DT (x y b:Nat) (hx:x<4294967296) (hy:y<4294967296) (hb:b≤1):
  bits BinOp.or IntKind.u32 (bits BinOp.and IntKind.u32 (bits BinOp.xor IntKind.u32 IntKind.u32.max (x:Int)) (y:Int)) (bits BinOp.and IntKind.u32 (bits BinOp.xor IntKind.u32 IntKind.u32.max (bits BinOp.xor IntKind.u32 (x:Int) (y:Int))) (((x:Int)-(y:Int)-(b:Int)) % 4294967296)) / 2147483648=((bor x y b:Nat):Int):=by
 have hd:dif x y b<4294967296:=dq _ (by decide);have hmax:IntKind.u32.max=((4294967295:Nat):Int):=by decide
 have hsub:((x:Int)-(y:Int)-(b:Int)) % 4294967296=((dif x y b:Nat):Int):=by unfold dif;omega
 have hxy:x ^^^ y<4294967296:=ie (n:=32) hx hy;have h1:4294967295 ^^^ x<4294967296:=ie (n:=32) (by decide) hx;have h2:4294967295 ^^^ (x ^^^ y)<4294967296:=ie (n:=32) (by decide) hxy;rw[hmax,hsub,u32_xor_nat _ _ (by decide) hx,u32_xor_nat x y hx hy,u32_xor_nat _ _ (by decide) hxy,u32_and_nat _ _ h1 hy,u32_and_nat _ _ h2 hd,u32_or_nat _ _ (cE kE hy) (cE kE hd),←Fy x y b hx hy hb];rfl
theorem Qe (x y b:Nat) (w:World) (hx:x<4294967296) (hy:y<4294967296) (hb:b≤1):
  Calls Tryz.prog 186 #[.int .u32 x,.int .u32 y,.int .u32 b] w fun e w'=>e=.returned (.tuple #[.int .u32 (dif x y b),.int .u32 (bor x y b)])∧w'=w:=by
 have HB:=aj (DT x y b hx hy hb);have hsub:Hid (((x:Int)-(y:Int)-(b:Int)) % 4294967296=((dif x y b:Nat):Int)):=aj (by unfold dif;omega);go_enter Tryz.func186,Tryz.ntmps186
 go_wp2_with fail
 go_ret2
 exact⟨by show Ending.returned (.tuple #[.int .u32 _,.int .u32 _])=_;rw[HB.out,hsub.out],rfl⟩
def FB (a b:List Nat) (k c:Nat) (xs:List Nat):Prop:=k≤a.length∧xs.length=k∧kF xs∧c≤1∧dA xs+dA (b.take k)=dA (a.take k)+Bs ^ k*c
theorem OF (x y b:Nat) (hx:x<Bs) (hy:y<Bs) (hb:b≤1):dif x y b+y+b=x+Bs*bor x y b∧bor x y b≤1∧dif x y b<Bs:=by
 have h3:Bs=4294967296:=rfl;rw[h3] at hx hy ⊢;unfold dif bor
 split<;>omega
theorem FB.next {a b:List Nat} {k c:Nat} {xs:List Nat} (h:FB a b k c xs) (ha:kF a) (hb:kF b) (hk:k<a.length):
  FB a b (k+1) (bor (a.getD k 0) (b.getD k 0) c) (xs++[dif (a.getD k 0) (b.getD k 0) c]):=by
 obtain⟨h1,h2,h3,h4,h5⟩:=h;obtain⟨e1,e2,e3⟩:=OF (a.getD k 0) (b.getD k 0) c (ha.get k) (hb.get k) h4;refine⟨hk,by simp[h2],h3.snoc e3,e2,JG hk h2 h5 ?_ e1⟩
 by_cases hkb:k<b.length
 ·exact j4 hkb
 ·rw[zG (by omega),show b.getD k 0=0 by rw[az,bR (by omega)];rfl]
theorem FB.fin {a b:List Nat} {c:Nat} {xs:List Nat} (h:FB a b a.length c xs) (hb:Can b) (hl:b.length≤a.length) (hle:dA b≤dA a):dA xs=dA a-dA b:=by
 obtain⟨h1,h2,h3,h4,h5⟩:=h;rw[fA,aE hl] at h5;have h6:=Bq h3;rw[h2] at h6
 have hc:c=0:=by
  by_cases h0:c=0
  ·exact h0
  ·have:Bs ^ a.length*1≤Bs ^ a.length*c:=bG _ (by omega);omega
 rw[hc] at h5;omega
theorem Own.store {k:IntKind} {e:TypeId} {B g cap n:Nat} {w:World} {xs ys:List Nat} {d d':Nat} (h:Own k e B w (.slice (some ⟨g,0,none⟩) n cap) (xs++d::ys)) (hB:B≤g):
  Own k e B (w.setCell ⟨g,xs.length,none⟩ (.int k (d':Nat))) (.slice (some ⟨g,0,none⟩) n cap) (xs++[d']++ys)∧Below B w (w.setCell ⟨g,xs.length,none⟩ (.int k (d':Nat))):=by
 have h':w.ownsRow B e 1 (.slice (some ⟨g,0,none⟩) n cap) (xs++d::ys).length ((xs++d::ys).map fun d=>.int k (d:Nat)):=h
 have hn:n=(xs++d::ys).length:=by
  rcases h'.2 with⟨h0,_⟩|⟨g',cap',cur,h0,_⟩
  ·simp at h0
  ·simp only[pQ] at h0;exact h0.2.1
 rw[←hn] at h';obtain⟨h1,h2⟩:=h'.stored xs.length (.int k (d':Nat));refine⟨?_,(Below.refl B w).setCell hB _⟩;unfold Own;have e1:(xs++[d']++ys).length=n:=by rw[hn];simp
 rw[e1]
 have e2:((xs++d::ys).map fun d=>Value.int k (d:Nat)).set xs.length (.int k (d':Nat))=(xs++[d']++ys).map fun d=>Value.int k (d:Nat):=by simp
 rw[←e2];exact h1
theorem Own.at {k:IntKind} {e:TypeId} {B g cap n:Nat} {w:World} {xs ys:List Nat} {d:Nat} (h:Own k e B w (.slice (some ⟨g,0,none⟩) n cap) (xs++d::ys)):
  w.cell? ⟨g,xs.length,none⟩=some (.int k (d:Nat))∧w.frozen? ⟨g,xs.length,none⟩=false:=by
 have h':w.ownsRow B e 1 (.slice (some ⟨g,0,none⟩) n cap) (xs++d::ys).length ((xs++d::ys).map fun d=>.int k (d:Nat)):=h
 have hn:n=(xs++d::ys).length:=by
  rcases h'.2 with⟨h0,_⟩|⟨g',cap',cur,h0,_⟩
  ·simp at h0
  ·simp only[pQ] at h0;exact h0.2.1
 rw[←hn] at h';refine⟨?_,h'.frozenAt _⟩;rw[h'.cellAt xs.length (by rw[hn];simp)];simp
theorem IP {l:List Nat} {k:Nat} (hk:k<l.length):l.drop k=l.getD k 0::l.drop (k+1):=by rw[eT hk,az,ag hk];rfl
set_option maxRecDepth 100000 in
theorem Uk (x y:Value) (m n:Nat) (w:World) (hx:Num .u32 w x m) (hy:Num .u32 w y n) (hm:m<Bs ^ KC) (hle:n≤m) (h0:0<m):
  Calls Tryz.prog 156 #[x,y] w (jU .u32 (m-n) w):=by
 obtain⟨la,hla,hca,rfl⟩:=hx;obtain⟨lb,hlb,hcb,rfl⟩:=hy;have h1:la.length≤100000:=qb hca hm;have h2:lb.length≤la.length:=uM hcb hca hle
 have hpos:0<la.length:=by
  cases la with
  | nil=>simp[dA] at h0
  | cons d t=>simp
 have cc:=SD x la w hla hpos h1;obtain⟨b,acu,rfl,hcapb,hlb⟩:=hlb;have VK:=aj hlb;have HCA:=aj hca;have VU:=aj hcb;have PT:=aj hle;clear hla hlb hca hcb hle hm h0 hcapb;obtain⟨n,hnn⟩:∃ n,la.length=n:=⟨_,rfl⟩;obtain⟨r,hrr⟩:∃ r,lb.length=r:=⟨_,rfl⟩;have HN:=aj hnn;have HR:=aj hrr;rw[hnn] at h1 h2 hpos;rw[hrr] at h2 ⊢;clear hnn hrr;go_enter Tryz.func156,Tryz.ntmps156
 go_wp2_with fail
 refine cc.mono ?_;clear cc;rintro e w1 ⟨y,rfl,hy,hb1⟩;obtain⟨ay,YW,rfl,hg,hblk⟩:=hy.form;rw[HN.out] at hy hg hblk ⊢;obtain⟨g,rfl⟩:=hg hpos;have hBg:w.heap.size≤g:=hblk g rfl;have HY:=aj hy;have HB1:=aj hb1;clear hy hb1 hg hblk;go_wp2_with fail
 go_loopw [6,13] (fun c j wr=>∃ (c' j':Nat) (xs:List Nat),c=.int .u32 c'∧j=.int .i64 j'∧j'≤n∧c'≤1∧xs.length=j'∧Hid (FB la lb j' c' xs)∧Hid (Own .u32 255 w.heap.size wr (.slice (some ⟨g,0,none⟩) n YW) (xs++la.drop j'))∧Hid (Below w.heap.size w wr)) (fun _ j _=>n-(intOf j).toNat)
 case atStart=>exact⟨0,0,[],rfl,rfl,by omega,by omega,rfl,aj ⟨by omega,rfl,kF.nil,by omega,by simp[dA]⟩,HY,HB1⟩
 case round=>
  obtain⟨c,j,xs,rfl,rfl,hj,hc1,hxl,hR,hO,hB⟩:=hrel
  by_cases hlt:j<n
  ·have we:=hO.out;rw[IP (by rw[HN.out];exact hlt)] at we;obtain⟨hcell,hfr⟩:=we.at;obtain⟨d,hd⟩:∃ d,la.getD j 0=d:=⟨_,rfl⟩;obtain⟨d2,hd2⟩:∃ d,lb.getD j 0=d:=⟨_,rfl⟩;have hdb:d<4294967296:=by rw[←hd];exact HCA.out.1.get j
   have zJ:d2<4294967296:=by rw[←hd2];exact VU.out.1.get j
   obtain⟨Lf,Fc⟩:=we.store (d':=dif d d2 c) hBg;have hnx:=hR.out.next HCA.out.1 VU.out.1 (by rw[HN.out];exact hlt);rw[hd,hd2] at hnx;rw[hd] at hcell;rw[hxl] at hcell hfr Lf Fc;have D9:=aj Lf;have HS2:=aj (hB.out.trans Fc);have pX:=aj hnx;have cS:=Qe d d2 c wr hdb zJ hc1;clear Lf Fc hnx we hO
   by_cases hjb:j<r
   ·obtain⟨gb,WB,eb,hcb⟩:=VK.out (by rw[HR.out];omega);subst eb;have hcell0:=hcb j (by rw[HR.out];omega);rw[hd2] at hcell0;have hcell2:wr.cell? ⟨gb,WB+j,none⟩=some (.int .u32 (d2:Nat)):=by rw[←hcell0];exact hB.out.cell (rF hcell0)
    clear hcb hcell0 hd hd2;go_wp2_with fail
    refine cS.mono ?_;clear cS;rintro e w2 ⟨rfl,rfl⟩;go_wp2_with fail
    go_roundw
    case rel=>exact⟨bor d d2 c,j+1,xs++[dif d d2 c],rfl,by go_num,by omega,pX.out.2.2.2.1,by simp[hxl],pX,D9,HS2⟩
    case measure=>simp[intOf];omega
   ·have Yp:d2=0:=by rw[←hd2,az,bR (by rw[HR.out];omega)];rfl
    subst Yp;clear hd hd2;go_wp2_with fail
    refine cS.mono ?_;clear cS;rintro e w2 ⟨rfl,rfl⟩;go_wp2_with fail
    go_roundw
    case rel=>exact⟨bor d 0 c,j+1,xs++[dif d 0 c],rfl,by go_num,by omega,pX.out.2.2.2.1,by simp[hxl],pX,D9,HS2⟩
    case measure=>simp[intOf];omega
  ·obtain rfl:j=n:=by omega
   have hfin:=aj (FB.fin (c:=c) (xs:=xs) (by rw[HN.out];exact hR.out) VU.out (by rw[HR.out,HN.out];exact h2) PT.out);have we:=hO.out;rw[eY (by rw[HN.out];exact aq _),cZ] at we;have Cq:=aj we;clear hO we;go_wp2_with fail
   refine(Jz _ _ _ Cq.out.lim hR.out.2.2.1 (by omega)).mono ?_;rintro e w3 ⟨y,rfl,hy,hb3⟩;have Mu:=aj hy;have HB3:=aj hb3;clear hy hb3;go_wp2_with fail
   go_ret;exact⟨_,rfl,hfin.out ▸ Mu.out,hB.out.trans (HB3.out.mono hB.out.size)⟩
theorem By:(Tryz.prog.info? 47).map (fun i=>(i.zero,i.size,i.bytes))=some (some (.int .u64 0),1,8):=by kernel_rfl
theorem IW {l:List Nat} (h:kF l) (hg:l≠[]→Bs ^ (l.length-1)≤dA l):Can l:=by
 refine⟨h,fun d hd e=>?_⟩;have hne:l≠[]:=by rintro rfl;simp at hd
 have h1:=hg hne;have hp:0<l.length:=bZ.mpr hne;obtain⟨n,hn⟩:∃ n,l.length=n+1:=⟨l.length-1,by omega⟩;have hk:n<l.length:=by omega
 rw[iy,hn,cW] at hd;rw[hn,cW,oM hk,eY (by omega),az,hd,e] at h1;simp only[Option.getD_some,dA,Nat.mul_zero,Nat.add_zero] at h1;have h2:=rj h (bW hk);omega
theorem GP (x:Nat) (hx:x<18446744073709551616):bits BinOp.and IntKind.u64 (x:Int) 4294967295=((x % Bs:Nat):Int):=by have h:=mW x 4294967295 hx (by decide);rw[nat_mask32] at h;exact h
def zR (l:List Nat) (m a j c:Nat) (xs:List Nat):Prop:=j≤l.length∧xs.length=j∧kF xs∧c<Bs∧dA xs+Bs ^ j*c=dA (l.take j)*m+a
theorem zR.next {l:List Nat} {m a j c:Nat} {xs:List Nat} (h:zR l m a j c xs) (hl:kF l) (hm:m<Bs) (hj:j<l.length):
  zR l m a (j+1) ((c+l.getD j 0*m) / Bs) (xs++[(c+l.getD j 0*m) % Bs]):=by
 obtain⟨h1,h2,h3,h4,h5⟩:=h;have he:c+l.getD j 0*m=(c+l.getD j 0*m) % Bs+Bs*((c+l.getD j 0*m) / Bs):=(nL _ _).symm;refine⟨hj,by simp[h2],h3.snoc (dq _ gB),Ak h4 (hl.get j) hm he,?_⟩;rw[mC,h2,j4 hj,bS,Nat.pow_succ];have h6:Bs ^ j*(c+l.getD j 0*m)=Bs ^ j*((c+l.getD j 0*m) % Bs+Bs*((c+l.getD j 0*m) / Bs)):=by rw[←he]
 rw[dF,dF,←aA,←aA] at h6;omega
theorem zR.YN {l:List Nat} {m a:Nat} {xs:List Nat} (h:zR l m a l.length 0 xs) (hl:Can l) (hm:0<m):Can xs∧dA xs=dA l*m+a:=by
 obtain⟨h1,h2,h3,h4,h5⟩:=h;rw[fA,Nat.mul_zero,Nat.add_zero] at h5;refine⟨IW h3 fun hne=>?_,h5⟩;rw[h2,h5]
 have hl0:l≠[]:=by rintro rfl;simp at h2;exact hne h2
 have h6:=BV hl hl0;have h7:dA l*1≤dA l*m:=bG _ hm;omega
theorem zR.YM {l:List Nat} {m a c:Nat} {xs:List Nat} (h:zR l m a l.length c xs) (hc:c≠0):Can (xs++[c])∧dA (xs++[c])=dA l*m+a:=by obtain⟨h1,h2,h3,h4,h5⟩:=h;rw[fA] at h5;exact⟨DS h3 h4 hc,by rw[mC,h2,h5]⟩
set_option maxRecDepth 100000 in
theorem yk (x:Value) (n m more:Nat) (w:World) (hx:Num .u64 w x n) (hm:m<Bs) (hm0:0<m) (hmore:more<Bs) (hn:n<Bs ^ KC):
  Calls Tryz.prog 90 #[x,.int .u64 m,.int .u64 more] w (jU .u64 (n*m+more) w):=by
 obtain⟨i22,hi,hz,hs,hb⟩:=cF By;obtain⟨l,hl,hc,rfl⟩:=hx;have h1:l.length≤100000:=qb hc hn;obtain⟨a,cap,rfl,hcap,hl⟩:=hl;have HL:=aj hl;have HC:=aj hc;have HM:=aj hm;have AM:=aj hm0;have hmb:m<4294967296:=hm;have Ln:more<4294967296:=hmore;clear hl hc hm hn hm0 hmore;obtain⟨n,hnn⟩:∃ n,l.length=n:=⟨_,rfl⟩;have HN:=aj hnn;rw[hnn] at hcap h1 ⊢;clear hnn;go_enter Tryz.func90,Tryz.ntmps90
 go_wp2_with (at_make;refine wpList_make_own _ rfl _ _ 140 rfl w.heap.size 47 i22 _ 1 Tryz.underlying140 hi hz hs _ _ _ (n+1) rfl rfl ?_ ?_ ?_ ?_ ?_;go_num;(rw[hb];omega);(unfold maxLen;omega);exact aq _;intro w1 ho1 hg1;have Cq:=aj (show Own .u64 47 w.heap.size w1 _ [] from ho1);have HB1:=aj ((Below.refl w.heap.size w).grown hg1 (aq _) (fun k e=>by cases e));clear ho1 hg1)
 go_loopw [2,7,16] (fun c v j wr=>∃ (c' j':Nat) (xs:List Nat),c=.int .u64 c'∧j=.int .i64 j'∧j'≤n∧c'<4294967296∧Hid (zR l m more j' c' xs)∧Hid (Own .u64 47 w.heap.size wr v xs)∧Hid (Below w.heap.size w wr)) (fun _ _ j _=>n-(intOf j).toNat)
 case atStart=>exact⟨more,0,[],rfl,rfl,by omega,Ln,aj ⟨by omega,rfl,kF.nil,Ln,by simp[dA]⟩,Cq,HB1⟩
 case round=>
  obtain⟨c,j,xs,rfl,rfl,hj,hcb,hR,hO,hB⟩:=hrel
  by_cases hlt:j<n
  ·obtain⟨g,off,ea,hca⟩:=HL.out (by rw[HN.out];omega);subst ea;have hcell0:=hca j (by rw[HN.out];omega);have hcell:wr.cell? ⟨g,off+j,none⟩=some (.int .u64 (l.getD j 0:Nat)):=by rw[←hcell0];exact hB.out.cell (rF hcell0)
   clear hca hcell0;obtain⟨d,hd⟩:∃ d,l.getD j 0=d:=⟨_,rfl⟩;rw[hd] at hcell;have hdb:d<4294967296:=by rw[←hd];exact HC.out.1.get j
   have HE:=aj hd;clear hd;have hp1:0≤(d:Int)*(m:Int):=gh (by omega) (by omega)
   have hpn:d*m≤18446744065119617025:=by
    have:=gK (kg hdb) (kg hmb);have h2:(4294967296-1)*(4294967296-1)=18446744065119617025:=by decide
    rwa [h2] at this
   have hp2:(d:Int)*(m:Int)≤18446744065119617025:=by
    have h3:=Int.ofNat_le.mpr hpn
    rwa [Int.natCast_mul] at h3
   have hsz:=hB.out.size;have we:=hO.out;obtain⟨va,vc,rfl,_⟩:=we.form;have HO:=aj we;have hxl:xs.length≤10000000:=by have:=hR.out.2.1;omega
   have hcast:((c:Int)+(d:Int)*(m:Int))=((c+d*m:Nat):Int):=by simp
   have hmod:bits BinOp.and IntKind.u64 ((c:Int)+(d:Int)*(m:Int)) 4294967295=(((c+d*m) % Bs:Nat):Int):=by rw[hcast];exact GP _ (by omega)
   have hdiv:((c:Int)+(d:Int)*(m:Int)) / 4294967296=(((c+d*m) / Bs:Nat):Int):=by rw[hcast];rfl
   have Td:=aj hmod;have HD1:=aj hdiv;clear hO we hmod hdiv hcast hpn;go_wp2_with (at_builtin;refine mU rfl (.tmp 25) (.tmp 28) 140 rfl w.heap.size 47 .u64 i22 8 Tryz.underlying140 hi hz hs hb (by decide) (.slice va xs.length vc) xs wr _ ((c+d*m) % Bs) Td.out rfl HO.out rfl hxl hsz ?_;intro v2 w2 ho2 hb2;have AL:=aj ho2;have HB2:=aj (hB.out.trans hb2);clear ho2 hb2)
   go_roundw
   case rel=>have hn:=hR.out.next HC.out.1 HM.out (by rw[HN.out];exact hlt);rw[HE.out] at hn;exact⟨(c+d*m) / Bs,j+1,xs++[(c+d*m) % Bs],(by rw[HD1.out]),by go_num,by omega,hn.2.2.2.1,aj hn,AL,HB2⟩
   case measure=>simp[intOf];omega
  ·have hsz:=hB.out.size;have we:=hO.out;obtain⟨va,vc,rfl,_⟩:=we.form;have HO:=aj we;have hxl:xs.length≤10000000:=by have:=hR.out.2.1;omega
   clear hO we;obtain rfl:j=n:=by omega
   by_cases hc0:c=0
   ·subst hc0;have hfin:=aj (zR.YN (by rw[HN.out];exact hR.out) HC.out AM.out);go_wp2_with fail
    go_ret;exact⟨_,rfl,⟨xs,HO.out.lim,hfin.out.1,hfin.out.2⟩,hB.out⟩
   ·have hfin:=aj (zR.YM (by rw[HN.out];exact hR.out) hc0);have hc1:0<c:=by omega
    go_wp2_with (at_builtin;refine mU rfl (.tmp 35) (.tmp 37) 140 rfl w.heap.size 47 .u64 i22 8 Tryz.underlying140 hi hz hs hb (by decide) (.slice va xs.length vc) xs wr _ c rfl rfl HO.out rfl hxl hsz ?_;intro v2 w2 ho2 hb2;have AL:=aj ho2;have HB2:=aj (hB.out.trans hb2);clear ho2 hb2)
    go_ret;exact⟨_,rfl,⟨_,AL.out.lim,hfin.out.1,hfin.out.2⟩,HB2.out⟩
theorem Bk (x y:Value) (m n:Nat) (w:World) (hx:Num .u64 w x m) (hy:Num .u64 w y n) (hm:m<Bs ^ KC) (hn:n<Bs ^ KC):
  Calls Tryz.prog 125 #[x,y] w (lj m n w):=by
 obtain⟨l,hl,hc,rfl⟩:=hx;obtain⟨r,hr,hd,rfl⟩:=hy;have h1:l.length≤100000:=qb hc hm;have h2:r.length≤100000:=qb hd hn;obtain⟨a,cap,rfl,hcap,hl⟩:=hl;obtain⟨b,cap',rfl,Dw,hr⟩:=hr;have HR:=aj hr;have HL:=aj hl;have HC:=aj hc;have HD:=aj hd;clear hl hr hc hd hcap Dw hm hn
 by_cases hlen:l.length=r.length
 ·obtain⟨n,hnn⟩:∃ n,l.length=n:=⟨_,rfl⟩;have HN:=aj hnn;have HM:=aj (hlen.symm.trans hnn);rw[←hlen,hnn];rw[hnn] at h1;clear hnn hlen h2;have hne:((n:Int) != (n:Int))=false:=by simp
  go_enter Tryz.func125,Tryz.ntmps125
  go_wp2_with fail
  go_loopw [5] (fun x wr=>∃ (j i:Nat),x=.int .i64 ((j:Int)-1)∧Hid (dA (l.drop j)=dA (r.drop j))∧j≤n∧wr=w.drewN i) (fun x _=>(intOf x+1).toNat)
  case atStart=>exact⟨n,0,rfl,aj (by rw[eY (by rw[HN.out];exact aq _),eY (by rw[HM.out];exact aq _)]),aq _,rfl⟩
  case round=>
   obtain⟨j,i,rfl,hT,hj,rfl⟩:=hrel
   by_cases hp:0<j
   ·obtain⟨j,rfl⟩:∃ q,j=q+1:=⟨j-1,by omega⟩;obtain⟨g,off,ea,hca⟩:=HL.out (by rw[HN.out];omega);obtain⟨g',off',eb,hcb⟩:=HR.out (by rw[HM.out];omega);subst ea;subst eb;have hcell:=hca j (by rw[HN.out];omega);have hcell':=hcb j (by rw[HM.out];omega);clear hca hcb;obtain⟨d,hd⟩:∃ d,l.getD j 0=d:=⟨_,rfl⟩;obtain⟨d',hd'⟩:∃ d,r.getD j 0=d:=⟨_,rfl⟩;rw[hd] at hcell;rw[hd'] at hcell';have HE:=aj hd;have HF:=aj hd';clear hd hd';have hj1:((j+1:Nat):Int)-1=(j:Int):=by omega
    rw[hj1];go_wp2_with fail
    by_cases hlt:d<d'
    ·go_quiet (fail)
     go_wp2_with fail
     go_ret
     exact⟨-1,rfl,by
      have:=iD HC.out.1 (i:=j) (by rw[HN.out];omega) (by rw[HM.out];omega) hT.out (by rw[HE.out,HF.out];exact hlt);omega,by
      have:=iD HC.out.1 (i:=j) (by rw[HN.out];omega) (by rw[HM.out];omega) hT.out (by rw[HE.out,HF.out];exact hlt)
      omega,qE (cR w _) _⟩
    ·go_quiet (fail)
     go_wp2_with fail
     by_cases hgt:d'<d
     ·go_quiet (fail)
      go_wp2_with fail
      go_ret
      exact⟨1,rfl,by
       have:=iD HD.out.1 (i:=j) (by rw[HM.out];omega) (by rw[HN.out];omega) hT.out.symm (by rw[HE.out,HF.out];exact hgt);omega,by
       have:=iD HD.out.1 (i:=j) (by rw[HM.out];omega) (by rw[HN.out];omega) hT.out.symm (by rw[HE.out,HF.out];exact hgt)
       omega,qE (qE (cR w _) _) _⟩
     ·go_quiet (fail)
      go_wp2_with fail
      go_roundw
      case rel=>exact⟨j,_,rfl,aj (by rw[tG (by rw[HN.out];omega),tG (l:=r) (by rw[HM.out];omega),hT.out,HE.out,HF.out,Nat.le_antisymm (dS hgt) (dS hlt)]),by omega,rfl⟩
      case measure=>simp[intOf]
   ·obtain rfl:j=0:=by omega
    go_wp2_with fail
    go_ret;have he:dA l=dA r:=hT.out;exact⟨0,rfl,by omega,by omega,cR w _⟩
 ·have hne:((l.length:Int) != (r.length:Int))=true:=by simp;omega
  by_cases hlt:l.length<r.length
  ·have hb:=oS HC.out HD.out hlt;have HB:=aj hb;have hlt2:(l.length:Int)<(r.length:Int):=by omega
   clear hb hlt;go_enter Tryz.func125,Tryz.ntmps125
   go_wp2_with fail
   go_ret;exact⟨-1,rfl,by have:=HB.out;omega,by have:=HB.out;omega,Below.refl _ _⟩
  ·have hb:=oS HD.out HC.out (by omega);have HB:=aj hb;have hlt2:¬(l.length:Int)<(r.length:Int):=by omega
   clear hb hlt;go_enter Tryz.func125,Tryz.ntmps125
   go_wp2_with fail
   go_ret;exact⟨1,rfl,by have:=HB.out;omega,by have:=HB.out;omega,Below.refl _ _⟩
set_option maxRecDepth 100000 in
theorem FU (x:Value) (a:Nat) (n:Int) (w:World) (hx:Num .u64 w x a) (ha:a<Bs ^ KA) (hn:n≤1000) (hn0:-1000≤n):
  Calls Tryz.prog 124 #[x,.int .i64 n] w (jU .u64 (a*10 ^ n.toNat) w):=by
 have HX:=aj hx;have HA:=aj ha;clear hx ha;go_enter Tryz.func124,Tryz.ntmps124
 go_wp2_with fail
 go_loopw [0,1] (fun y k wr=>∃ (k':Int) (cur:Nat),k=.int .i64 k'∧k'≤n∧-1000≤k'∧Hid (zQ a n k' cur)∧Hid (Num .u64 wr y cur)∧Hid (Below w.heap.size w wr)) (fun _ k _=>(intOf k).toNat)
 case atStart=>exact⟨n,a,rfl,by omega,hn0,aj ⟨by omega,fun h=>h,rfl⟩,HX,aj (Below.refl _ _)⟩
 case round=>
  obtain⟨k,cur,rfl,hk,hk0,hT,hN,hB⟩:=hrel
  by_cases h9:9≤k
  ·go_wp2_with fail
   refine(yk _ _ 1000000000 0 _ hN.out (by decide) (by decide) (by decide) (hT.out.le hn HA.out)).mono ?_;rintro e w3 ⟨y,rfl,hy,hb3⟩;rw[Nat.add_zero] at hy;have HY:=aj hy;have HB3:=aj hb3;clear hy hb3;go_wp2_with fail
   go_roundw
   case rel=>exact⟨k-9,cur*10 ^ 9,by go_num,by omega,by omega,aj (hT.out.next 9 h9),HY,aj (hB.out.trans (HB3.out.mono hB.out.size))⟩
   case measure=>simp[intOf];omega
  ·go_wp2_with fail
   go_loopw [0,1] (fun y k wr=>∃ (k':Int) (cur:Nat),k=.int .i64 k'∧k'≤n∧-1000≤k'∧Hid (zQ a n k' cur)∧Hid (Num .u64 wr y cur)∧Hid (Below w.heap.size w wr)) (fun _ k _=>(intOf k).toNat)
   case atStart=>exact⟨k,cur,rfl,hk,hk0,hT,hN,hB⟩
   case round=>
    clear hT hN hB h9 hk hk0;obtain⟨k,cur,rfl,hk,hk0,hT,hN,hB⟩:=hrel
    by_cases h0:0<k
    ·go_wp2_with fail
     refine(yk _ _ 10 0 _ hN.out (by decide) (by decide) (by decide) (hT.out.le hn HA.out)).mono ?_;rintro e w3 ⟨y,rfl,hy,hb3⟩;rw[Nat.add_zero] at hy;have HY:=aj hy;have HB3:=aj hb3;clear hy hb3;go_wp2_with fail
     go_roundw
     case rel=>exact⟨k-1,cur*10 ^ 1,by go_num,by omega,by omega,aj (hT.out.next 1 (by omega)),HY,aj (hB.out.trans (HB3.out.mono hB.out.size))⟩
     case measure=>simp[intOf];omega
    ·go_wp2_with fail
     go_ret;have he:=hT.out.2.2;rw[show k.toNat=0 by omega,Nat.pow_zero,bB] at he;exact⟨_,rfl,he ▸ hN.out,hB.out⟩
def OfR (x c:Nat) (xs:List Nat):Prop:=kF xs∧dA xs+Bs ^ xs.length*c=x∧(c=0→Can xs)
theorem OfR.next {x c:Nat} {xs:List Nat} (h:OfR x c xs) (hc:0<c):OfR x (c / Bs) (xs++[c % Bs]):=by
 obtain⟨h1,h2,h3⟩:=h;have he:=nL c Bs;refine⟨h1.snoc (dq _ gB),?_,fun h0=>?_⟩
 ·rw[mC,aM,List.length_singleton,Nat.pow_succ];have h6:Bs ^ xs.length*c=Bs ^ xs.length*(c % Bs+Bs*(c / Bs)):=by rw[he]
  rw[dF,←aA] at h6;omega
 ·refine DS h1 (dq _ gB) (fun e=>?_);rw[h0,e] at he;simp at he;omega
set_option maxRecDepth 100000 in
theorem ofR (x:Nat) (w:World) (hx:x<18446744073709551616):
  Calls Tryz.prog 85 #[.int .u64 x] w (jU .u64 x w):=by
 obtain⟨i22,hi,hz,hs,hb⟩:=cF By;have hnil:Hid (Own .u64 47 w.heap.size w (.slice none 0 0) []):=aj (pO _ _ _ _);go_enter Tryz.func85,Tryz.ntmps85
 go_wp2_with fail
 go_loopw [0,3] (fun c v wr=>∃ (c':Nat) (xs:List Nat),c=.int .u64 c'∧c'≤x∧Hid (OfR x c' xs)∧Hid (Own .u64 47 w.heap.size wr v xs)∧Hid (Below w.heap.size w wr)) (fun c _ _=>(intOf c).toNat)
 case atStart=>exact⟨x,[],rfl,by omega,aj ⟨kF.nil,by simp[dA],fun _=>BU⟩,hnil,aj (Below.refl _ _)⟩
 case round=>
  obtain⟨c,xs,rfl,hcx,hR,hO,hB⟩:=hrel;have hsz:=hB.out.size;have we:=hO.out;obtain⟨va,vc,rfl,_⟩:=we.form;have HO:=aj we;clear hO we
  by_cases h0:0<c
  ·have hxl:xs.length≤10000000:=by
    by_cases h2:xs.length<2
    ·omega
    ·have h3:Bs ^ 2≤Bs ^ xs.length:=aS gB (by omega);have h4:=hR.out.2.1;have h5:Bs ^ xs.length*1≤Bs ^ xs.length*c:=bG _ h0;have h6:Bs ^ 2=18446744073709551616:=by decide
     omega
   have Td:=aj (GP c (by omega));have HD1:Hid ((c:Int) / 4294967296=((c / Bs:Nat):Int)):=aj rfl;go_wp2_with (at_builtin;refine mU rfl (.tmp 6) (.tmp 9) 140 rfl w.heap.size 47 .u64 i22 8 Tryz.underlying140 hi hz hs hb (by decide) (.slice va xs.length vc) xs wr _ (c % Bs) Td.out rfl HO.out rfl hxl hsz ?_;intro v2 w2 ho2 hb2;have AL:=aj ho2;have HB2:=aj (hB.out.trans hb2);clear ho2 hb2)
   go_roundw
   case rel=>exact⟨c / Bs,xs++[c % Bs],(by rw[HD1.out]),aF (gm _ _) hcx,aj (hR.out.next h0),AL,HB2⟩
   case measure=>simp[intOf];omega
  ·obtain rfl:c=0:=by omega
   go_wp2_with fail
   go_ret;exact⟨_,rfl,⟨xs,HO.out.lim,hR.out.2.2 rfl,by simpa using hR.out.2.1⟩,hB.out⟩
theorem wD (k:IntKind) (e:TypeId) (W:World) (B q c:Nat) (hB:B≤W.heap.size) (hq:q≤c) (hc:c≤1000000):
  Own k e B (W.alloc (.cells (madeCells #[.int k 0] c) e)) (.slice (some ⟨W.heap.size,0,none⟩) q c) (List.replicate q 0):=by
 unfold Own;rw[dj];refine⟨by simp,.inr ⟨W.heap.size,c,_,rfl,hB,iZ W _,hq,by unfold maxLen;omega,by rw[size_madeCells];omega,?_⟩⟩;rw[toList_madeCells_one,oZ,bB,List.take_replicate,dB hq];rfl
theorem Dh {k:IntKind} {l:List Nat}:∀ u∈(l.map fun d=>Value.int k (d:Nat)),u.oneCell'=true:=by intro u hu;obtain⟨d,_,rfl⟩:=aV.mp hu;rfl
set_option maxRecDepth 100000 in
theorem doubleR (x:Value) (n k:Nat) (w:World) (hx:Num .u64 w x n) (hn:n<Bs ^ KA) (h0:0<n) (hk:k≤10000):
  Calls Tryz.prog 123 #[x,.int .i64 k] w (jU .u64 (n*2 ^ k) w):=by
 obtain⟨i22,hi,hz,hs,hb⟩:=cF By;have hnC:n<Bs ^ KC:=aP hn (aS gB (by decide));obtain⟨l,hl,hc,rfl⟩:=hx;have h1:l.length≤100000:=qb hc hnC
 have hpos:0<l.length:=by
  cases l with
  | nil=>simp[dA] at h0
  | cons d t=>simp
 obtain⟨ad,cap,rfl,hnews⟩:=hl.news hpos;obtain⟨q,hq⟩:∃ q,k / 32=q:=⟨_,rfl⟩;obtain⟨r,hr⟩:∃ r,k % 32=r:=⟨_,rfl⟩;have RN:r<32:=by omega
 obtain⟨M,hM⟩:∃ M,2 ^ r=M:=⟨_,rfl⟩;have hMb:M<4294967296:=by rw[←hM];exact aP (nz (by decide) RN) (by decide)
 have hM0:0<M:=by rw[←hM];exact bf (by decide)
 have hval:dA (List.replicate q 0++l)*M=dA l*2 ^ k:=by rw[uE,←hM,show Bs=2 ^ 32 from rfl,←s8,show k=32*q+r by omega,aY,aK (2 ^ (32*q)) (dA l),aA]
 have hbig:dA (List.replicate q 0++l)<Bs ^ KC:=by rw[uE];have e1:Bs ^ q≤Bs ^ KB:=aS gB (by unfold KB;omega);have e2:Bs ^ q*dA l≤Bs ^ KB*dA l:=aI _ e1;have e3:Bs ^ KB*dA l<Bs ^ KB*Bs ^ KA:=oW hn (zj _);rw[←aY,jC] at e3;have e4:Bs ^ (KA+KB)≤Bs ^ KC:=aS gB kac;omega
 have hcan:=AB hc (ix hpos) q;have HV:=aj hval;have HT:Hid (∀ y W,Num .u64 W y (dA (List.replicate q 0++l))→Calls Tryz.prog 90 #[y,.int .u64 M,.int .u64 0] W (jU .u64 (dA (List.replicate q 0++l)*M+0) W)):=aj fun y W h=>yk y _ M 0 W h hMb hM0 (by decide) hbig
 rw[hval] at HT;have HC:=aj hcan;have Eb:=aj hnews;obtain⟨n,hnn⟩:∃ n,l.length=n:=⟨_,rfl⟩;have HN:=aj hnn;rw[hnn] at h1 hpos ⊢
 have e1:IntKind.i64.wrap ((k:Int) / 32)=(q:Int):=by rw[show(k:Int) / 32=((k / 32:Nat):Int) by omega,hq];exact kt _ (by omega)
 have e2:(k:Int).tmod 32=(r:Int):=by rw[ik (by omega)];omega
 have e4:IntKind.u64.wrap (2 ^ r)=(M:Int):=by rw[show(2:Int) ^ r=(M:Int) by rw[←hM];simp];exact gM _ (by omega)
 have PX:=aj e4;clear e4;have hq1:q≤1000:=by omega
 clear hval hbig hcan hnews hnn hM hc hl hn hnC h0
 have hmk:∀ W:World,Sem.run Tryz.prog (Instr.makeSlice 140 (.int .i64 q) (.int .i64 ((q:Int)+n+1))) W=.ok (.slice (some ⟨W.heap.size,0,none⟩) q (q+n+1)) (W.alloc (.cells (madeCells #[.int .u64 0] (q+n+1)) 47)):=fun W=>by have h:=p7 (P:=Tryz.prog) W 140 47 i22 _ Tryz.underlying140 hi hz .i64 .i64 q ((q:Int)+n+1) (by omega) (by omega) (by rw[hs];omega) (by rw[hb];omega) (by omega);rw[hs,show(q:Int).toNat=q by simp,show((q:Int)+n+1).toNat=q+n+1 by omega,bB] at h;exact h
 have hown:=aj (wD .u64 47 w w.heap.size q (q+n+1) (aq _) (by omega) (by omega))
 have hown2:Hid ((w.alloc (.cells (madeCells #[.int .u64 0] (q+n+1)) 47)).ownsRow w.heap.size 47 1 (.slice (some ⟨w.heap.size,0,none⟩) q (q+n+1)) q ((List.replicate q 0).map fun d=>.int .u64 (d:Nat))):=aj (by
  have h:=hown.out;unfold Own at h;rw[dj] at h
  exact h)
 have UE:Hid (∀ j u,(l.map fun d=>Value.int .u64 (d:Nat))[j]?=some u→(w.alloc (.cells (madeCells #[.int .u64 0] (q+n+1)) 47)).cell? (ad.add j)=some u):=aj (fun j u hu=>by
  have h1:=Eb.out j u hu;rw[←h1]
  exact((Below.refl w.heap.size w).alloc (aq _) _).cell (rF h1))
 go_enter Tryz.func123,Tryz.ntmps123
 go_wp2_with (at_builtin;refine mq _ rfl (.tmp 19) (.tmp 20) 140 rfl w.heap.size 47 i22 (.int .u64 0) 8 Tryz.underlying140 hi hz hs hb rfl (.slice (some ⟨w.heap.size,0,none⟩) q (q+n+1)) q _ rfl hown2.out ad n cap (l.map fun d=>Value.int .u64 (d:Nat)) rfl ?_ hpos UE.out Dh ?_ ?_ ?_ ?_;(rw[aU,HN.out]);(unfold maxLen;omega);omega;simp;intro g2 cap2 w2 ho2 hg2 hx2;have AL:=aj (show Own .u64 47 w.heap.size w2 (.slice (some ⟨g2,0,none⟩) (q+n) cap2) (List.replicate q 0++l) by(unfold Own;rw[aM,dj,HN.out,aZ];exact ho2));have HB2:=aj (((Below.refl w.heap.size w).alloc (aq _) _).grown hg2 (by simp) (fun k e=>by simp[Value.ownBlock] at e;omega));clear ho2 hg2 hx2)
 rw[PX.out];refine(HT.out _ _ ⟨_,AL.out.lim,HC.out,rfl⟩).mono ?_;rintro e w3 ⟨y,rfl,hy,hb3⟩;rw[Nat.add_zero] at hy;have HY:=aj hy;have HB3:=aj hb3;clear hy hb3;go_wp2_with fail
 go_ret;exact⟨_,rfl,HY.out,HB2.out.trans (HB3.out.mono HB2.out.size)⟩
end fl
end Go.Proofs.YthpdlidbaojlbaaGreatDoor
