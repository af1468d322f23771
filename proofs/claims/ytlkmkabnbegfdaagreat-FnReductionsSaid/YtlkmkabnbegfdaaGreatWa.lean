/- Texts merged: G1 G2 G3 G4 Mb1 Mb2 Mb3 Ma1 Ma2 Mk0 Mn1 Mn2 Mn3 Mn4 Mn5 Ms1 Mn6 Mn7 Mn8 Mn9 MnA MnF MnG MnK. -/
import Derived.Test.YtlkmkabnbegfdaaGreatB
import Derived.Test.YtlkmkabnbegfdaaGreatV4
set_option linter.unusedVariables false
set_option linter.unusedSimpArgs false
namespace Go.Gar
class Grp (G:Type) extends Mul G,One G,Inv G where
 assoc:∀ a b c:G,a*b*c=a*(b*c)
 one_mul:∀ a:G,1*a=a
 mul_one:∀ a:G,a*1=a
 inv_mul:∀ a:G,a⁻¹*a=1
 mul_inv:∀ a:G,a*a⁻¹=1
section
variable {G:Type} [Grp G]
theorem zAD (a b:G):a⁻¹*(a*b)=b:=by rw[← Grp.assoc,Grp.inv_mul,Grp.one_mul]
theorem zf (a b:G):a*(a⁻¹*b)=b:=by rw[← Grp.assoc,Grp.mul_inv,Grp.one_mul]
theorem zFP {a b c:G}(h:a*b=a*c):b=c:=by rw[← zAD a b,h,zAD]
theorem inv_one:(1:G)⁻¹=1:=by rw[← Grp.mul_one (1:G)⁻¹,Grp.inv_mul]
theorem zBA (a:G):a⁻¹⁻¹=a:=by
 apply zFP (a:=a⁻¹);rw[Grp.mul_inv,Grp.inv_mul]
theorem zS (a b:G):(a*b)⁻¹=b⁻¹*a⁻¹:=by
 apply zFP (a:=a*b);rw[Grp.mul_inv,Grp.assoc,zf,Grp.mul_inv]
theorem zHj (a b:G):a*b⁻¹*b=a:=by rw[Grp.assoc,Grp.inv_mul,Grp.mul_one]
end
structure Lat (G:Type) [Grp G] where
 S:G→Prop
 le:G→G→Prop
 D:G
 meet:G→G→G
 S_one:S 1
 S_D:S D
 S_K:∀ {x},S x→S (x⁻¹*D)
 S_K':∀ {x},S x→S (D*x⁻¹)
 refl:∀ {x},S x→le x x
 trans:∀ {x y z},S x→S y→S z→le x y→le y z→le x z
 anti:∀ {x y},S x→S y→le x y→le y x→x=y
 one_le:∀ {x},S x→le 1 x
 le_D:∀ {x},S x→le x D
 S_meet:∀ {x y},S x→S y→S (meet x y)
 meet_l:∀ {x y},S x→S y→le (meet x y) x
 meet_r:∀ {x y},S x→S y→le (meet x y) y
 le_meet:∀ {x y z},S x→S y→S z→le z x→le z y→le z (meet x y)
 p0:∀ {x y},S x→S y→le x y→S (x⁻¹*y)∧le (x⁻¹*y) (x⁻¹*D)
 p1:∀ {x y},S x→S y→le y (x⁻¹*D)→S (x*y)∧le x (x*y)
 p2:∀ {v x y},S v→S x→S y→le x (v⁻¹*D)→le y (v⁻¹*D)→(le (v*x) (v*y)↔le x y)
namespace Lat
variable {G:Type} [Grp G] (Γ:Lat G)
def K (x:G):G:=x⁻¹*Γ.D
variable {Γ}
theorem SK {x:G}(h:Γ.S x):Γ.S (Γ.K x):=Γ.S_K h
theorem P0 {x y:G}(hx:Γ.S x) (hy:Γ.S y) (h:Γ.le x y):Γ.S (x⁻¹*y)∧Γ.le (x⁻¹*y) (Γ.K x):=Γ.p0 hx hy h
theorem P1 {x y:G}(hx:Γ.S x) (hy:Γ.S y) (h:Γ.le y (Γ.K x)):Γ.S (x*y)∧Γ.le x (x*y):=Γ.p1 hx hy h
theorem P2 {v x y:G}(hv:Γ.S v) (hx:Γ.S x) (hy:Γ.S y) (h1:Γ.le x (Γ.K v)) (h2:Γ.le y (Γ.K v)):Γ.le (v*x) (v*y)↔Γ.le x y:=Γ.p2 hv hx hy h1 h2
theorem zUR (x y:G):Γ.K (x*y)=y⁻¹*Γ.K x:=by simp only[K,zS,Grp.assoc]
theorem zVt {x y:G}(h:Γ.K x=Γ.K y):x=y:=by
 have:x⁻¹=y⁻¹:=by rw[← Grp.mul_one x⁻¹,← Grp.mul_inv Γ.D,← Grp.assoc,← Grp.mul_one y⁻¹,← Grp.mul_inv Γ.D,← Grp.assoc];unfold K at h;rw[h]
 rw[← zBA x,this,zBA]
theorem zP6 {x:G}(hx:Γ.S x) (h:Γ.le x 1):x=1:=Γ.anti hx Γ.S_one h (Γ.one_le hx)
theorem zON {x:G}(hx:Γ.S x):Γ.meet x 1=1:=zP6 (Γ.S_meet hx Γ.S_one) (Γ.meet_r hx Γ.S_one)
theorem zNG {x:G}(hx:Γ.S x):Γ.meet Γ.D x=x:=
 Γ.anti (Γ.S_meet Γ.S_D hx) hx (Γ.meet_r Γ.S_D hx) (Γ.le_meet Γ.S_D hx hx (Γ.le_D hx) (Γ.refl hx))
theorem zHg {x y z:G}(hx:Γ.S x) (hy:Γ.S y) (hz:Γ.S z) (h1:Γ.le z x) (h2:Γ.le z y) (h:Γ.meet x y=1):z=1:=
 zP6 hz (h ▸ Γ.le_meet hx hy hz h1 h2)
theorem zNF {v x y:G}(hv:Γ.S v) (hx:Γ.S x) (hy:Γ.S y) (h1:Γ.le x (Γ.K v)) (h2:Γ.le y (Γ.K v)):Γ.meet (v*x) (v*y)=v*Γ.meet x y:=by
 obtain⟨a1,a2⟩:=P1 hv hx h1;obtain⟨b1,b2⟩:=P1 hv hy h2;have hm:=Γ.S_meet a1 b1;have hq:=Γ.S_meet hx hy;have hK:=SK hv;have hqK:Γ.le (Γ.meet x y) (Γ.K v):=Γ.trans hq hx hK (Γ.meet_l hx hy) h1;have hv1:Γ.le v (Γ.meet (v*x) (v*y)):=Γ.le_meet a1 b1 hv a2 b2;obtain⟨c1,c2⟩:=P0 hv hm hv1;obtain⟨d1,d2⟩:=P1 hv hq hqK;have e:v*(v⁻¹*Γ.meet (v*x) (v*y))=Γ.meet (v*x) (v*y):=zf _ _
 apply Γ.anti hm d1
 · rw[← e];rw[P2 hv c1 hq c2 hqK]
   apply Γ.le_meet hx hy c1
   · rw[← P2 hv c1 hx c2 h1,e];exact Γ.meet_l a1 b1
   · rw[← P2 hv c1 hy c2 h2,e];exact Γ.meet_r a1 b1
 · apply Γ.le_meet a1 b1 d1
   · rw[P2 hv hq hx hqK h1];exact Γ.meet_l hx hy
   · rw[P2 hv hq hy hqK h2];exact Γ.meet_r hx hy
structure Cut (t a c:G):Prop where
 S_c:Γ.S c
 c_K:Γ.le c (Γ.K t)
 c_a:Γ.le c a
 S_tc:Γ.S (t*c)
 S_r:Γ.S (c⁻¹*a)
 r_K:Γ.le (c⁻¹*a) (Γ.K c)
 K_tc:Γ.le (Γ.K (t*c)) (Γ.K c)
 one:Γ.meet (Γ.K (t*c)) (c⁻¹*a)=1
theorem cut {t a:G}(ht:Γ.S t) (ha:Γ.S a):Γ.Cut t a (Γ.meet (Γ.K t) a):=by
 have hK:=SK ht;have hc:=Γ.S_meet hK ha;have h1:=Γ.meet_l hK ha;have h2:=Γ.meet_r hK ha;obtain⟨a1,a2⟩:=P0 hc ha h2;obtain⟨b1,b2⟩:=P0 hc hK h1;have e:Γ.K (t*Γ.meet (Γ.K t) a)=(Γ.meet (Γ.K t) a)⁻¹*Γ.K t:=zUR _ _;refine⟨hc,h1,h2,(P1 ht hc h1).1,a1,a2,by rw[e];exact b2,?_⟩;rw[e];have:=zNF hc b1 a1 b2 a2;unfold K at *;rw[zf,zf] at this;apply zFP (a:=Γ.meet (t⁻¹*Γ.D) a);rw[Grp.mul_one];exact this.symm
theorem dom1 {t a b:G}(ht:Γ.S t) (ha:Γ.S a) (hb:Γ.S b) (hw:Γ.meet (Γ.K a) b=1):
  Γ.meet (Γ.K (t*Γ.meet (Γ.K t) a)) (((Γ.meet (Γ.K t) a)⁻¹*a)*Γ.meet (Γ.K ((Γ.meet (Γ.K t) a)⁻¹*a)) b)=1:=by
 have C:=cut ht ha;generalize Γ.meet (Γ.K t) a=c at *;have C':=cut C.S_r hb;have hKa':=SK C.S_r;obtain⟨s1,s2⟩:=P1 C.S_r C'.S_c C'.c_K;have cb:Γ.le (Γ.meet (Γ.K (c⁻¹*a)) b) b:=C'.c_a;have cK:Γ.le (Γ.meet (Γ.K (c⁻¹*a)) b) (Γ.K (c⁻¹*a)):=C'.c_K;have Sc':=C'.S_c;generalize Γ.meet (Γ.K (c⁻¹*a)) b=c' at *;have hKc:=SK C.S_c;have hKtc:=SK C.S_tc;have hw':=Γ.S_meet s1 hKc;have haw:Γ.le (c⁻¹*a) (Γ.meet (c⁻¹*a*c') (Γ.K c)):=Γ.le_meet s1 hKc C.S_r s2 C.r_K;obtain⟨q1,q2⟩:=P0 C.S_r hw' haw;have e:(c⁻¹*a)*((c⁻¹*a)⁻¹*Γ.meet (c⁻¹*a*c') (Γ.K c))=Γ.meet (c⁻¹*a*c') (Γ.K c):=zf _ _;generalize hww:(c⁻¹*a)⁻¹*Γ.meet (c⁻¹*a*c') (Γ.K c)=w' at *;have l1:Γ.le w' c':=by
  rw[← P2 C.S_r q1 Sc' q2 cK,e];exact Γ.meet_l s1 hKc
 have l2:Γ.le w' (Γ.K a):=by
  have e2:(c⁻¹*a)*Γ.K a=Γ.K c:=by
   unfold K;rw[Grp.assoc,zf]
  have hKa:Γ.le (Γ.K a) (Γ.K (c⁻¹*a)):=by
   have:=(P0 C.S_r hKc C.r_K).2;have e3:(c⁻¹*a)⁻¹*Γ.K c=Γ.K a:=by rw[← e2,zAD]
   rw[e3] at this;exact this
  rw[← P2 C.S_r q1 (SK ha) q2 hKa];rw[e2,e];exact Γ.meet_r s1 hKc
 have l3:w'=1:=zHg (SK ha) hb q1 l2 (Γ.trans q1 Sc' hb l1 cb) hw;have hm:=Γ.S_meet hKtc s1;apply zHg hKtc C.S_r hm (Γ.meet_l hKtc s1) ?_ C.one
 have:Γ.le (Γ.meet (Γ.K (t*c)) (c⁻¹*a*c')) (Γ.meet (c⁻¹*a*c') (Γ.K c)):=
  Γ.le_meet s1 hKc hm (Γ.meet_r hKtc s1) (Γ.trans hm hKtc hKc (Γ.meet_l hKtc s1) C.K_tc)
 rw[← e,l3,Grp.mul_one] at this;exact this
theorem zLc {d e c x y b:G}(hd:Γ.S d) (hx:Γ.S x) (hb:Γ.S b) (h1:Γ.le d b) (h2:Γ.le x b) (h3:Γ.meet d x=1):
  Γ.meet (Γ.K (d⁻¹*b)) (Γ.K (x⁻¹*b))=Γ.K b:=by
 obtain⟨a1,a2⟩:=P0 hd hb h1;obtain⟨b1,b2⟩:=P0 hx hb h2;have hKb:=SK hb;have hKe:=SK a1;have hKc:=SK b1;have hs:=Γ.S_meet hKe hKc;have key:∀ {z:G},Γ.S z→Γ.le z b→Γ.le (Γ.K b) (Γ.K (z⁻¹*b)):=by
  intro z hz hzb;obtain⟨z1,z2⟩:=P0 hz hb hzb;have:=(P0 z1 (SK hz) z2).2;have e:(z⁻¹*b)⁻¹*Γ.K z=Γ.K b:=by
   unfold K;rw[zS,zBA,Grp.assoc,zf]
  rw[e] at this;exact this
 have l1:=Γ.le_meet hKe hKc hKb (key hd h1) (key hx h2);generalize hse:Γ.meet (Γ.K (d⁻¹*b)) (Γ.K (x⁻¹*b))=s at *;have l2:Γ.le s (Γ.K (d⁻¹*b)):=hse ▸ Γ.meet_l hKe hKc;have l3:Γ.le s (Γ.K (x⁻¹*b)):=hse ▸ Γ.meet_r hKe hKc;have hj:=Γ.S_K' hs;have eK:Γ.K (Γ.D*s⁻¹)=s:=by
  unfold K;rw[zS,zBA,zHj]
 generalize hje:Γ.D*s⁻¹=j at *;have beta0:=(P1 hj hKb (by rw[eK];exact l1));have hy0:=Γ.S_K' beta0.1;have ey:Γ.D*(j*Γ.K b)⁻¹=b*j⁻¹:=by
  unfold K;rw[zS,zS,zBA,← Grp.assoc,zf]
 have hy:Γ.S (b*j⁻¹):=by
  have:=hy0;rw[ey] at this;exact this
 have eKy:Γ.K (b*j⁻¹)=j*Γ.K b:=by
  unfold K;rw[zS,zBA,Grp.assoc]
 have main:∀ {z:G},Γ.S z→Γ.le z b→Γ.le s (Γ.K (z⁻¹*b))→Γ.le (b*j⁻¹) z:=by
  intro z hz hzb hsz;obtain⟨z1,z2⟩:=P0 hz hb hzb;obtain⟨t1,t2⟩:=P1 z1 hs hsz;have hx1:=Γ.S_K' t1;have ex:Γ.D*((z⁻¹*b)*s)⁻¹=j*(z⁻¹*b)⁻¹:=by
   rw[zS,← Grp.assoc,hje]
  rw[ex] at hx1;have eKx:Γ.K (j*(z⁻¹*b)⁻¹)=(z⁻¹*b)*s:=by
   rw[← eK];unfold K;rw[zS,zBA,Grp.assoc]
  obtain⟨u1,u2⟩:=P1 hx1 z1 (by rw[eKx];exact t2);rw[zHj] at u1 u2;have hyj:Γ.le (j*(z⁻¹*b)⁻¹) (Γ.K (b*j⁻¹)):=by
   rw[eKy];exact Γ.trans hx1 hj beta0.1 u2 beta0.2
  have:=(P1 hy hx1 hyj).2;have e:b*j⁻¹*(j*(z⁻¹*b)⁻¹)=z:=by
   rw[Grp.assoc,zAD,zS,zBA,zf]
  rw[e] at this;exact this
 have hy1:b*j⁻¹=1:=zHg hd hx hy (main hd h1 l2) (main hx h2 l3) h3;have:j=b:=by
  rw[← Grp.one_mul j,← hy1,zHj]
 rw[← eK,this]
theorem dom2 {a1 a2 b:G}(h1:Γ.S a1) (h2:Γ.S a2) (hb:Γ.S b) (hw:Γ.meet (Γ.K a1) a2=1):
  Γ.meet (Γ.K ((Γ.meet (Γ.K a1) (a2*Γ.meet (Γ.K a2) b))⁻¹*(a2*Γ.meet (Γ.K a2) b))) ((Γ.meet (Γ.K a2) b)⁻¹*b)=1:=by
 have C:=cut h2 hb;generalize Γ.meet (Γ.K a2) b=c at *;obtain⟨s1,s2⟩:=P1 h2 C.S_c C.c_K;have hK1:=SK h1;have hd:=Γ.S_meet hK1 s1;have hd1:Γ.le (Γ.meet (Γ.K a1) (a2*c)) (Γ.K a1):=Γ.meet_l hK1 s1;have hd2:Γ.le (Γ.meet (Γ.K a1) (a2*c)) (a2*c):=Γ.meet_r hK1 s1;generalize Γ.meet (Γ.K a1) (a2*c)=d at *;have hm:=Γ.S_meet hd h2;have hda:Γ.meet d a2=1:=zHg hK1 h2 hm (Γ.trans hm hd hK1 (Γ.meet_l hd h2) hd1) (Γ.meet_r hd h2) hw;have key:=zLc (e:=d) (c:=d) (y:=d) hd h2 s1 hd2 s2 hda;rw[zAD] at key;obtain⟨e1,e2⟩:=P0 hd s1 hd2;have hKe:=SK e1;have hKc:=SK C.S_c;have ht:=Γ.S_meet hKe C.S_r;apply zHg (SK s1) C.S_r ht ?_ (Γ.meet_r hKe C.S_r) C.one;show Γ.le _ (Γ.K (a2*c));rw[← key];exact Γ.le_meet hKe hKc ht (Γ.meet_l hKe C.S_r) (Γ.trans ht C.S_r hKc (Γ.meet_r hKe C.S_r) C.r_K)
end Lat
end Go.Gar
namespace Go.Gar.Lat
variable {G:Type} [Grp G] (Γ:Lat G)
def AllS (l:List G):Prop:=∀ x∈l,Γ.S x
def Wd:List G→Prop
 | []=>True
 | a::l=>(∀ b,l.head?=some b→Γ.meet (Γ.K a) b=1)∧Wd l
def L:G→List G→List G
 | t,[]=>[t]
 | t,a::A=>(t*Γ.meet (Γ.K t) a)::L ((Γ.meet (Γ.K t) a)⁻¹*a) A
def nf (l:List G):List G:=l.foldr Γ.L []
variable {Γ}
theorem AllS.tail {a:G}{l:List G}(h:Γ.AllS (a::l)):Γ.AllS l:=fun x hx=>h x (List.mem_cons_of_mem _ hx)
theorem AllS.head {a:G}{l:List G}(h:Γ.AllS (a::l)):Γ.S a:=h a List.mem_cons_self
theorem AllS.cons {a:G}{l:List G}(h:Γ.S a) (hl:Γ.AllS l):Γ.AllS (a::l):=fun x hx=>by
 rcases List.mem_cons.1 hx with rfl | hx
 · exact h
 · exact hl x hx
theorem AllS.nil:Γ.AllS []:=fun x hx=>by simp at hx
theorem AllS.app {l m:List G}(h:Γ.AllS l) (hm:Γ.AllS m):Γ.AllS (l++m):=fun x hx=>(List.mem_append.1 hx).elim (h x) (hm x)
theorem L_S:∀ {A:List G}{t:G},Γ.S t→Γ.AllS A→Γ.AllS (Γ.L t A)
 | [],t,ht,_=>AllS.cons ht AllS.nil
 | a::A,t,ht,hA=>by
  have C:=cut ht hA.head;exact AllS.cons C.S_tc (L_S C.S_r hA.tail)
theorem zVJ:∀ {A:List G}{t:G},(Γ.L t A).length=A.length+1
 | [],t=>rfl
 | a::A,t=>by simp only[L,List.length_cons,zVJ]
theorem L_Wd:∀ {A:List G}{t:G},Γ.S t→Γ.AllS A→Γ.Wd A→Γ.Wd (Γ.L t A)
 | [],t,ht,_,_=>⟨fun b h=>by simp at h,trivial⟩
 | [a],t,ht,hA,_=>by
  have C:=cut ht hA.head;refine⟨fun b h=>?_,⟨fun b h=>by simp at h,trivial⟩⟩;simp only[L,List.head?_cons,Option.some.injEq] at h;subst h;exact C.one
 | a::b::B,t,ht,hA,hW=>by
  have C:=cut ht hA.head;refine⟨fun z h=>?_,L_Wd C.S_r hA.tail hW.2⟩;simp only[L,List.head?_cons,Option.some.injEq] at h;subst h;exact dom1 ht hA.head hA.tail.head (hW.1 b rfl)
theorem nf_S:∀ {l:List G},Γ.AllS l→Γ.AllS (Γ.nf l)
 | [],_=>AllS.nil
 | a::l,h=>L_S h.head (nf_S h.tail)
theorem nf_len:∀ {l:List G},(Γ.nf l).length=l.length
 | []=>rfl
 | a::l=>by
  show (Γ.L a (Γ.nf l)).length=_;rw[zVJ,nf_len,List.length_cons]
theorem nf_Wd:∀ {l:List G},Γ.AllS l→Γ.Wd (Γ.nf l)
 | [],_=>trivial
 | a::l,h=>L_Wd h.head (nf_S h.tail) (nf_Wd h.tail)
theorem zSQ:∀ {A:List G}{a:G},Γ.Wd (a::A)→Γ.L a A=a::A
 | [],a,_=>rfl
 | b::B,a,h=>by
  have h1:=h.1 b rfl;simp only[L,h1,Grp.mul_one,inv_one,Grp.one_mul];rw[zSQ h.2]
theorem nf_fix:∀ {l:List G},Γ.Wd l→Γ.nf l=l
 | [],_=>rfl
 | a::l,h=>by
  show Γ.L a (Γ.nf l)=_;rw[nf_fix h.2,zSQ h]
theorem zQ4:∀ {A:List G}{t:G},Γ.S t→Γ.AllS A→Γ.L t (A++[1])=Γ.L t A++[1]
 | [],t,ht,_=>by
  simp only[List.nil_append,L,zON (SK ht),Grp.mul_one,inv_one,List.cons_append]
 | a::A,t,ht,hA=>by
  have C:=cut ht hA.head;simp only[List.cons_append,L];rw[zQ4 C.S_r hA.tail]
theorem L_one:∀ {A:List G},Γ.AllS A→Γ.L 1 A=A++[1]
 | [],_=>rfl
 | a::A,h=>by
  have e:Γ.K 1=Γ.D:=by unfold K;rw[inv_one,Grp.one_mul]
  simp only[L,e,zNG h.head,Grp.one_mul,Grp.inv_mul];rw[L_one h.tail]
  rfl
theorem zUQ:∀ {A:List G}{u v:G},Γ.S u→Γ.S v→Γ.le v (Γ.K u)→Γ.AllS A→Γ.L u (Γ.L v A)=Γ.L (u*v) A++[1]
 | [],u,v,hu,hv,h,_=>by
  have e:Γ.meet (Γ.K u) v=v:=Γ.anti (Γ.S_meet (SK hu) hv) hv (Γ.meet_r (SK hu) hv) (Γ.le_meet (SK hu) hv hv h (Γ.refl hv));simp only[L,e,Grp.inv_mul,List.cons_append,List.nil_append]
 | a::A,u,v,hu,hv,h,hA=>by
  have ha:=hA.head;obtain⟨s1,s2⟩:=P1 hu hv h;have C:=cut hv ha;have Cf:=cut s1 ha;have hKuv:Γ.le (Γ.K (u*v)) (Γ.K v):=by
   rw[zUR];exact (P0 hv (SK hu) h).2
  have eK:v*Γ.K (u*v)=Γ.K u:=by rw[zUR,zf]
  have ed:Γ.meet (Γ.K u) (v*Γ.meet (Γ.K v) a)=v*Γ.meet (Γ.K (u*v)) (Γ.meet (Γ.K v) a):=by
   rw[← zNF hv (SK s1) C.S_c hKuv C.c_K,eK]
  have ee:Γ.meet (Γ.K (u*v)) (Γ.meet (Γ.K v) a)=Γ.meet (Γ.K (u*v)) a:=by
   have hm:=Γ.S_meet (SK s1) C.S_c
   apply Γ.anti hm Cf.S_c
   · exact Γ.le_meet (SK s1) ha hm (Γ.meet_l (SK s1) C.S_c) (Γ.trans hm C.S_c ha (Γ.meet_r (SK s1) C.S_c) C.c_a)
   · exact Γ.le_meet (SK s1) C.S_c Cf.S_c Cf.c_K (Γ.le_meet (SK hv) ha Cf.S_c (Γ.trans Cf.S_c (SK s1) (SK hv) Cf.c_K hKuv) Cf.c_a)
  have hfc:Γ.le (Γ.meet (Γ.K (u*v)) a) (Γ.meet (Γ.K v) a):=Γ.le_meet (SK hv) ha Cf.S_c (Γ.trans Cf.S_c (SK s1) (SK hv) Cf.c_K hKuv) Cf.c_a;simp only[L];rw[ed,ee];generalize Γ.meet (Γ.K (u*v)) a=f at *;generalize Γ.meet (Γ.K v) a=c at *;have e1:(v*f)⁻¹*(v*c)=f⁻¹*c:=by rw[zS,Grp.assoc,zAD]
  obtain⟨q1,q2⟩:=P0 Cf.S_c C.S_c hfc;have hr:Γ.le (c⁻¹*a) (Γ.K (f⁻¹*c)):=by
   have e2:(f⁻¹*c)*(c⁻¹*a)=f⁻¹*a:=by rw[Grp.assoc,zf]
   have hg:Γ.le (f⁻¹*c) (f⁻¹*a):=by
    rw[← P2 Cf.S_c q1 Cf.S_r q2 Cf.r_K,zf,zf];exact C.c_a
   have:=(P0 q1 Cf.S_r hg).2;rw[← e2,zAD] at this;exact this
  rw[e1,zUQ q1 C.S_r hr hA.tail,Grp.assoc,zf,Grp.assoc]
  rfl
theorem move {x y c:G}{A:List G}(hx:Γ.S x) (hy:Γ.S y) (hc:Γ.S c) (h1:Γ.le c (Γ.K x)) (h2:Γ.le c y) (hA:Γ.AllS A):Γ.L x (Γ.L y A)=Γ.L (x*c) (Γ.L (c⁻¹*y) A):=by
 obtain⟨q1,q2⟩:=P0 hc hy h2;have e1:=zUQ hc q1 q2 hA;rw[zf] at e1;have e2:=zUQ hx hc h1 (L_S q1 hA);rw[e1,zQ4 hx (L_S hy hA)] at e2;exact (List.append_cancel_right e2)
theorem zL6:∀ {X Z:List G},Γ.AllS X→Γ.AllS Z→Γ.AllS (X.foldr Γ.L Z)
 | [],Z,_,hZ=>hZ
 | x::X,Z,hX,hZ=>L_S hX.head (zL6 hX.tail hZ)
theorem zQC:∀ {A:List G}{t:G}{Z:List G},Γ.S t→Γ.AllS A→Γ.AllS Z→(Γ.L t A).foldr Γ.L Z=Γ.L t (A.foldr Γ.L Z)
 | [],t,Z,_,_,_=>rfl
 | a::A,t,Z,ht,hA,hZ=>by
  have C:=cut ht hA.head;simp only[L,List.foldr_cons];rw[zQC C.S_r hA.tail hZ];exact (move ht hA.head C.S_c C.c_K C.c_a (zL6 hA.tail hZ)).symm
theorem zNR:∀ {X Z:List G},Γ.AllS X→Γ.AllS Z→(Γ.nf X).foldr Γ.L Z=X.foldr Γ.L Z
 | [],Z,_,_=>rfl
 | x::X,Z,hX,hZ=>by
  show (Γ.L x (Γ.nf X)).foldr Γ.L Z=_;rw[zQC hX.head (nf_S hX.tail) hZ,zNR hX.tail hZ]
  rfl
theorem zAA {X Y:List G}:Γ.nf (X++Y)=X.foldr Γ.L (Γ.nf Y):=List.foldr_append ..
theorem zRh {X Y:List G}(hX:Γ.AllS X) (hY:Γ.AllS Y):Γ.nf (Γ.nf X++Y)=Γ.nf (X++Y):=by
 rw[zAA,zAA,zNR hX (nf_S hY)]
theorem nf_app_r {X Y:List G}(hY:Γ.AllS Y):Γ.nf (X++Γ.nf Y)=Γ.nf (X++Y):=by
 rw[zAA,zAA,nf_fix (nf_Wd hY)]
theorem nf_move {p q:List G}{x y c:G}(hx:Γ.S x) (hy:Γ.S y) (hc:Γ.S c) (h1:Γ.le c (Γ.K x)) (h2:Γ.le c y) (hq:Γ.AllS q):
  Γ.nf (p++x::y::q)=Γ.nf (p++(x*c)::(c⁻¹*y)::q):=by
 rw[zAA,zAA];congr 1;exact move hx hy hc h1 h2 (nf_S hq)
variable (Γ)
def step1 (a:G):List G→List G
 | []=>[a]
 | b::l=>(a*Γ.meet (Γ.K a) b)::((Γ.meet (Γ.K a) b)⁻¹*b)::l
def pass:List G→List G
 | []=>[]
 | a::l=>Γ.step1 a (pass l)
variable {Γ}
theorem zTW {a:G}{l:List G}(ha:Γ.S a) (hl:Γ.AllS l):Γ.AllS (Γ.step1 a l):=by
 cases l with
 | nil=>exact AllS.cons ha AllS.nil
 | cons b l=>
  have C:=cut ha hl.head;exact AllS.cons C.S_tc (AllS.cons C.S_r hl.tail)
theorem zKM:∀ {l:List G},Γ.AllS l→Γ.AllS (Γ.pass l)
 | [],_=>AllS.nil
 | a::l,h=>zTW h.head (zKM h.tail)
theorem pass_len:∀ {l:List G},(Γ.pass l).length=l.length
 | []=>rfl
 | a::l=>by
  have:=pass_len (l:=l);simp only[pass]
  cases h:Γ.pass l with
  | nil=>rw[h] at this;simp at this;simp[step1,← this]
  | cons b m=>rw[h] at this;simp[step1,← this]
theorem zRg {a:G}{l:List G}(ha:Γ.S a) (hl:Γ.AllS l):Γ.nf (Γ.step1 a l)=Γ.nf (a::l):=by
 cases l with
 | nil=>rfl
 | cons b l=>
  have C:=cut ha hl.head;exact (nf_move (p:=[]) ha hl.head C.S_c C.c_K C.c_a hl.tail).symm
theorem nf_cons {a:G}{l:List G}:Γ.nf (a::l)=Γ.L a (Γ.nf l):=rfl
theorem nf_pass:∀ {l:List G},Γ.AllS l→Γ.nf (Γ.pass l)=Γ.nf l
 | [],_=>rfl
 | a::l,h=>by
  rw[pass,zRg h.head (zKM h.tail),nf_cons,nf_pass h.tail,nf_cons]
theorem zHV:∀ {l:List G},Γ.AllS l→(Γ.pass l).head?=(Γ.nf l).head?
 | [],_=>rfl
 | a::l,h=>by
  have ih:=zHV h.tail;rw[pass,nf_cons]
  cases h1:Γ.pass l with
  | nil=>
   rw[h1] at ih
   cases h2:Γ.nf l with
   | nil=>rfl
   | cons b m=>rw[h2] at ih;simp at ih
  | cons b m=>
   rw[h1] at ih
   cases h2:Γ.nf l with
   | nil=>rw[h2] at ih;simp at ih
   | cons b' m'=>
    rw[h2] at ih;simp only[List.head?_cons,Option.some.injEq] at ih;subst ih
    rfl
def Fst (h:G) (r:List G):Prop:=Γ.S h∧Γ.AllS r∧∀ b,(Γ.nf r).head?=some b→Γ.meet (Γ.K h) b=1
theorem Fst.nf {h:G}{r:List G}(H:Γ.Fst h r):Γ.nf (h::r)=h::Γ.nf r:=by
 rw[nf_cons];exact zSQ ⟨H.2.2,nf_Wd H.2.1⟩
theorem Fst.pass {h:G}{r:List G}(H:Γ.Fst h r):Γ.pass (h::r)=h::Γ.pass r∧Γ.Fst h (Γ.pass r):=by
 refine⟨?_,H.1,zKM H.2.1,by rw[nf_pass H.2.1];exact H.2.2⟩;have e:=zHV H.2.1;rw[Lat.pass]
 cases h1:Γ.pass r with
 | nil=>rfl
 | cons b m=>
  rw[h1] at e;have:=H.2.2 b (by rw[← e];rfl);simp only[step1,this,Grp.mul_one,inv_one,Grp.one_mul]
theorem zRa {a:G}{l:List G}(h:Γ.AllS (a::l)):∃ x r,Γ.pass (a::l)=x::r∧r.length=l.length∧Γ.Fst x r:=by
 have hS:=zKM h;have hl:=pass_len (Γ:=Γ) (l:=a::l);have hn:=nf_pass h;have hh:=zHV h
 cases h1:Γ.pass (a::l) with
 | nil=>rw[h1] at hl;simp at hl
 | cons x r=>
  rw[h1] at hS hl hn hh;refine⟨x,r,rfl,by simpa using hl,hS.head,hS.tail,fun b hb=>?_⟩;rw[← hn,nf_cons] at hh
  cases h2:Γ.nf r with
  | nil=>rw[h2] at hb;simp at hb
  | cons b' m=>
   rw[h2] at hb hh;simp only[List.head?_cons,Option.some.injEq] at hb;subst hb;simp only[L,List.head?_cons,Option.some.injEq] at hh;apply zFP (a:=x);rw[Grp.mul_one,← hh]
variable (Γ)
def iter:Nat→List G→List G
 | 0,l=>l
 | n+1,l=>Γ.pass (iter n l)
variable {Γ}
theorem iter_succ (n:Nat) (l:List G):Γ.iter (n+1) l=Γ.pass (Γ.iter n l):=rfl
theorem iter_pass (n:Nat) (l:List G):Γ.iter n (Γ.pass l)=Γ.iter (n+1) l:=by
 induction n with
 | zero=>rfl
 | succ n ih=>rw[iter_succ,ih,iter_succ (n+1)]
theorem zNM {h:G}:∀ (n:Nat) {r:List G},Γ.Fst h r→Γ.iter n (h::r)=h::Γ.iter n r
 | 0,r,_=>rfl
 | n+1,r,H=>by
  rw[← iter_pass,H.pass.1,zNM n H.pass.2,iter_pass]
theorem iter_nf:∀ (n:Nat) {l:List G},l.length≤n→Γ.AllS l→Γ.iter n l=Γ.nf l
 | 0,l,h,_=>by
  have:l=[]:=List.length_eq_zero_iff.1 (by omega);subst this
  rfl
 | n+1,[],_,_=>by
  rw[iter_succ,iter_nf n (by simp) AllS.nil]
  rfl
 | n+1,a::l,h,hS=>by
  obtain⟨x,r,h1,h2,H⟩:=zRa hS;rw[← iter_pass,h1,zNM n H,iter_nf n (by simp only[List.length_cons] at h;omega) H.2.1,← H.nf,← h1,nf_pass hS]
theorem pass_fix {l:List G}(h:Γ.Wd l):Γ.pass l=l:=by
 induction l with
 | nil=>rfl
 | cons a l ih=>
  rw[pass,ih h.2]
  cases l with
  | nil=>rfl
  | cons b m=>simp only[step1,h.1 b rfl,Grp.mul_one,inv_one,Grp.one_mul]
theorem zM8:∀ {A:List G}{s:G},Γ.AllS A→Γ.S s→Γ.Wd A→Γ.Wd (Γ.pass (A++[s]))
 | [],s,_,_,_=>⟨fun b h=>by simp at h,trivial⟩
 | [a],s,hA,hs,_=>by
  have C:=cut hA.head hs;refine⟨fun b h=>?_,⟨fun b h=>by simp at h,trivial⟩⟩;simp only[List.head?_cons,Option.some.injEq] at h;subst h;exact C.one
 | a1::a2::A,s,hA,hs,hW=>by
  have ih:=zM8 hA.tail hs hW.2;have hS:=zKM (hA.tail.tail.app (AllS.cons hs AllS.nil));have hl:=pass_len (Γ:=Γ) (l:=A++[s]);have e:Γ.pass (a2::A++[s])=Γ.step1 a2 (Γ.pass (A++[s])):=rfl;rw[show a1::a2::A++[s]=a1::(a2::A++[s]) from rfl,pass,e];rw[e] at ih
  cases h1:Γ.pass (A++[s]) with
  | nil=>rw[h1] at hl;simp at hl
  | cons b m=>
   rw[h1] at ih hS;have C:=cut hA.tail.head hS.head;have C1:=cut hA.head C.S_tc
   refine⟨fun z h=>?_,fun z h=>?_,ih.2⟩
   · simp only[List.head?_cons,Option.some.injEq] at h;subst h;exact C1.one
   · simp only[List.head?_cons,Option.some.injEq] at h;subst h;exact dom2 hA.head hA.tail.head hS.head (hW.1 a2 rfl)
theorem pass_nf {A:List G}{s:G}(hA:Γ.AllS A) (hs:Γ.S s) (hW:Γ.Wd A):Γ.pass (A++[s])=Γ.nf (A++[s]):=by
 rw[← nf_pass (hA.app (AllS.cons hs AllS.nil)),nf_fix (zM8 hA hs hW)]
end Go.Gar.Lat
namespace Go.Gar.Lat
variable {G:Type} [Grp G] [DecidableEq G] (Γ:Lat G)
def fr:List G→Nat×List G
 | []=>(0,[])
 | a::l=>if a=Γ.D then ((fr l).1+1,(fr l).2) else (0,a::l)
def bk:List G→List G
 | []=>[]
 | a::l=>match bk l with
  | []=>if a=1 then [] else [a]
  | b::m=>a::b::m
def norm (l:List G):Nat×List G:=((Γ.fr (Γ.nf l)).1,bk (Γ.fr (Γ.nf l)).2)
structure Proper (A:List G):Prop where
 S:Γ.AllS A
 W:Γ.Wd A
 no:∀ x∈A,x≠Γ.D∧x≠1
abbrev Ds (i:Nat):List G:=List.replicate i Γ.D
abbrev ones (j:Nat):List G:=List.replicate j 1
variable {Γ}
omit [DecidableEq G] in
theorem Proper.nil:Γ.Proper []:=⟨AllS.nil,trivial,fun x h=>by simp at h⟩
omit [DecidableEq G] in
theorem Ds_S (i:Nat):Γ.AllS (Γ.Ds i):=fun x h=>by rw[List.eq_of_mem_replicate h];exact Γ.S_D
omit [DecidableEq G] in
theorem zSo (j:Nat):Γ.AllS (ones j):=fun x h=>by rw[List.eq_of_mem_replicate h];exact Γ.S_one
omit [DecidableEq G] in
theorem K_D:Γ.K Γ.D=1:=Grp.inv_mul _
omit [DecidableEq G] in
theorem zVs:Γ.K 1=Γ.D:=by unfold K;rw[inv_one,Grp.one_mul]
omit [DecidableEq G] in
theorem zOO {x:G}(hx:Γ.S x):Γ.meet 1 x=1:=zP6 (Γ.S_meet Γ.S_one hx) (Γ.meet_l Γ.S_one hx)
omit [DecidableEq G] in
theorem zRl {x:G}(hx:Γ.S x):Γ.meet x Γ.D=x:=
 Γ.anti (Γ.S_meet hx Γ.S_D) hx (Γ.meet_l hx Γ.S_D) (Γ.le_meet hx Γ.S_D hx (Γ.refl hx) (Γ.le_D hx))
omit [DecidableEq G] in
theorem Wd_D {l:List G}(h:Γ.Wd l) (hS:Γ.AllS l):Γ.Wd (Γ.D::l):=
 ⟨fun b hb=>by rw[K_D];exact zOO (hS b (List.mem_of_mem_head? hb)),h⟩
omit [DecidableEq G] in
theorem nf_Ds (i:Nat) {Y:List G}(hY:Γ.AllS Y):Γ.nf (Γ.Ds i++Y)=Γ.Ds i++Γ.nf Y:=by
 induction i with
 | zero=>rfl
 | succ i ih=>
  simp only[Ds,List.replicate_succ,List.cons_append] at ih ⊢;rw[nf_cons,ih];apply zSQ;have hS:Γ.AllS (List.replicate i Γ.D++Γ.nf Y):=(Ds_S i).app (nf_S hY);exact Wd_D (by rw[← ih];exact nf_Wd ((Ds_S i).app hY)) hS
omit [DecidableEq G] in
theorem zIl:∀ {X Z:List G},Γ.AllS X→Γ.AllS Z→X.foldr Γ.L (Z++[1])=X.foldr Γ.L Z++[1]
 | [],Z,_,_=>rfl
 | x::X,Z,hX,hZ=>by
  simp only[List.foldr_cons];rw[zIl hX.tail hZ,zQ4 hX.head (zL6 hX.tail hZ)]
omit [DecidableEq G] in
theorem zIm:∀ (j:Nat) {X Z:List G},Γ.AllS X→Γ.AllS Z→X.foldr Γ.L (Z++ones j)=X.foldr Γ.L Z++ones j
 | 0,X,Z,_,_=>by simp[ones]
 | j+1,X,Z,hX,hZ=>by
  have e:(ones (j+1):List G)=[1]++ones j:=by simp[ones,List.replicate_succ]
  rw[e,← List.append_assoc,zIm j hX (hZ.app (AllS.cons Γ.S_one AllS.nil)),zIl hX hZ,List.append_assoc]
omit [DecidableEq G] in
theorem zTG:∀ (j:Nat) {A:List G},Γ.AllS A→(ones j).foldr Γ.L A=A++ones j
 | 0,A,_=>by simp[ones]
 | j+1,A,hA=>by
  have h:(ones j).foldr Γ.L A=A++ones j:=zTG j hA;simp only[ones,List.replicate_succ,List.foldr_cons] at h ⊢;rw[h,L_one (hA.app (zSo j)),List.append_assoc,← List.replicate_succ',List.replicate_succ]
omit [DecidableEq G] in
theorem nf_ones {X Y:List G}(j:Nat) (hX:Γ.AllS X) (hY:Γ.AllS Y):Γ.nf (X++ones j++Y)=Γ.nf (X++Y)++ones j:=by
 rw[zAA,List.foldr_append,zTG j (nf_S hY),zIm j hX (nf_S hY),zAA]
omit [DecidableEq G] in
theorem zNr (hD:Γ.D≠1):∀ {l:List G},Γ.AllS l→Γ.Wd l→∃ i A j,l=Γ.Ds i++A++ones j∧Γ.Proper A
 | [],_,_=>⟨0,[],0,rfl,Proper.nil⟩
 | a::l,hS,hW=>by
  obtain⟨i,A,j,e,hP⟩:=zNr hD hS.tail hW.2
  by_cases h1:a=Γ.D
  · subst h1;exact⟨i+1,A,j,by rw[e];simp[Ds,List.replicate_succ],hP⟩
  · have hi:i=0:=by
     cases i with
     | zero=>rfl
     | succ i=>
      exfalso;have:=hW.1 Γ.D (by rw[e];simp[Ds,List.replicate_succ]);rw[zRl (SK hS.head)] at this;exact h1 (zVt (by rw[this,K_D]))
    subst hi;simp only[Ds,List.replicate_zero,List.nil_append] at e
    by_cases h2:a=1
    · subst h2;have hA:A=[]:=by
       cases A with
       | nil=>rfl
       | cons b A=>
        exfalso;have:=hW.1 b (by rw[e];simp);rw[zVs,zNG (hP.S b List.mem_cons_self)] at this;exact (hP.no b List.mem_cons_self).2 this
      subst hA;exact⟨0,[],j+1,by rw[e];simp[Ds,ones,List.replicate_succ],Proper.nil⟩
    · refine⟨0,a::A,j,by rw[e];simp[Ds],AllS.cons hS.head hP.S,⟨fun b hb=>hW.1 b ?_,hP.W⟩,fun x hx=>?_⟩
      · rw[e,List.head?_append,hb]
        rfl
      · rcases List.mem_cons.1 hx with rfl | hx
        · exact⟨h1,h2⟩
        · exact hP.no x hx
theorem zUJ (j:Nat):bk (ones j:List G)=[]:=by
 induction j with
 | zero=>rfl
 | succ j ih=>
  simp only[ones,List.replicate_succ] at ih ⊢;unfold bk;rw[ih];simp
theorem zTA:∀ {A:List G}(j:Nat),(∀ x∈A,x≠1)→bk (A++ones j)=A
 | [],j,_=>zUJ j
 | a::A,j,h=>by
  have ih:=zTA (A:=A) j (fun x hx=>h x (List.mem_cons_of_mem _ hx));show bk (a::(A++ones j))=_;unfold bk;rw[ih]
  cases A with
  | nil=>simp[h a List.mem_cons_self]
  | cons b A=>rfl
theorem zSz:∀ (i:Nat) {r:List G},(∀ b,r.head?=some b→b≠Γ.D)→Γ.fr (Γ.Ds i++r)=(i,r)
 | 0,[],_=>rfl
 | 0,b::r,h=>by simp[Ds,fr,h b rfl]
 | i+1,r,h=>by
  have:=zSz i h;simp only[Ds,List.replicate_succ,List.cons_append] at this ⊢;simp[fr,this]
theorem ends (hD:Γ.D≠1) {i j:Nat}{A:List G}(hP:Γ.Proper A):((Γ.fr (Γ.Ds i++A++ones j)).1,bk (Γ.fr (Γ.Ds i++A++ones j)).2)=(i,A):=by
 rw[List.append_assoc,zSz i (r:=A++ones j) ?_,zTA j (fun x hx=>(hP.no x hx).2)];intro b hb
 cases A with
 | nil=>
  cases j with
  | zero=>simp[ones] at hb
  | succ j=>
   simp only[List.nil_append,ones,List.replicate_succ,List.head?_cons,Option.some.injEq] at hb;subst hb;exact fun h=>hD h.symm
 | cons a A=>
  simp only[List.cons_append,List.head?_cons,Option.some.injEq] at hb;subst hb;exact (hP.no _ List.mem_cons_self).1
theorem norm_of (hD:Γ.D≠1) {l A:List G}{i j:Nat}(h:Γ.nf l=Γ.Ds i++A++ones j) (hP:Γ.Proper A):Γ.norm l=(i,A):=by
 unfold norm;rw[h];exact ends hD hP
theorem norm_spec (hD:Γ.D≠1) {l:List G}(h:Γ.AllS l):∃ j,Γ.nf l=Γ.Ds (Γ.norm l).1++(Γ.norm l).2++ones j∧Γ.Proper (Γ.norm l).2∧(Γ.norm l).1+(Γ.norm l).2.length+j=l.length:=by
 obtain⟨i,A,j,e,hP⟩:=zNr hD (nf_S h) (nf_Wd h);have e2:=norm_of hD e hP;refine⟨j,by rw[e2,e],by rw[e2];exact hP,?_⟩;have:=nf_len (Γ:=Γ) (l:=l);rw[e] at this;rw[e2,← this];simp only[List.length_append,List.length_replicate]
theorem norm_proper (hD:Γ.D≠1) {A:List G}(hP:Γ.Proper A):Γ.norm A=(0,A):=
 norm_of hD (i:=0) (j:=0) (by rw[nf_fix hP.W];simp[Ds,ones]) hP
theorem norm_app (hD:Γ.D≠1) {X Y:List G}(hX:Γ.AllS X) (hY:Γ.AllS Y):Γ.norm (X++Y)=((Γ.norm X).1+(Γ.norm ((Γ.norm X).2++Y)).1,(Γ.norm ((Γ.norm X).2++Y)).2):=by
 obtain⟨j,e,hP,_⟩:=norm_spec hD hX;obtain⟨k,e2,hP2,_⟩:=norm_spec hD (hP.S.app hY);apply norm_of hD (j:=k+j) ?_ hP2;rw[← zRh hX hY,e,List.append_assoc,List.append_assoc,nf_Ds _ (hP.S.app ((zSo j).app hY)),← List.append_assoc (Γ.norm X).2,nf_ones j hP.S hY,e2];have e3:(Γ.Ds ((Γ.norm X).1+(Γ.norm ((Γ.norm X).2++Y)).1))=Γ.Ds (Γ.norm X).1++Γ.Ds (Γ.norm ((Γ.norm X).2++Y)).1:=by simp[Ds,List.replicate_append_replicate]
 have e4:(ones (k+j):List G)=ones k++ones j:=by simp[ones,List.replicate_append_replicate]
 rw[e3,e4];simp only[List.append_assoc]
theorem norm_nf {X:List G}(hX:Γ.AllS X):Γ.norm (Γ.nf X)=Γ.norm X:=by
 unfold norm;rw[nf_fix (nf_Wd hX)]
structure Auto (T:G→G):Prop where
 mul:∀ x y,T (x*y)=T x*T y
 inv:∀ x,T x⁻¹=(T x)⁻¹
 S:∀ x,Γ.S x→Γ.S (T x)
 meet:∀ x y,Γ.S x→Γ.S y→T (Γ.meet x y)=Γ.meet (T x) (T y)
 D:T Γ.D=Γ.D
 inj:∀ x y,T x=T y→x=y
omit [DecidableEq G] in
theorem Auto.one {T:G→G}(H:Γ.Auto T):T 1=1:=by
 apply zFP (a:=T 1);rw[← H.mul,Grp.one_mul,Grp.mul_one]
omit [DecidableEq G] in
theorem Auto.L {T:G→G}(H:Γ.Auto T):∀ {A:List G}{t:G},Γ.S t→Γ.AllS A→(Γ.L t A).map T=Γ.L (T t) (A.map T)
 | [],t,_,_=>rfl
 | a::A,t,ht,hA=>by
  have C:=cut ht hA.head;have e:T (Γ.meet (Γ.K t) a)=Γ.meet (Γ.K (T t)) (T a):=by
   rw[H.meet _ _ (SK ht) hA.head];unfold K;rw[H.mul,H.inv,H.D]
  simp only[Lat.L,List.map_cons];rw[H.L C.S_r hA.tail,H.mul,H.mul,H.inv,e]
omit [DecidableEq G] in
theorem Auto.AllS {T:G→G}(H:Γ.Auto T) {l:List G}(h:Γ.AllS l):Γ.AllS (l.map T):=by
 intro x hx;obtain⟨y,hy,rfl⟩:=List.mem_map.1 hx;exact H.S y (h y hy)
omit [DecidableEq G] in
theorem Auto.nf {T:G→G}(H:Γ.Auto T):∀ {l:List G},Γ.AllS l→(Γ.nf l).map T=Γ.nf (l.map T)
 | [],_=>rfl
 | a::l,h=>by
  rw[nf_cons,H.L h.head (nf_S h.tail),H.nf h.tail]
  rfl
omit [DecidableEq G] in
theorem Auto.Wd {T:G→G}(H:Γ.Auto T):∀ {l:List G},Γ.AllS l→Γ.Wd l→Γ.Wd (l.map T)
 | [],_,_=>trivial
 | a::l,hS,h=>by
  refine⟨fun b hb=>?_,H.Wd hS.tail h.2⟩
  cases l with
  | nil=>simp at hb
  | cons c m=>
   simp only[List.map_cons,List.head?_cons,Option.some.injEq] at hb;subst hb;have:=congrArg T (h.1 c rfl);rw[H.meet _ _ (SK hS.head) hS.tail.head,H.one] at this;unfold K at this;rw[H.mul,H.inv,H.D] at this;exact this
omit [DecidableEq G] in
theorem Auto.Proper {T:G→G}(H:Γ.Auto T) {A:List G}(hP:Γ.Proper A):Γ.Proper (A.map T):=by
 refine⟨H.AllS hP.S,H.Wd hP.S hP.W,fun x hx=>?_⟩;obtain⟨y,hy,rfl⟩:=List.mem_map.1 hx;exact⟨fun h=>(hP.no y hy).1 (H.inj _ _ (by rw[h,H.D])),fun h=>(hP.no y hy).2 (H.inj _ _ (by rw[h,H.one]))⟩
theorem Auto.norm {T:G→G}(H:Γ.Auto T) (hD:Γ.D≠1) {l:List G}(h:Γ.AllS l):Γ.norm (l.map T)=((Γ.norm l).1,(Γ.norm l).2.map T):=by
 obtain⟨j,e,hP,_⟩:=norm_spec hD h;apply norm_of hD (j:=j) ?_ (H.Proper hP);rw[← H.nf h,e];simp[H.D,H.one]
end Go.Gar.Lat
namespace Go.Gar
structure Pm (n:Nat) where
 f:Nat→Nat
 g:Nat→Nat
 gf:∀ x,g (f x)=x
 fg:∀ x,f (g x)=x
 out:∀ x,n≤x→f x=x
namespace Pm
variable {n:Nat}
theorem ext {a b:Pm n}(h:∀ x,a.f x=b.f x):a=b:=by
 have hf:a.f=b.f:=funext h;have hg:a.g=b.g:=funext fun x=>by
  have:=b.gf (a.g x);rw[← hf,a.fg] at this;exact this.symm
 cases a
 cases b
 simp only at hf hg;subst hf;subst hg
 rfl
theorem inj (a:Pm n) {x y:Nat}(h:a.f x=a.f y):x=y:=by rw[← a.gf x,h,a.gf]
theorem inj_g (a:Pm n) {x y:Nat}(h:a.g x=a.g y):x=y:=by rw[← a.fg x,h,a.fg]
theorem out_g (a:Pm n) (x:Nat) (h:n≤x):a.g x=x:=by
 have:=a.gf x;rw[a.out x h] at this;exact this
theorem lt (a:Pm n) {x:Nat}(h:x<n):a.f x<n:=by
 apply Nat.lt_of_not_le;intro h1;have:=a.inj (a.out _ h1);omega
theorem lt_g (a:Pm n) {x:Nat}(h:x<n):a.g x<n:=by
 apply Nat.lt_of_not_le;intro h1;have:=a.inj_g (a.out_g _ h1);omega
instance:Grp (Pm n) where
 mul a b:=⟨fun x=>b.f (a.f x),fun x=>a.g (b.g x),fun x=>by simp only[b.gf,a.gf],fun x=>by simp only[a.fg,b.fg],fun x h=>by simp only[a.out x h,b.out x h]⟩
 one:=⟨fun x=>x,fun x=>x,fun _=>rfl,fun _=>rfl,fun _ _=>rfl⟩
 inv a:=⟨a.g,a.f,a.fg,a.gf,a.out_g⟩
 assoc _ _ _:=rfl
 one_mul _:=rfl
 mul_one _:=rfl
 inv_mul a:=ext fun x=>a.fg x
 mul_inv a:=ext fun x=>a.gf x
@[simp] theorem mul_f (a b:Pm n) (x:Nat):(a*b).f x=b.f (a.f x):=rfl
@[simp] theorem mul_g (a b:Pm n) (x:Nat):(a*b).g x=a.g (b.g x):=rfl
@[simp] theorem one_f (x:Nat):(1:Pm n).f x=x:=rfl
@[simp] theorem one_g (x:Nat):(1:Pm n).g x=x:=rfl
@[simp] theorem inv_f (a:Pm n) (x:Nat):(a⁻¹).f x=a.g x:=rfl
@[simp] theorem inv_g (a:Pm n) (x:Nat):(a⁻¹).g x=a.f x:=rfl
def hf (n x:Nat):Nat:=if x<n then n-1-x else x
theorem hf_hf (n x:Nat):hf n (hf n x)=x:=by
 unfold hf
 split
 · split<;>omega
 · rfl
def half (n:Nat):Pm n:=⟨hf n,hf n,hf_hf n,hf_hf n,fun x h=>by unfold hf;split<;>omega⟩
@[simp] theorem half_f (x:Nat):(half n).f x=hf n x:=rfl
theorem half_half:half n*half n=1:=ext fun x=>hf_hf n x
theorem half_inv:(half n)⁻¹=half n:=ext fun x=>rfl
def sf (p x:Nat):Nat:=if x=p then p+1 else if x=p+1 then p else x
theorem sf_sf (p x:Nat):sf p (sf p x)=x:=by
 unfold sf
 split
 · simp;omega
 · split
   · simp;omega
   · rfl
def swap (n p:Nat) (h:p+1<n):Pm n:=⟨sf p,sf p,sf_sf p,sf_sf p,fun x hx=>by unfold sf;split<;>(try split)<;>omega⟩
def le (a b:Pm n):Prop:=∀ i j,i<j→a.f j<a.f i→b.f j<b.f i
theorem below {a:Pm n}{i j:Nat}(h:i<j) (h1:a.f j<a.f i):j<n:=by
 apply Nat.lt_of_not_le;intro h2;rw[a.out j h2] at h1
 rcases Nat.lt_or_ge i n with h3 | h3
 · have:=a.lt h3;omega
 · rw[a.out i h3] at h1;omega
theorem hf_anti {i j:Nat}(h:i<j) (hj:j<n):hf n j<hf n i:=by
 unfold hf;rw[if_pos hj,if_pos (by omega)];omega
theorem hf_rev {i j:Nat}(h:hf n i<hf n j):j<i∨(n≤j):=by
 unfold hf at h;split at h<;>split at h<;>omega
theorem zTt {φ ψ:Nat→Nat}(h1:∀ x,φ (ψ x)=x) (hφ:∀ x y,x<y→φ x<φ y) (hψ:∀ x y,x<y→ψ x<ψ y) (x:Nat):φ x=x:=by
 have up:∀ {f:Nat→Nat},(∀ x y,x<y→f x<f y)→∀ x,x≤f x:=by
  intro f hf x
  induction x with
  | zero=>omega
  | succ x ih=>have:=hf x (x+1) (by omega);omega
 have a1:=up hφ x;have a2:=up hψ x
 rcases Nat.lt_or_ge x (ψ x) with h | h
 · have:=hφ _ _ h;rw[h1] at this;omega
 · have:ψ x=x:=by omega
   have h2:=h1 x;rw[this] at h2;exact h2
theorem zPt {a b:Pm n}(h1:le a b) (h2:le b a) (x y:Nat) (hxy:x<y):b.f (a.g x)<b.f (a.g y):=by
 rcases Nat.lt_trichotomy (a.g x) (a.g y) with h | h | h
 · apply Nat.lt_of_not_le;intro h3;have h4:b.f (a.g y)<b.f (a.g x):=by
    rcases Nat.lt_or_ge (b.f (a.g y)) (b.f (a.g x)) with h5 | h5
    · exact h5
    · have:=b.inj (show b.f (a.g x)=b.f (a.g y) by omega);omega
   have:=h2 _ _ h h4;rw[a.fg,a.fg] at this;omega
 · have:=a.inj_g h;omega
 · exact h1 _ _ h (by rw[a.fg,a.fg];exact hxy)
theorem le_anti {a b:Pm n}(h1:le a b) (h2:le b a):a=b:=by
 have key:=zTt (φ:=fun x=>b.f (a.g x)) (ψ:=fun x=>a.f (b.g x)) (fun x=>by simp only[a.gf,b.fg]) (zPt h1 h2) (zPt h2 h1);apply ext;intro x;have:=key (a.f x);simp only[a.gf] at this;exact this.symm
theorem zTz (a:Pm n):le a (half n):=fun i j h h1=>hf_anti h (below h h1)
theorem zTv {a:Pm n}{i j:Nat}(h:i≠j):a.f i<a.f j∨a.f j<a.f i:=by
 have:a.f i≠a.f j:=fun e=>h (a.inj e);omega
theorem p0 {x y:Pm n}(h:le x y):le (x⁻¹*y) (x⁻¹*half n):=by
 intro i j hij h1;simp only[mul_f,inv_f,half_f] at h1 ⊢
 rcases Nat.lt_trichotomy (x.g i) (x.g j) with h2 | h2 | h2
 · exact hf_anti h2 (below h2 h1)
 · have:=x.inj_g h2;omega
 · have:=h _ _ h2 (by rw[x.fg,x.fg];exact hij);omega
theorem p1 {x y:Pm n}(h:le y (x⁻¹*half n)):le x (x*y):=by
 intro i j hij h1;simp only[mul_f]
 rcases zTv (a:=y) (i:=x.f j) (j:=x.f i) (fun e=>by omega) with h2 | h2
 · exact h2
 · have:=h _ _ h1 h2;simp only[mul_f,inv_f,half_f,x.gf] at this;have h3:=below hij h1;have:=hf_anti hij h3;omega
theorem p2 {v x y:Pm n}(h1:le x (v⁻¹*half n)) (h2:le y (v⁻¹*half n)):le (v*x) (v*y)↔le x y:=by
 constructor
 · intro h i j hij hx;have h3:=h1 i j hij hx;simp only[mul_f,inv_f,half_f] at h3;have hj:=below hij hx;have h4:v.g i<v.g j:=by
    rcases hf_rev h3 with h5 | h5
    · exact h5
    · have:=v.lt_g (show i<n by omega);omega
   have:=h (v.g i) (v.g j) h4 (by simp only[mul_f,v.fg];exact hx);simpa only[mul_f,v.fg] using this
 · intro h i j hij hx;simp only[mul_f] at hx ⊢
   rcases zTv (a:=v) (i:=i) (j:=j) (by omega) with h3 | h3
   · exact h _ _ h3 hx
   · exact p1 h2 i j hij h3
structure Greedy (a b c:Pm n):Prop where
 la:le c a
 lb:le c b
 stop:∀ p,p+1<n→c.g p<c.g (p+1)→¬ (a.f (c.g (p+1))<a.f (c.g p)∧b.f (c.g (p+1))<b.f (c.g p))
theorem zPA {P:Nat→Prop}:∀ (d lo:Nat),P lo→¬ P (lo+d)→∃ r,lo≤r∧r<lo+d∧P r∧¬ P (r+1)
 | 0,lo,h1,h2=>(h2 h1).elim
 | d+1,lo,h1,h2=>by
  by_cases h:P (lo+1)
  · obtain⟨r,r1,r2,r3,r4⟩:=zPA d (lo+1) h (by rwa [show lo+1+d=lo+(d+1) by omega]);exact⟨r,by omega,by omega,r3,r4⟩
  · exact⟨lo,Nat.le_refl _,by omega,h1,h⟩
theorem Greedy.max {a b c z:Pm n}(h:Greedy a b c) (hza:le z a) (hzb:le z b):le z c:=by
 suffices ∀ (d x y:Nat),c.f y-c.f x=d→x<y→z.f y<z.f x→c.f y<c.f x by
  intro i j hij hz;exact this _ i j rfl hij hz
 intro d
 induction d using Nat.strongRecOn with
 | ind d ih=>
  intro x y hd hxy hz
  rcases zTv (a:=c) (i:=y) (j:=x) (by omega) with h0 | h0
  · exact h0
  · exfalso;have hyn:=below hxy hz;have hcy:=c.lt hyn;have ax:=hza _ _ hxy hz;have bx:=hzb _ _ hxy hz;have mid:∀ r,c.f x<r→r<c.f y→¬ (x<c.g r∧c.g r<y):=by
     intro r hr1 hr2 ⟨hr3,hr4⟩
     rcases Nat.lt_or_ge (z.f (c.g r)) (z.f x) with h1 | h1
     · have:=ih (r-c.f x) (by omega) x (c.g r) (by rw[c.fg]) hr3 h1;rw[c.fg] at this;omega
     · have:=ih (c.f y-r) (by omega) (c.g r) y (by rw[c.fg]) hr4 (by omega);rw[c.fg] at this;omega
    obtain⟨r,r1,r2,r3,r4⟩:=zPA (P:=fun r=>c.g r≤x) (c.f y-c.f x) (c.f x) (by simp only[c.gf];omega) (by
     rw[show c.f x+(c.f y-c.f x)=c.f y by omega];simp only[c.gf];omega)
    have hr:r+1≤c.f y:=by omega
    have hu:a.f x≤a.f (c.g r)∧b.f x≤b.f (c.g r):=by
     rcases Nat.lt_or_ge (c.g r) x with h1 | h1
     · have h2:c.f x<c.f (c.g r):=by
        rw[c.fg]
        rcases Nat.lt_or_ge (c.f x) r with h3 | h3
        · exact h3
        · have:r=c.f x:=by omega
          rw[this,c.gf] at h1;omega
       have:=h.la _ _ h1 h2;have:=h.lb _ _ h1 h2;omega
     · have:c.g r=x:=by omega
       rw[this];omega
    have hv:y≤c.g (r+1)∧a.f (c.g (r+1))≤a.f y∧b.f (c.g (r+1))≤b.f y:=by
     rcases Nat.lt_or_ge (r+1) (c.f y) with h1 | h1
     · have h2:=mid (r+1) (by omega) h1;have h3:y≤c.g (r+1):=by omega
       rcases Nat.lt_or_ge y (c.g (r+1)) with h4 | h4
       · have h5:c.f (c.g (r+1))<c.f y:=by rw[c.fg];exact h1
         have:=h.la _ _ h4 h5;have:=h.lb _ _ h4 h5;omega
       · have:c.g (r+1)=y:=by omega
         rw[this];omega
     · have:r+1=c.f y:=by omega
       rw[this,c.gf];omega
    exact h.stop r (by omega) (by omega) ⟨by omega,by omega⟩
theorem Greedy.unique {a b c d:Pm n}(h:Greedy a b c) (h':Greedy a b d):c=d:=le_anti (h'.max h.la h.lb) (h.max h'.la h'.lb)
def put1 (c:Pm n) (p:Nat) (h:p+1<n):Pm n:=c*swap n p h
theorem zSj (c:Pm n) (p:Nat) (h:p+1<n) (x:Nat):(put1 c p h).f x=sf p (c.f x):=rfl
theorem zJQ {c:Pm n}{p:Nat}{h:p+1<n}(hc:c.g p<c.g (p+1)) {i j:Nat}(hij:i<j):
  (put1 c p h).f j<(put1 c p h).f i↔c.f j<c.f i∨(i=c.g p∧j=c.g (p+1)):=by
 rw[zSj,zSj];have e1:∀ x,c.f x=p↔x=c.g p:=fun x=>⟨fun h=>by rw[← h,c.gf],fun h=>by rw[h,c.fg]⟩
 have e2:∀ x,c.f x=p+1↔x=c.g (p+1):=fun x=>⟨fun h=>by rw[← h,c.gf],fun h=>by rw[h,c.fg]⟩
 unfold sf;have a1:=e1 i;have a2:=e1 j;have b1:=e2 i;have b2:=e2 j
 by_cases c1:c.f i=p
 · have:=a1.1 c1
   by_cases c2:c.f j=p+1
   · have:=b2.1 c2;simp[c1,c2,← this];omega
   · by_cases c3:c.f j=p
     · have:=a2.1 c3;omega
     · have h4:¬ j=c.g (p+1):=fun h=>c2 (b2.2 h);simp[c1,c2,c3,h4];omega
 · have h5:¬ i=c.g p:=fun h=>c1 (a1.2 h)
   by_cases c2:c.f i=p+1
   · have h6:=b1.1 c2
     by_cases c3:c.f j=p
     · have:=a2.1 c3;omega
     · have h7:¬ c.f j=p+1:=fun h=>by have:=b2.1 h;omega
       simp[c2,c3,h7,h5];omega
   · by_cases c3:c.f j=p
     · simp[c1,c2,c3,h5];omega
     · by_cases c4:c.f j=p+1
       · simp[c1,c2,c4,h5];omega
       · simp[c1,c2,c3,c4,h5]
theorem put1_le {a c:Pm n}{p:Nat}{h:p+1<n}(hc:c.g p<c.g (p+1)) (hca:le c a) (ha:a.f (c.g (p+1))<a.f (c.g p)):le (put1 c p h) a:=by
 intro i j hij h1
 rcases (zJQ hc hij).1 h1 with h2 | ⟨rfl,rfl⟩
 · exact hca _ _ hij h2
 · exact ha
def cnt (c:Pm n):Nat:=((List.range n).flatMap fun i=>(List.range n).map fun j=>(i,j)).countP fun q=>decide (q.1<q.2)&&decide (c.f q.2<c.f q.1)
theorem cnt_le (c:Pm n):cnt c≤n*n:=by
 have:=List.countP_le_length (p:=fun q:Nat×Nat=>decide (q.1<q.2)&&decide (c.f q.2<c.f q.1)) (l:=(List.range n).flatMap fun i=>(List.range n).map fun j=>(i,j));have e:((List.range n).flatMap fun i=>(List.range n).map fun j=>(i,j)).length=n*n:=by
  simp[List.length_flatMap,List.map_const',List.sum_replicate_nat]
 unfold cnt;omega
theorem zKq {α:Type}{p q:α→Bool}:∀ {l:List α}{x:α},(∀ y∈l,p y=true→q y=true)→x∈l→p x=false→q x=true→l.countP p<l.countP q
 | [],x,_,hx,_,_=>by simp at hx
 | a::l,x,h,hx,h1,h2=>by
  have hle:l.countP p≤l.countP q:=List.countP_mono_left (fun y hy=>h y (List.mem_cons_of_mem _ hy))
  rcases List.mem_cons.1 hx with rfl | hx
  · simp[List.countP_cons,h1,h2];omega
  · have:=zKq (fun y hy=>h y (List.mem_cons_of_mem _ hy)) hx h1 h2;have h3:=h a List.mem_cons_self;simp only[List.countP_cons]
    cases h4:p a<;>cases h5:q a<;>simp_all<;>omega
theorem cnt_put1 {c:Pm n}{p:Nat}{h:p+1<n}(hc:c.g p<c.g (p+1)):cnt c<cnt (put1 c p h):=by
 have hn:c.g (p+1)<n:=c.lt_g h
 apply zKq (x:=(c.g p,c.g (p+1)))
 · intro q hq h1;simp only[Bool.and_eq_true,decide_eq_true_eq] at h1 ⊢;exact⟨h1.1,(zJQ hc h1.1).2 (.inl h1.2)⟩
 · simp only[List.mem_flatMap,List.mem_range,List.mem_map];exact⟨c.g p,by omega,c.g (p+1),hn,rfl⟩
 · simp only[c.fg];simp
 · simp only[Bool.and_eq_true,decide_eq_true_eq];exact⟨hc,(zJQ hc hc).2 (.inr ⟨rfl,rfl⟩)⟩
theorem zL4 (a b:Pm n):∀ (k:Nat) (c:Pm n),n*n≤cnt c+k→le c a→le c b→∃ d,Greedy a b d:=by
 intro k
 induction k with
 | zero=>
  intro c hc ha hb;refine⟨c,ha,hb,fun p hp h1 h2=>?_⟩;have:=cnt_put1 (h:=hp) h1;have:=cnt_le (put1 c p hp);omega
 | succ k ih=>
  intro c hc ha hb
  by_cases h:∃ p,p+1<n∧c.g p<c.g (p+1)∧a.f (c.g (p+1))<a.f (c.g p)∧b.f (c.g (p+1))<b.f (c.g p)
  · obtain⟨p,hp,h1,h2,h3⟩:=h;have:=cnt_put1 (h:=hp) h1;exact ih (put1 c p hp) (by omega) (put1_le h1 ha h2) (put1_le h1 hb h3)
  · exact⟨c,ha,hb,fun p hp h1 h2=>h ⟨p,hp,h1,h2.1,h2.2⟩⟩
theorem one_le (a:Pm n):le 1 a:=fun i j h h1=>by simp only[one_f] at h1;omega
theorem zKf (a b:Pm n):∃ d,Greedy a b d:=zL4 a b (n*n) 1 (by omega) (one_le a) (one_le b)
noncomputable def meet (a b:Pm n):Pm n:=(zKf a b).choose
theorem meet_greedy (a b:Pm n):Greedy a b (meet a b):=(zKf a b).choose_spec
theorem Greedy.eq {a b c:Pm n}(h:Greedy a b c):c=meet a b:=h.unique (meet_greedy a b)
noncomputable def lat (n:Nat):Lat (Pm n) where
 S _:=True
 le:=le
 D:=half n
 meet:=meet
 S_one:=trivial
 S_D:=trivial
 S_K _:=trivial
 S_K' _:=trivial
 refl _:=fun _ _ _ h=>h
 trans _ _ _ h1 h2:=fun i j h h3=>h2 i j h (h1 i j h h3)
 anti _ _:=le_anti
 one_le _:=one_le _
 le_D _:=zTz _
 S_meet _ _:=trivial
 meet_l _ _:=(meet_greedy _ _).la
 meet_r _ _:=(meet_greedy _ _).lb
 le_meet _ _ _ h1 h2:=(meet_greedy _ _).max h1 h2
 p0 _ _ h:=⟨trivial,p0 h⟩
 p1 _ _ h:=⟨trivial,p1 h⟩
 p2 _ _ _:=p2
end Pm
end Go.Gar
namespace Go.Ev.YtlkmkabnbegfdaaGreat
open Go.Ev
theorem zQi (x l h:Int):R zFG [tI x,tI l,tI h]=some [tB (decide (l≤x)&&decide (x≤h))]:=by
 apply zRH;by_cases e:l≤x<;>simp[zJn,e]
theorem zFQ (x l h:Int):R kh [tI x,tI l,tI h]=some [tB (decide (l≤x)&&decide (x≤h))]:=by
 apply zEn;by_cases e:l≤x<;>simp[jd,e]
theorem zQk (x:Int):R zFw [tI x]=some [tB (decide (1≤x)&&decide (x≤8))]:=by
 apply zN7;simp[zGC,zFQ]
end Go.Ev.YtlkmkabnbegfdaaGreat
namespace Go.Ev.YtlkmkabnbegfdaaGreat
open Go.Ev
def okL (n x:Int):Bool:=decide (x≠0)&&decide (1-n≤x)&&decide (x≤n-1)
def isBr (b:Int×List Int):Bool:=decide (1≤b.1)&&decide (b.1≤8)&&decide (b.2.length≤200)&&b.2.all (okL b.1)
def I64 (l:List Int):Prop:=∀ x∈l,-9223372036854775808≤x∧x≤9223372036854775807
theorem zV {l:List Int}{i:Nat}(h:i<l.length):List.getD l i 0=l[i]:=by
 simp[List.getD_eq_getElem?_getD,List.getElem?_eq_getElem h]
theorem zUx {n x:Int}(hn:n≤8) (h:-9223372036854775808≤x∧x≤9223372036854775807):
  (decide (1≤wi64 (0-x))&&decide (wi64 (0-x)≤n-1))=(decide (1≤-x)&&decide (-x≤n-1)):=by
 by_cases e:x=-9223372036854775808
 · subst e;have:wi64 (0 - -9223372036854775808)=-9223372036854775808:=by decide
   rw[this];have:¬ ((- -9223372036854775808:Int)≤n-1):=by omega
   rw[decide_eq_false this];simp
 · rw[zD (by omega) (by omega)];simp
theorem zQh (n:Int) (l:List Int) (hn:1≤n) (hn':n≤8) (hl:l.length<1000000000) (hw:I64 l):
  ∀ i,i≤l.length→R zCD [tI n,tLI l,tI (i:Int)]=some (if (l.drop i).all (okL n) then [tI 0] else [tI 1,tB false]):=by
 refine kX _ ?_ (fun i hi ih=>?_)
 · apply zIU;simp[zDj]
 · apply zIU;have hx:=hw _ (List.getElem_mem hi);rw[List.drop_eq_getElem_cons hi,List.all_cons];simp (disch:=omega) only[zDj,decide_eq_true,cond_true,Bool.and_true,Int.toNat_natCast,zD,zV hi,zQi,Option.bind_some,getTV_here];rw[zUx hn' hx,show (i:Int)+1=((i+1:Nat):Int) by omega,ih]
   by_cases h1:(1≤l[i]∧l[i]≤n-1)
   · have:okL n l[i]=true:=by simp[okL];omega
     simp[this,h1]
   · by_cases h2:(1≤-l[i]∧-l[i]≤n-1)
     · have:okL n l[i]=true:=by simp[okL];omega
       have h3:¬ (1≤l[i]):=by omega
       simp[this,h2,h3]
     · have:okL n l[i]=false:=by simp[okL];omega
       rw[this];have e1:(decide (1≤l[i])&&decide (l[i]≤n-1))=false:=by simp;omega
       have e2:(decide (1≤-l[i])&&decide (-l[i]≤n-1))=false:=by simp;omega
       simp[e1,e2]
theorem zMU (b:Int×List Int) (hl:b.2.length<1000000000) (hw:I64 b.2):R zAc [zH b]=some [tB (isBr b)]:=by
 apply zRG;simp only[zJm,zQi,Option.bind_some,getTV_here]
 by_cases h1:(1≤b.1∧b.1≤8)
 · by_cases h2:b.2.length≤200
   · have h:=zQh b.1 b.2 h1.1 h1.2 hl hw 0 (Nat.zero_le _);simp only[Int.natCast_zero,List.drop_zero] at h;have h3:¬ ((200:Int)<(b.2.length:Int)):=by omega
     simp only[h1,decide_true,Bool.and_self,Bool.not_true,cond_false,h3,decide_false,h,Option.bind_some];by_cases h4:b.2.all (okL b.1)<;>simp[isBr,h1,h2,h4]
   · have h3:((200:Int)<(b.2.length:Int)):=by omega
     have:isBr b=false:=by simp[isBr,h2]
     simp[h1,h3,this]
 · have:isBr b=false:=by
    simp only[isBr,Bool.and_eq_false_iff,decide_eq_false_iff_not];omega
   have e1:(decide (1≤b.1)&&decide (b.1≤8))=false:=by simp;omega
   simp[e1,this]
theorem zOk (x n:Int) (hn:1≤n) (hn':n≤8):R zER [tI x,tI n]=some [tB (okL n x)]:=by
 apply zLV;rw[zEg,zD (by omega) (by omega),zD (by omega) (by omega)];by_cases h:x=0<;>simp[zFQ,okL,h,zBI]
theorem zMc (n:Int) (l:List Int) (hn:1≤n) (hn':n≤8) (hl:l.length<1000000000):
  ∀ i,i≤l.length→R zBe [tI n,tLI l,tI (l.length:Int),tI (i:Int)]=some (if (l.drop i).all (okL n) then [tI 0] else [tI 1,tB false]):=by
 refine kX _ ?_ (fun i hi ih=>?_)
 · apply zGR;simp[zBv]
 · apply zGR;rw[List.drop_eq_getElem_cons hi,List.all_cons];simp (disch:=omega) only[zBv,decide_eq_true,cond_true,Bool.and_true,Int.toNat_natCast,zD,zV hi,zOk _ n hn hn',Option.bind_some,getTV_here];rw[show (i:Int)+1=((i+1:Nat):Int) by omega,ih]
   cases okL n l[i]<;>simp
theorem zBG (b:Int×List Int) (hl:b.2.length<1000000000):R kx [zH b]=some [tB (isBr b)]:=by
 apply zN8;simp only[zGD,zQk,Option.bind_some,getTV_here]
 by_cases h1:(1≤b.1∧b.1≤8)
 · by_cases h2:b.2.length≤200
   · have h:=zMc b.1 b.2 h1.1 h1.2 hl 0 (Nat.zero_le _);simp only[Int.natCast_zero,List.drop_zero] at h;have h3:¬ ((200:Int)<(b.2.length:Int)):=by omega
     simp only[h1,decide_true,Bool.and_self,Bool.not_true,cond_false,h3,decide_false,h,Option.bind_some];by_cases h4:b.2.all (okL b.1)<;>simp[isBr,h1,h2,h4]
   · have h3:((200:Int)<(b.2.length:Int)):=by omega
     have:isBr b=false:=by simp[isBr,h2]
     simp[h1,h3,this]
 · have:isBr b=false:=by
    simp only[isBr,Bool.and_eq_false_iff,decide_eq_false_iff_not];omega
   have e1:(decide (1≤b.1)&&decide (b.1≤8))=false:=by simp;omega
   simp[e1,this]
theorem zHi {b:Int×List Int}(h:isBr b=true):1≤b.1∧b.1≤8∧b.2.length≤200∧∀ x∈b.2,x≠0∧1-b.1≤x∧x≤b.1-1:=by
 simp only[isBr,Bool.and_eq_true,decide_eq_true_eq,List.all_eq_true,okL] at h;exact⟨h.1.1.1,h.1.1.2,h.1.2,fun x hx=>⟨(h.2 x hx).1.1,(h.2 x hx).1.2,(h.2 x hx).2⟩⟩
end Go.Ev.YtlkmkabnbegfdaaGreat
namespace Go.Ev.YtlkmkabnbegfdaaGreat
open Go.Ev
end Go.Ev.YtlkmkabnbegfdaaGreat
namespace Go.Ev
open Go.Gar
def A8 (n:Nat) (f:Nat→Nat):List Int:=(List.range 8).map fun x=>if x<n then (f x:Int) else 0
theorem zI5 (n:Nat) (f:Nat→Nat):(A8 n f).length=8:=by simp[A8]
theorem A8_get? (n:Nat) (f:Nat→Nat) {x:Nat}(h:x<8):(A8 n f)[x]?=some (if x<n then (f x:Int) else 0):=by
 simp[A8,h]
theorem zQ6 {n:Nat}{f:Nat→Nat}{x:Nat}(hx:x<n) (hn:n≤8):List.getD (A8 n f) x 0=(f x:Int):=by
 rw[List.getD_eq_getElem?_getD,A8_get? n f (by omega),if_pos hx]
 rfl
theorem zTy {l m:List Int}(h1:l.length=8) (h2:m.length=8) (h:∀ x,x<8→l[x]?=m[x]?):l=m:=by
 apply List.ext_getElem?;intro x
 by_cases hx:x<8
 · exact h x hx
 · rw[List.getElem?_eq_none (by omega),List.getElem?_eq_none (by omega)]
theorem zc {n:Nat}{f g:Nat→Nat}(h:∀ x,x<n→f x=g x):A8 n f=A8 n g:=by
 apply zTy (zI5 n f) (zI5 n g);intro x hx;rw[A8_get? n f hx,A8_get? n g hx]
 by_cases h1:x<n
 · rw[if_pos h1,if_pos h1,h x h1]
 · rw[if_neg h1,if_neg h1]
theorem zVM {n:Nat}{f g:Nat→Nat}(hn:n≤8) (h:A8 n f=A8 n g):∀ x,x<n→f x=g x:=by
 intro x hx;have h1:=zQ6 (f:=f) hx hn;rw[h,zQ6 hx hn] at h1;omega
theorem zCy {n:Nat}{f:Nat→Nat}{k v:Nat}(hk:k<n) (hn:n≤8):List.set (A8 n f) k (v:Int)=A8 n (fun x=>if x=k then v else f x):=by
 apply zTy (by rw[List.length_set,zI5]) (zI5 _ _);intro x hx;have e1:=A8_get? n f hx;have e2:=A8_get? n (fun x=>if x=k then v else f x) hx;rw[List.getElem?_set,e1,e2,zI5]
 by_cases h1:k=x
 · subst h1;simp[hk,hx]
 · have h2:¬ x=k:=fun h=>h1 h.symm;simp[h1,h2]
theorem zDa (n:Nat):List.replicate 8 (0:Int)=A8 n (fun _=>0):=by
 apply zTy (by simp) (zI5 _ _);intro x hx;rw[A8_get? n _ hx,List.getElem?_replicate,if_pos hx];split<;>rfl
def sA {n:Nat}(s:Pm n):List Int:=A8 n s.f
theorem jW {n:Nat}{s:Pm n}{x:Nat}(hx:x<n) (hn:n≤8):List.getD (sA s) x 0=(s.f x:Int):=zQ6 hx hn
theorem zSb {n:Nat}(hn:n≤8) {s t:Pm n}(h:sA s=sA t):s=t:=by
 apply Pm.ext;intro x
 by_cases hx:x<n
 · exact zVM hn h x hx
 · rw[s.out x (by omega),t.out x (by omega)]
theorem zVV {n:Nat}(hn:n≤8) (s t:Pm n):sA s=sA t↔s=t:=⟨zSb hn,fun h=>by rw[h]⟩
theorem zFC {d:Nat}(h:d<2^64):(BitVec.ofInt 64 (d:Int)).toNat=d:=by
 rw[BitVec.toNat_ofInt];omega
theorem kP {x:Int}(h1:0≤x) (h2:x<18446744073709551616):IntKind.wrap .u64 x=x:=by
 simp only[IntKind.wrap,IntKind.bits,IntKind.signed,Bool.false_and,Bool.false_eq_true,if_false];omega
theorem zTY {k:Nat}(h:k<64):shl .u64 1 (k:Int)=((2^k:Nat):Int):=by
 have h1:2^k<2^64:=Nat.pow_lt_pow_right (by omega) h;unfold shl;rw[show min ((k:Int)).toNat (IntKind.bits .u64)=k by simp[IntKind.bits];omega,Int.one_mul];rw[show ((2:Int)^k)=((2^k:Nat):Int) from (Int.natCast_pow 2 k).symm];exact kP (Int.natCast_nonneg _) (Int.ofNat_lt.2 h1)
theorem zOn {d e:Nat}(hd:d<2^64) (he:e<2^64):bitsOr .u64 (d:Int) (e:Int)=((d ||| e:Nat):Int):=by
 have h:=Nat.or_lt_two_pow hd he;unfold bitsOr;rw[BitVec.toNat_or];show IntKind.wrap .u64 (((BitVec.ofInt 64 (d:Int)).toNat ||| (BitVec.ofInt 64 (e:Int)).toNat:Nat):Int)=_;rw[zFC hd,zFC he];exact kP (by omega) (by omega)
theorem zH5 {d e:Nat}(hd:d<2^64) (he:e<2^64):bitsAnd .u64 (d:Int) (e:Int)=((d &&& e:Nat):Int):=by
 have h:=Nat.and_lt_two_pow (n:=64) d he;unfold bitsAnd;rw[BitVec.toNat_and];show IntKind.wrap .u64 (((BitVec.ofInt 64 (d:Int)).toNat &&& (BitVec.ofInt 64 (e:Int)).toNat:Nat):Int)=_;rw[zFC hd,zFC he];exact kP (by omega) (by omega)
theorem zTX {d k:Nat}(h:k<64):shr .u64 (d:Int) (k:Int)=((d >>> k:Nat):Int):=by
 unfold shr;rw[show min ((k:Int)).toNat (IntKind.bits .u64)=k by simp[IntKind.bits];omega];rw[show ((2:Int)^k)=((2^k:Nat):Int) from (Int.natCast_pow 2 k).symm,Int.fdiv_eq_ediv_of_nonneg _ (Int.natCast_nonneg _),Nat.shiftRight_eq_div_pow]
 rfl
theorem zVD {d k:Nat}(hd:d<2^64) (h:k<64):(bitsAnd .u64 (shr .u64 (d:Int) (k:Int)) 1==1)=d.testBit k:=by
 rw[zTX h];have h1:d >>> k<2^64:=by
  rw[Nat.shiftRight_eq_div_pow];exact Nat.lt_of_le_of_lt (Nat.div_le_self _ _) hd
 rw[show (1:Int)=((1:Nat):Int) from rfl,zH5 h1 (by omega),zMk,Nat.testBit];rw[Bool.eq_iff_iff,Nat.and_comm];have:(d >>> k) &&& 1<2:=Nat.and_lt_two_pow (n:=1) _ (by omega);rw[Nat.and_comm];have e:1 &&& (d >>> k)=(d >>> k) &&& 1:=Nat.and_comm _ _;simp only[decide_eq_true_eq,bne_iff_ne];omega
end Go.Ev
namespace Go.Ev
open Go.Gar
end Go.Ev
namespace Go.Ev.YtlkmkabnbegfdaaGreat
open Go.Ev
def invL (w:List Int):List Int:=w.reverse.map fun x=>-x
theorem zNN (w:List Int):(invL w).length=w.length:=by simp[invL]
def Lr (n:Nat) (x:Int):Prop:=x≠0∧1-(n:Int)≤x∧x≤(n:Int)-1
theorem Lr.neg {n:Nat}{x:Int}(h:Lr n x):Lr n (-x):=by unfold Lr at *;omega
inductive BE (n:Nat):List Int→List Int→Prop
 | re (w:List Int):BE n w w
 | sy {a b:List Int}:BE n a b→BE n b a
 | tr {a b c:List Int}:BE n a b→BE n b c→BE n a c
 | fr (u v:List Int) (x:Int) (h:Lr n x):BE n (u++x::-x::v) (u++v)
 | fa (u v:List Int) (i j:Nat) (h:i+2≤j) (hj:j+1<n):BE n (u++((i+1:Nat):Int)::((j+1:Nat):Int)::v) (u++((j+1:Nat):Int)::((i+1:Nat):Int)::v)
 | br (u v:List Int) (i:Nat) (h:i+2<n):BE n (u++((i+1:Nat):Int)::((i+2:Nat):Int)::((i+1:Nat):Int)::v) (u++((i+2:Nat):Int)::((i+1:Nat):Int)::((i+2:Nat):Int)::v)
theorem BE.ctx {n:Nat}{a b:List Int}(h:BE n a b) (p q:List Int):BE n (p++(a++q)) (p++(b++q)):=by
 induction h with
 | re w=>exact .re _
 | sy _ ih=>exact ih.sy
 | tr _ _ i1 i2=>exact i1.tr i2
 | fr u v x hx=>
  have:=BE.fr (p++u) (v++q) x hx;simp only[List.append_assoc,List.cons_append] at this ⊢;exact this
 | fa u v i j h hj=>
  have:=BE.fa (p++u) (v++q) i j h hj;simp only[List.append_assoc,List.cons_append] at this ⊢;exact this
 | br u v i h=>
  have:=BE.br (p++u) (v++q) i h;simp only[List.append_assoc,List.cons_append] at this ⊢;exact this
theorem BE.left {n:Nat}{a b:List Int}(h:BE n a b) (p:List Int):BE n (p++a) (p++b):=by
 have:=h.ctx p [];simpa using this
theorem BE.right {n:Nat}{a b:List Int}(h:BE n a b) (q:List Int):BE n (a++q) (b++q):=by
 have:=h.ctx [] q;simpa using this
theorem BE.frL {n:Nat}{x:Int}(h:Lr n x) (w:List Int):BE n (x::-x::w) w:=.fr [] w x h
theorem BE.frL' {n:Nat}{x:Int}(h:Lr n x) (w:List Int):BE n (-x::x::w) w:=by
 have:=BE.frL h.neg w;rw[Int.neg_neg] at this;exact this
theorem BE.fold {n:Nat}{α:Type}{f:α→Int→α}{P:α→Prop}(hP:∀ s x,P s→P (f s x)) (h1:∀ s x,P s→Lr n x→f (f s x) (-x)=s)
  (h2:∀ s (i j:Nat),P s→i+2≤j→j+1<n→f (f s ((i+1:Nat):Int)) ((j+1:Nat):Int)=f (f s ((j+1:Nat):Int)) ((i+1:Nat):Int))
  (h3:∀ s (i:Nat),P s→i+2<n→f (f (f s ((i+1:Nat):Int)) ((i+2:Nat):Int)) ((i+1:Nat):Int)=f (f (f s ((i+2:Nat):Int)) ((i+1:Nat):Int)) ((i+2:Nat):Int))
  {a b:List Int}(h:BE n a b):∀ s,P s→a.foldl f s=b.foldl f s:=by
 have hf:∀ (u:List Int) s,P s→P (u.foldl f s):=by
  intro u
  induction u with
  | nil=>intro s h;exact h
  | cons x u ih=>intro s h;exact ih _ (hP s x h)
 induction h with
 | re w=>intro s _;rfl
 | sy _ ih=>intro s hs;exact (ih s hs).symm
 | tr _ _ i1 i2=>intro s hs;exact (i1 s hs).trans (i2 s hs)
 | fr u v x hx=>
  intro s hs;rw[List.foldl_append,List.foldl_append];show v.foldl f (f (f (u.foldl f s) x) (-x))=_;rw[h1 _ x (hf u s hs) hx]
 | fa u v i j hh hj=>
  intro s hs;rw[List.foldl_append,List.foldl_append];show v.foldl f (f (f (u.foldl f s) _) _)=v.foldl f (f (f (u.foldl f s) _) _);rw[h2 _ i j (hf u s hs) hh hj]
 | br u v i hh=>
  intro s hs;rw[List.foldl_append,List.foldl_append];show v.foldl f (f (f (f (u.foldl f s) _) _) _)=v.foldl f (f (f (f (u.foldl f s) _) _) _);rw[h3 _ i (hf u s hs) hh]
theorem zFH (x:Int) (w:List Int):invL (x::w)=invL w++[-x]:=by simp[invL]
theorem BE.inv_r {n:Nat}:∀ (w:List Int),(∀ x∈w,Lr n x)→BE n (w++invL w) []
 | [],_=>.re _
 | x::w,h=>by
  have hx:=h x List.mem_cons_self;have ih:=(BE.inv_r w (fun y hy=>h y (List.mem_cons_of_mem _ hy))).ctx [x] [-x];rw[zFH];have e:x::w++(invL w++[-x])=[x]++(w++invL w++[-x]):=by simp
  rw[e];exact ih.tr (BE.frL hx [])
theorem zKb (w:List Int):invL (invL w)=w:=by
 simp only[invL,List.map_reverse,List.reverse_reverse,List.map_map];have:((fun x:Int=>-x)∘fun x=>-x)=id:=by funext x;simp
 rw[this,List.map_id]
theorem zJZ {n:Nat}{w:List Int}(h:∀ x∈w,Lr n x):∀ x∈invL w,Lr n x:=fun x hx=>by
 simp only[invL,List.mem_map,List.mem_reverse] at hx;obtain⟨y,hy,rfl⟩:=hx;exact (h y hy).neg
theorem BE.inv_l {n:Nat}(w:List Int) (h:∀ x∈w,Lr n x):BE n (invL w++w) []:=by
 have:=BE.inv_r (invL w) (zJZ h);rw[zKb] at this;exact this
theorem BE.inv {n:Nat}{a b:List Int}(h:BE n a b) (ha:∀ x∈a,Lr n x) (hb:∀ x∈b,Lr n x):BE n (invL a) (invL b):=by
 have s1:BE n (invL a) (invL a++(b++invL b)):=by
  have:=(BE.inv_r b hb).sy.left (invL a);simpa using this
 have s2:BE n (invL a++(b++invL b)) (invL a++(a++invL b)):=h.sy.ctx _ _;have s3:BE n (invL a++(a++invL b)) (invL b):=by
  have:=(BE.inv_l a ha).right (invL b);simpa using this
 exact s1.tr (s2.tr s3)
theorem BE.com_neg {n:Nat}{x y:Int}(hx:Lr n x) (h:BE n [x,y] [y,x]):BE n [-x,y] [y,-x]:=by
 have s1:BE n [-x,y] [-x,y,x,-x]:=(BE.fr [-x,y] [] x hx).sy;have s2:BE n [-x,y,x,-x] [-x,x,y,-x]:=h.sy.ctx [-x] [-x];have s3:BE n [-x,x,y,-x] [y,-x]:=BE.frL' hx [y,-x];exact s1.tr (s2.tr s3)
theorem BE.com {n:Nat}{x y:Int}(hx:Lr n x) (hy:Lr n y) (h:x.natAbs+2≤y.natAbs∨y.natAbs+2≤x.natAbs):BE n [x,y] [y,x]:=by
 have pp:BE n [((x.natAbs:Nat):Int),((y.natAbs:Nat):Int)] [((y.natAbs:Nat):Int),((x.natAbs:Nat):Int)]:=by
  unfold Lr at hx hy
  rcases h with h | h
  · have:=BE.fa (n:=n) [] [] (x.natAbs-1) (y.natAbs-1) (by omega) (by omega);rw[show x.natAbs-1+1=x.natAbs by omega,show y.natAbs-1+1=y.natAbs by omega] at this;exact this
  · have:=BE.fa (n:=n) [] [] (y.natAbs-1) (x.natAbs-1) (by omega) (by omega);rw[show x.natAbs-1+1=x.natAbs by omega,show y.natAbs-1+1=y.natAbs by omega] at this;exact this.sy
 have ax:Lr n ((x.natAbs:Nat):Int):=by unfold Lr at *;omega
 have ay:Lr n ((y.natAbs:Nat):Int):=by unfold Lr at *;omega
 have hxy:BE n [x,((y.natAbs:Nat):Int)] [((y.natAbs:Nat):Int),x]:=by
  by_cases h0:0<x
  · rw[show ((x.natAbs:Nat):Int)=x by omega] at pp;exact pp
  · have:=BE.com_neg ax pp;rw[show -((x.natAbs:Nat):Int)=x by omega] at this;exact this
 by_cases h0:0<y
 · rw[show ((y.natAbs:Nat):Int)=y by omega] at hxy;exact hxy
 · have:=BE.com_neg ay hxy.sy;rw[show -((y.natAbs:Nat):Int)=y by omega] at this;exact this.sy
theorem BE.con1 {n i:Nat}(h:i+2<n):BE n [((i+1:Nat):Int),((i+2:Nat):Int),-((i+1:Nat):Int)] [-((i+2:Nat):Int),((i+1:Nat):Int),((i+2:Nat):Int)]:=by
 have ha:Lr n ((i+1:Nat):Int):=by unfold Lr;omega
 have hb:Lr n ((i+2:Nat):Int):=by unfold Lr;omega
 have hbr:=BE.br (n:=n) [] [] i h;simp only[List.nil_append] at hbr;generalize ((i+1:Nat):Int)=a at *;generalize ((i+2:Nat):Int)=b at *;have s1:BE n [a,b,-a] [-b,b,a,b,-a]:=(BE.frL' hb [a,b,-a]).sy;have s2:BE n [-b,b,a,b,-a] [-b,a,b,a,-a]:=hbr.sy.ctx [-b] [-a];have s3:BE n [-b,a,b,a,-a] [-b,a,b]:=BE.fr [-b,a,b] [] a ha;exact s1.tr (s2.tr s3)
theorem BE.con2 {n i:Nat}(h:i+2<n):BE n [((i+2:Nat):Int),((i+1:Nat):Int),-((i+2:Nat):Int)] [-((i+1:Nat):Int),((i+2:Nat):Int),((i+1:Nat):Int)]:=by
 have ha:Lr n ((i+1:Nat):Int):=by unfold Lr;omega
 have hb:Lr n ((i+2:Nat):Int):=by unfold Lr;omega
 have hbr:=BE.br (n:=n) [] [] i h;simp only[List.nil_append] at hbr;generalize ((i+1:Nat):Int)=a at *;generalize ((i+2:Nat):Int)=b at *;have s1:BE n [b,a,-b] [-a,a,b,a,-b]:=(BE.frL' ha [b,a,-b]).sy;have s2:BE n [-a,a,b,a,-b] [-a,b,a,b,-b]:=hbr.ctx [-a] [-b];have s3:BE n [-a,b,a,b,-b] [-a,b,a]:=BE.fr [-a,b,a] [] b hb;exact s1.tr (s2.tr s3)
theorem lr3 {n:Nat}{a b c:Int}(ha:Lr n a) (hb:Lr n b) (hc:Lr n c):∀ x∈[a,b,c],Lr n x:=fun x hx=>by
 simp only[List.mem_cons,List.not_mem_nil,or_false] at hx
 rcases hx with rfl | rfl | rfl
 · exact ha
 · exact hb
 · exact hc
end Go.Ev.YtlkmkabnbegfdaaGreat
namespace Go.Ev.YtlkmkabnbegfdaaGreat
open Go.Ev Go.Gar
theorem kz {i:Nat}(h:i<1000):wi64 ((i:Int)+1)=((i+1:Nat):Int):=by rw[zD]<;>omega
theorem zOu {i:Nat}(h:i<256):wu8 (i:Int)=(i:Int):=zG4 (by omega) (by omega)
theorem zPS (n:Nat):(sA (1:Pm n))=A8 n fun x=>x:=rfl
theorem zMH (n:Nat) (hn:n≤8) (z:List Int):∀ i,i≤n→R zBc [tA8 z,tA8 (A8 n fun x=>if x<i then x else 0),tI (n:Int),tI (i:Int)]=some [tI 0,tA8 z,tA8 (sA (1:Pm n))]:=by
 refine kX _ ?_ (fun i hi ih=>?_)
 · apply zGQ;rw[zPS,zc (g:=fun x=>x) (fun x hx=>by simp[hx])];simp[zBt]
 · apply zGQ;simp (disch:=omega) only[zBt,decide_eq_true,cond_true,Bool.and_true,Int.toNat_natCast,kz,zOu,zCy];rw[zc (g:=fun x=>if x<i+1 then x else 0) (fun x hx=>by split<;>split<;>(try split)<;>omega)];exact ih
theorem zBF (n:Nat) (hn:n≤8):R jm [tI (n:Int)]=some [tA8 (sA (1:Pm n))]:=by
 apply zN6;have h:=zMH n hn (List.replicate 8 0) 0 (Nat.zero_le _);rw[zc (g:=fun _=>0) (fun x hx=>by simp),← zDa] at h;simp only[Int.natCast_zero] at h;simp only[zGB,h,Option.bind_some,getTV_here,getTV_next]
theorem zMQ (n:Nat) (hn:n≤8) (z:List Int):∀ i,i≤n→R zBX [tA8 z,tA8 (A8 n fun x=>if x<i then x else 0),tI (n:Int),tI (i:Int)]=some [tI 0,tA8 z,tA8 (sA (1:Pm n))]:=by
 refine kX _ ?_ (fun i hi ih=>?_)
 · apply zGL;rw[zPS,zc (g:=fun x=>x) (fun x hx=>by simp[hx])];simp[zBo]
 · apply zGL;simp (disch:=omega) only[zBo,decide_eq_true,cond_true,Bool.and_true,Int.toNat_natCast,kz,zOu,zCy];rw[zc (g:=fun x=>if x<i+1 then x else 0) (fun x hx=>by split<;>split<;>(try split)<;>omega)];exact ih
theorem zDR (n:Nat) (hn:n≤8):R zAt [tI (n:Int)]=some [tA8 (sA (1:Pm n))]:=by
 apply zNy;have h:=zMQ n hn (List.replicate 8 0) 0 (Nat.zero_le _);rw[zc (g:=fun _=>0) (fun x hx=>by simp),← zDa] at h;simp only[Int.natCast_zero] at h;simp only[zF3,h,Option.bind_some,getTV_here,getTV_next]
theorem zLA (n:Nat) (hn:n≤8) (z:List Int):∀ i,i≤n→R zAf [tA8 z,tA8 (A8 n fun x=>if x<i then n-1-x else 0),tI (n:Int),tI (n:Int),tI (i:Int)]=some [tI 0,tA8 z,tA8 (sA (Pm.half n))]:=by
 refine kX _ ?_ (fun i hi ih=>?_)
 · apply zEr;rw[show sA (Pm.half n)=A8 n (Pm.hf n) from rfl,zc (g:=Pm.hf n) (fun x hx=>by simp[hx,Pm.hf])];simp[zAn]
 · apply zEr;have e:wu8 (wi64 (wi64 ((n:Int)-1)-(i:Int)))=((n-1-i:Nat):Int):=by
    rw[zD (x:=(n:Int)-1) (by omega) (by omega),zD (by omega) (by omega),zG4 (by omega) (by omega)];omega
   simp (disch:=omega) only[zAn,decide_eq_true,cond_true,Bool.and_true,Int.toNat_natCast,kz,e,zCy];rw[zc (g:=fun x=>if x<i+1 then n-1-x else 0) (fun x hx=>by split<;>split<;>(try split)<;>omega)];exact ih
theorem zDh (n:Nat) (hn:n≤8):R jK [tI (n:Int)]=some [tA8 (sA (Pm.half n))]:=by
 apply zLW;have h:=zLA n hn (List.replicate 8 0) 0 (Nat.zero_le _);rw[zc (g:=fun _=>0) (fun x hx=>by simp),← zDa] at h;simp only[Int.natCast_zero] at h;simp only[zEh,h,Option.bind_some,getTV_here,getTV_next]
theorem zMS (n:Nat) (hn:n≤8) (z:List Int):∀ i,i≤n→R zBY [tA8 z,tA8 (A8 n fun x=>if x<i then n-1-x else 0),tI (n:Int),tI (i:Int)]=some [tI 0,tA8 z,tA8 (sA (Pm.half n))]:=by
 refine kX _ ?_ (fun i hi ih=>?_)
 · apply zGM;rw[show sA (Pm.half n)=A8 n (Pm.hf n) from rfl,zc (g:=Pm.hf n) (fun x hx=>by simp[hx,Pm.hf])];simp[zBp]
 · apply zGM;have e:wu8 (wi64 (wi64 ((n:Int)-1)-(i:Int)))=((n-1-i:Nat):Int):=by
    rw[zD (x:=(n:Int)-1) (by omega) (by omega),zD (by omega) (by omega),zG4 (by omega) (by omega)];omega
   simp (disch:=omega) only[zBp,decide_eq_true,cond_true,Bool.and_true,Int.toNat_natCast,kz,e,zCy];rw[zc (g:=fun x=>if x<i+1 then n-1-x else 0) (fun x hx=>by split<;>split<;>(try split)<;>omega)];exact ih
theorem zDS (n:Nat) (hn:n≤8):R jk [tI (n:Int)]=some [tA8 (sA (Pm.half n))]:=by
 apply zN1;have h:=zMS n hn (List.replicate 8 0) 0 (Nat.zero_le _);rw[zc (g:=fun _=>0) (fun x hx=>by simp),← zDa] at h;simp only[Int.natCast_zero] at h;simp only[zF6,h,Option.bind_some,getTV_here,getTV_next]
theorem zR9 (n:Nat) (hn:n≤8) (s t:Pm n) (z:List Int):∀ i,i≤n→R zFI [tA8 (sA s),tA8 (sA t),tA8 z,tA8 (A8 n fun x=>if x<i then t.f (s.f x) else 0),tI (n:Int),tI (i:Int)]=some [tI 0,tA8 z,tA8 (sA (s*t))]:=by
 refine kX _ ?_ (fun i hi ih=>?_)
 · apply zJy;rw[show sA (s*t)=A8 n (fun x=>t.f (s.f x)) from rfl,zc (g:=fun x=>t.f (s.f x)) (fun x hx=>by simp[hx])];simp[zFV]
 · apply zJy;have h1:=s.lt hi;simp (disch:=omega) only[zFV,decide_eq_true,cond_true,Bool.and_true,Int.toNat_natCast,kz,jW,zCy];rw[zc (g:=fun x=>if x<i+1 then t.f (s.f x) else 0) (fun x hx=>by
    by_cases h2:x=i
    · subst h2;simp
    · by_cases h3:x<i
      · have:x<i+1:=by omega
        simp[h2,h3,this]
      · have:¬ x<i+1:=by omega
        simp[h2,h3,this])]
   exact ih
theorem zNh (n:Nat) (hn:n≤8) (s t:Pm n):R zDH [tA8 (sA s),tA8 (sA t),tI (n:Int)]=some [tA8 (sA (s*t))]:=by
 apply zTO;have h:=zR9 n hn s t (List.replicate 8 0) 0 (Nat.zero_le _);rw[zc (g:=fun _=>0) (fun x hx=>by simp),← zDa] at h;simp only[Int.natCast_zero] at h;simp only[zMh,h,Option.bind_some,getTV_here,getTV_next]
theorem zMP (n:Nat) (hn:n≤8) (s t:Pm n) (z:List Int):∀ i,i≤n→R zBW [tA8 (sA s),tA8 (sA t),tA8 z,tA8 (A8 n fun x=>if x<i then t.f (s.f x) else 0),tI (n:Int),tI (i:Int)]=some [tI 0,tA8 z,tA8 (sA (s*t))]:=by
 refine kX _ ?_ (fun i hi ih=>?_)
 · apply zGK;rw[show sA (s*t)=A8 n (fun x=>t.f (s.f x)) from rfl,zc (g:=fun x=>t.f (s.f x)) (fun x hx=>by simp[hx])];simp[zBn]
 · apply zGK;have h1:=s.lt hi;simp (disch:=omega) only[zBn,decide_eq_true,cond_true,Bool.and_true,Int.toNat_natCast,kz,jW,zCy];rw[zc (g:=fun x=>if x<i+1 then t.f (s.f x) else 0) (fun x hx=>by
    by_cases h2:x=i
    · subst h2;simp
    · by_cases h3:x<i
      · have:x<i+1:=by omega
        simp[h2,h3,this]
      · have:¬ x<i+1:=by omega
        simp[h2,h3,this])]
   exact ih
theorem zCL (n:Nat) (hn:n≤8) (s t:Pm n):R kG [tA8 (sA s),tA8 (sA t),tI (n:Int)]=some [tA8 (sA (s*t))]:=by
 apply zNx;have h:=zMP n hn s t (List.replicate 8 0) 0 (Nat.zero_le _);rw[zc (g:=fun _=>0) (fun x hx=>by simp),← zDa] at h;simp only[Int.natCast_zero] at h;simp only[zF2,h,Option.bind_some,getTV_here,getTV_next]
theorem zOm (n:Nat) (hn:n≤8) (s:Pm n) (z:List Int):∀ i,i≤n→R zCi [tA8 (sA s),tA8 z,tA8 (A8 n fun y=>if s.g y<i then s.g y else 0),tI (n:Int),tI (i:Int)]=some [tI 0,tA8 z,tA8 (sA s⁻¹)]:=by
 refine kX _ ?_ (fun i hi ih=>?_)
 · apply zHE;rw[show sA s⁻¹=A8 n s.g from rfl,zc (g:=s.g) (fun x hx=>by simp[s.lt_g hx])];simp[zCu]
 · apply zHE;have h1:=s.lt hi;simp (disch:=omega) only[zCu,decide_eq_true,cond_true,Bool.and_true,Int.toNat_natCast,kz,zOu,jW,zCy];rw[zc (g:=fun y=>if s.g y<i+1 then s.g y else 0) (fun y hy=>by
    by_cases h2:y=s.f i
    · subst h2;simp[s.gf]
    · have h4:s.g y≠i:=fun h=>h2 (by rw[← h,s.fg])
      by_cases h3:s.g y<i
      · have:s.g y<i+1:=by omega
        simp[h2,h3,this]
      · have:¬ s.g y<i+1:=by omega
        simp[h2,h3,this])]
   exact ih
theorem zG1 (n:Nat) (hn:n≤8) (s:Pm n):R zCG [tA8 (sA s),tI (n:Int)]=some [tA8 (sA s⁻¹)]:=by
 apply zO7;have h:=zOm n hn s (List.replicate 8 0) 0 (Nat.zero_le _);rw[zc (g:=fun _=>0) (fun x hx=>by simp),← zDa] at h;simp only[Int.natCast_zero] at h;simp only[zH9,h,Option.bind_some,getTV_here,getTV_next]
theorem zMT (n:Nat) (hn:n≤8) (s:Pm n) (z:List Int):∀ i,i≤n→R zBZ [tA8 (sA s),tA8 z,tA8 (A8 n fun y=>if s.g y<i then s.g y else 0),tI (n:Int),tI (i:Int)]=some [tI 0,tA8 z,tA8 (sA s⁻¹)]:=by
 refine kX _ ?_ (fun i hi ih=>?_)
 · apply zGN;rw[show sA s⁻¹=A8 n s.g from rfl,zc (g:=s.g) (fun x hx=>by simp[s.lt_g hx])];simp[zBq]
 · apply zGN;have h1:=s.lt hi;simp (disch:=omega) only[zBq,decide_eq_true,cond_true,Bool.and_true,Int.toNat_natCast,kz,zOu,jW,zCy];rw[zc (g:=fun y=>if s.g y<i+1 then s.g y else 0) (fun y hy=>by
    by_cases h2:y=s.f i
    · subst h2;simp[s.gf]
    · have h4:s.g y≠i:=fun h=>h2 (by rw[← h,s.fg])
      by_cases h3:s.g y<i
      · have:s.g y<i+1:=by omega
        simp[h2,h3,this]
      · have:¬ s.g y<i+1:=by omega
        simp[h2,h3,this])]
   exact ih
theorem zH0 (n:Nat) (hn:n≤8) (s:Pm n):R zCC [tA8 (sA s),tI (n:Int)]=some [tA8 (sA s⁻¹)]:=by
 apply zN2;have h:=zMT n hn s (List.replicate 8 0) 0 (Nat.zero_le _);rw[zc (g:=fun _=>0) (fun x hx=>by simp),← zDa] at h;simp only[Int.natCast_zero] at h;simp only[zF7,h,Option.bind_some,getTV_here,getTV_next]
theorem zDT (n:Nat) (hn:n≤8) (s:Pm n):R zAP [tA8 (sA s),tI (n:Int)]=some [tA8 (sA (s⁻¹*Pm.half n))]:=by
 apply zGi;simp only[zAS,zH0 n hn,zDS n hn,zCL n hn,Option.bind_some,getTV_here]
theorem zGf (n:Nat) (hn:n≤8) (s:Pm n):R zCg [tA8 (sA s),tI (n:Int)]=some [tA8 (sA (s⁻¹*Pm.half n))]:=by
 apply zI8;simp only[zCt,zG1 n hn,zDh n hn,zNh n hn,Option.bind_some,getTV_here]
theorem zQg (n:Nat) (hn:n≤8) (s:Pm n):R zFt [tA8 (sA s),tI (n:Int)]=some [tA8 (sA (Pm.half n*s⁻¹))]:=by
 apply zN0;simp only[zF5,zH0 n hn,zDS n hn,zCL n hn,Option.bind_some,getTV_here]
theorem zGo (n:Nat) (hn:n≤8) (s:Pm n):R jn [tA8 (sA s),tI (n:Int)]=some [tA8 (sA (Pm.half n*s⁻¹))]:=by
 apply zFb;simp only[jo,zG1 n hn,zDh n hn,zNh n hn,Option.bind_some,getTV_here]
def trn {n:Nat}(s:Pm n):Pm n:=Pm.half n*s*Pm.half n
theorem zQf (n:Nat) (hn:n≤8) (s:Pm n):R zFr [tA8 (sA s),tI (n:Int)]=some [tA8 (sA (trn s))]:=by
 apply zNw;simp only[zF1,zDS n hn,zCL n hn,Option.bind_some,getTV_here,trn]
theorem zU8 (n:Nat) (hn:n≤8) (s:Pm n):R zL2 [tA8 (sA s),tI (n:Int)]=some [tA8 (sA (trn s))]:=by
 apply zTN;simp only[zMg,zDh n hn,zNh n hn,Option.bind_some,getTV_here,trn]
theorem zPR {n p:Nat}(h:p+1<n) (hn:n≤8):List.set (List.set (sA (1:Pm n)) p ((p+1:Nat):Int)) (p+1) (p:Int)=sA (Pm.swap n p h):=by
 rw[zPS,zCy (by omega) hn,zCy h hn];apply zc;intro x hx;show _=Pm.sf p x;unfold Pm.sf
 by_cases h1:x=p+1
 · subst h1;simp
 · simp[h1]
theorem zAh (n p:Nat) (h:p+1<n) (hn:n≤8):R kj [tI (n:Int),tI ((p+1:Nat):Int)]=some [tA8 (sA (Pm.swap n p h))]:=by
 apply zIC;have e1:wi64 (((p+1:Nat):Int)-1)=(p:Int):=by rw[zD]<;>omega
 simp (disch:=omega) only[zB4,zDR n hn,Option.bind_some,getTV_here,e1,decide_eq_true,cond_true,Bool.and_true,Int.toNat_natCast,zOu,zPR h hn]
theorem zI0 (n p:Nat) (h:p+1<n) (hn:n≤8):R zCe [tI ((p+1:Nat):Int),tI (n:Int)]=some [tA8 (sA (Pm.swap n p h))]:=by
 apply zLX;have e1:wi64 (((p+1:Nat):Int)-1)=(p:Int):=by rw[zD]<;>omega
 simp (disch:=omega) only[zEi,zBF n hn,Option.bind_some,getTV_here,e1,decide_eq_true,cond_true,Bool.and_true,Int.toNat_natCast,jW,Pm.one_f,zPR h hn]
end Go.Ev.YtlkmkabnbegfdaaGreat
namespace Go.Ev.YtlkmkabnbegfdaaGreat
open Go.Ev Go.Gar
theorem zOv {p:Nat}(h:p<1000):wi64 (((p+1:Nat):Int)-1)=(p:Int):=by rw[zD]<;>omega
theorem zMR (n:Nat) (hn:n≤8) (a b:Pm n) (z:List Int):∀ (k d:Nat) (c:Pm n) (p:Nat),n*n≤c.cnt+k→p+d=n→c.le a→c.le b →
  (∀ q,q<p→q+1<n→c.g q<c.g (q+1)→¬ (a.f (c.g (q+1))<a.f (c.g q)∧b.f (c.g (q+1))<b.f (c.g q))) →
  R jO [tA8 (sA (c⁻¹*a)),tA8 (sA (c⁻¹*b)),tA8 z,tA8 (sA c),tI (n:Int),tI ((p+1:Nat):Int)]=some [tI 0,tA8 z,tA8 (sA (Pm.meet a b))]:=by
 intro k
 induction k with
 | zero=>
  intro d
  induction d with
  | zero=>
   intro c p hk hp ha hb hs;have e:=Pm.Greedy.eq ⟨ha,hb,fun q h1 h2=>hs q (by omega) h1 h2⟩;apply jM;have h1:¬ (((p+1:Nat):Int)<(n:Int)):=by omega
   simp only[kV,decide_eq_false h1,cond_false,e]
  | succ d ih=>
   intro c p hk hp ha hb hs;have stop:∀ q,q+1<n→c.g q<c.g (q+1)→¬ (a.f (c.g (q+1))<a.f (c.g q)∧b.f (c.g (q+1))<b.f (c.g q)):=by
    intro q hq h1 h2;have:=Pm.cnt_put1 (h:=hq) h1;have:=Pm.cnt_le (Pm.put1 c q hq);omega
   have e:=Pm.Greedy.eq ⟨ha,hb,stop⟩
   by_cases h0:p+1<n
   · have ih':=ih c (p+1) hk (by omega) ha hb (fun q _ h1 h2=>stop q h1 h2);apply jM;have e1:=zOv (p:=p) (by omega);have ga:=jW (s:=c⁻¹*a) (x:=p) (by omega) hn;have ga1:=jW (s:=c⁻¹*a) (x:=p+1) h0 hn;have gb:=jW (s:=c⁻¹*b) (x:=p) (by omega) hn;have gb1:=jW (s:=c⁻¹*b) (x:=p+1) h0 hn;simp only[Pm.mul_f,Pm.inv_f] at ga ga1 gb gb1;simp (disch:=omega) only[kV,e1,decide_eq_true,cond_true,Bool.and_true,Int.toNat_natCast,ga,ga1,gb,gb1,kz,ih']
     by_cases h1:a.f (c.g (p+1))<a.f (c.g p)
     · by_cases h2:b.f (c.g (p+1))<b.f (c.g p)
       · exfalso
         rcases Nat.lt_trichotomy (c.g p) (c.g (p+1)) with h3 | h3 | h3
         · exact stop p h0 h3 ⟨h1,h2⟩
         · have:=c.inj_g h3;omega
         · have:=ha _ _ h3 (by rw[c.fg,c.fg];omega);omega
       · simp[h2]
     · simp[h1]
   · apply jM;have h1:¬ (((p+1:Nat):Int)<(n:Int)):=by omega
     simp only[kV,decide_eq_false h1,cond_false,e]
 | succ k ihk=>
  intro d
  induction d with
  | zero=>
   intro c p hk hp ha hb hs;have e:=Pm.Greedy.eq ⟨ha,hb,fun q h1 h2=>hs q (by omega) h1 h2⟩;apply jM;have h1:¬ (((p+1:Nat):Int)<(n:Int)):=by omega
   simp only[kV,decide_eq_false h1,cond_false,e]
  | succ d ih=>
   intro c p hk hp ha hb hs
   by_cases h0:p+1<n
   · apply jM;have e1:=zOv (p:=p) (by omega);have ga:=jW (s:=c⁻¹*a) (x:=p) (by omega) hn;have ga1:=jW (s:=c⁻¹*a) (x:=p+1) h0 hn;have gb:=jW (s:=c⁻¹*b) (x:=p) (by omega) hn;have gb1:=jW (s:=c⁻¹*b) (x:=p+1) h0 hn;simp only[Pm.mul_f,Pm.inv_f] at ga ga1 gb gb1;simp (disch:=omega) only[kV,e1,decide_eq_true,cond_true,Bool.and_true,Int.toNat_natCast,ga,ga1,gb,gb1,kz]
     by_cases hc:a.f (c.g (p+1))<a.f (c.g p)∧b.f (c.g (p+1))<b.f (c.g p)
     · have h3:c.g p<c.g (p+1):=by
        rcases Nat.lt_trichotomy (c.g p) (c.g (p+1)) with h3 | h3 | h3
        · exact h3
        · have:=c.inj_g h3;omega
        · have:=ha _ _ h3 (by rw[c.fg,c.fg];omega);omega
       have:=Pm.cnt_put1 (h:=h0) h3;have e2:∀ x:Pm n,Pm.swap n p h0*(c⁻¹*x)=(Pm.put1 c p h0)⁻¹*x:=by
        intro x;apply Pm.ext;intro y
        rfl
       have ih':=ihk n (Pm.put1 c p h0) 0 (by omega) (by omega) (Pm.put1_le h3 ha hc.1) (Pm.put1_le h3 hb hc.2) (fun q h=>by omega);have e3:sA (Pm.put1 c p h0)=sA (c*Pm.swap n p h0):=rfl;rw[e3] at ih';have d1:((a.f (c.g (p+1)):Int)<(a.f (c.g p):Int)):=by omega
       have d2:((b.f (c.g (p+1)):Int)<(b.f (c.g p):Int)):=by omega
       simp only[decide_eq_true d1,decide_eq_true d2,cond_true,zAh n p h0 hn,zCL n hn,Option.bind_some,getTV_here,e2];exact ih'
     · have ih':=ih c (p+1) hk (by omega) ha hb (fun q h1 h2 h3=>by
        rcases Nat.lt_or_ge q p with h4 | h4
        · exact hs q h4 h2 h3
        · have:q=p:=by omega
          subst this;exact hc)
       by_cases h1:a.f (c.g (p+1))<a.f (c.g p)
       · have d1:((a.f (c.g (p+1)):Int)<(a.f (c.g p):Int)):=by omega
         have d2:¬ ((b.f (c.g (p+1)):Int)<(b.f (c.g p):Int)):=by omega
         rw[decide_eq_true d1,decide_eq_false d2,cond_true,cond_false];exact ih'
       · have d1:¬ ((a.f (c.g (p+1)):Int)<(a.f (c.g p):Int)):=by omega
         rw[decide_eq_false d1,cond_false];exact ih'
   · have e:=Pm.Greedy.eq ⟨ha,hb,fun q h1 h2=>hs q (by omega) h1 h2⟩;apply jM;have h1:¬ (((p+1:Nat):Int)<(n:Int)):=by omega
     simp only[kV,decide_eq_false h1,cond_false,e]
theorem zK9 (n:Nat) (hn:n≤8) (a b:Pm n):R zFs [tA8 (sA a),tA8 (sA b),tI (n:Int)]=some [tA8 (sA (Pm.meet a b))]:=by
 apply zNz;have h:=zMR n hn a b (List.replicate 8 0) (n*n) n 1 0 (by omega) (by omega) (Pm.one_le a) (Pm.one_le b) (fun q h=>by omega);have e1:(1:Pm n)⁻¹*a=a:=by rw[inv_one,Grp.one_mul]
 have e2:(1:Pm n)⁻¹*b=b:=by rw[inv_one,Grp.one_mul]
 rw[e1,e2] at h;simp only[zF4,zDR n hn,Option.bind_some,getTV_here,getTV_next];rw[show (1:Int)=((0+1:Nat):Int) from rfl,h];simp only[Option.bind_some,getTV_here,getTV_next]
def Bits (d:Nat) (P:Nat→Nat→Prop):Prop:=d<2^64∧∀ x y,x<8→y<8→(d.testBit (8*x+y)=true↔P x y)
theorem Bits.congr {d:Nat}{P Q:Nat→Nat→Prop}(h:Bits d P) (e:∀ x y,x<8→y<8→(P x y↔Q x y)):Bits d Q:=
 ⟨h.1,fun x y hx hy=>(h.2 x y hx hy).trans (e x y hx hy)⟩
theorem Bits.set {d:Nat}{P:Nat→Nat→Prop}{a b:Nat}(h:Bits d P) (ha:a<8) (hb:b<8):Bits (d ||| 2^(8*a+b)) (fun x y=>P x y∨(x=a∧y=b)):=by
 have h1:2^(8*a+b)<2^64:=Nat.pow_lt_pow_right (by omega) (by omega);refine⟨Nat.or_lt_two_pow h.1 h1,fun x y hx hy=>?_⟩;rw[Nat.testBit_or,Bool.or_eq_true,h.2 x y hx hy,Nat.testBit_two_pow];simp only[decide_eq_true_eq]
 constructor
 · rintro (h2 | h2)
   · exact .inl h2
   · right;omega
 · rintro (h2 | ⟨rfl,rfl⟩)
   · exact .inl h2
   · exact .inr rfl
theorem Bits.and {d e:Nat}{P Q:Nat→Nat→Prop}(h:Bits d P) (h':Bits e Q):Bits (d &&& e) (fun x y=>P x y∧Q x y):=by
 refine⟨Nat.and_lt_two_pow d h'.1,fun x y hx hy=>?_⟩;rw[Nat.testBit_and,Bool.and_eq_true,h.2 x y hx hy,h'.2 x y hx hy]
theorem zLB (n:Nat) (hn:n≤8) (s:Pm n) (Y:Nat) (hY:Y<n):∀ i,i≤Y→∀ d,Bits d (fun x y=>x<y∧s.f y<s.f x∧(y<Y∨(y=Y∧x<i))) →
  ∃ d',Bits d' (fun x y=>x<y∧s.f y<s.f x∧y<Y+1) ∧
   R jZ [tA8 (sA s),tU64 (d:Int),tI (Y:Int),tI (n:Int),tI (Y:Int),tI (Y:Int),tI (i:Int)]=some [tI 0,tA8 (sA s),tU64 (d':Int),tI (n:Int),tI (Y:Int)]:=by
 refine kX _ (fun d hd=>?_) (fun i hi ih d hd=>?_)
 · refine⟨d,hd.congr (fun x y hx hy=>?_),?_⟩
   · constructor
     · rintro ⟨h1,h2,h3⟩;exact⟨h1,h2,by omega⟩
     · rintro ⟨h1,h2,h3⟩;exact⟨h1,h2,by omega⟩
   · apply zCU;simp[jg]
 · have e1:wi64 (wi64 (8*(i:Int))+(Y:Int))=((8*i+Y:Nat):Int):=by
    rw[zD (x:=8*(i:Int)) (by omega) (by omega),zD]<;>omega
   by_cases h:s.f Y<s.f i
   · obtain⟨d',h1,h2⟩:=ih (d ||| 2^(8*i+Y)) ((hd.set (a:=i) (b:=Y) (by omega) (by omega)).congr (fun x y hx hy=>by
      constructor
      · rintro (⟨h1,h2,h3⟩ | ⟨rfl,rfl⟩)
        · exact⟨h1,h2,by omega⟩
        · exact⟨hi,h,by omega⟩
      · rintro ⟨h1,h2,h3⟩
        by_cases h4:x=i∧y=Y
        · exact .inr h4
        · exact .inl ⟨h1,h2,by omega⟩))
     refine⟨d',h1,?_⟩;apply zCU;have d1:((s.f Y:Int)<(s.f i:Int)):=by omega
     have e2:bitsOr .u64 (d:Int) (shl .u64 1 ((8*i+Y:Nat):Int))=((d ||| 2^(8*i+Y):Nat):Int):=by
      rw[zTY (by omega),zOn hd.1 (Nat.pow_lt_pow_right (by omega) (by omega))]
     simp (disch:=omega) only[jg,decide_eq_true,cond_true,Bool.and_true,Int.toNat_natCast,kz,jW,e1,e2,h2]
   · obtain⟨d',h1,h2⟩:=ih d (hd.congr (fun x y hx hy=>by
      constructor
      · rintro ⟨h1,h2,h3⟩;exact⟨h1,h2,by omega⟩
      · rintro ⟨h1,h2,h3⟩;refine⟨h1,h2,?_⟩
        by_cases h4:x=i∧y=Y
        · rw[h4.1,h4.2] at h2;exact (h h2).elim
        · omega))
     refine⟨d',h1,?_⟩;apply zCU;have d1:¬ ((s.f Y:Int)<(s.f i:Int)):=by omega
     simp (disch:=omega) only[jg,decide_eq_true,decide_eq_false d1,cond_true,cond_false,Bool.and_true,Int.toNat_natCast,kz,jW,h2]
theorem zLC (n:Nat) (hn:n≤8) (s:Pm n):∀ i,i≤n→∀ d,Bits d (fun x y=>x<y∧s.f y<s.f x∧y<i) →
  ∃ d',Bits d' (fun x y=>x<y∧s.f y<s.f x)∧R zAg [tA8 (sA s),tU64 (d:Int),tI (n:Int),tI (i:Int)]=some [tI 0,tU64 (d':Int)]:=by
 refine kX _ (fun d hd=>?_) (fun i hi ih d hd=>?_)
 · refine⟨d,hd.congr (fun x y hx hy=>?_),?_⟩
   · constructor
     · rintro ⟨h1,h2,h3⟩;exact⟨h1,h2⟩
     · rintro ⟨h1,h2⟩;exact⟨h1,h2,Pm.below h1 h2⟩
   · apply zEs;simp[zAo]
 · obtain⟨d1,h1,h2⟩:=zLB n hn s i hi 0 (Nat.zero_le _) d (hd.congr (fun x y hx hy=>by
    constructor
    · rintro ⟨h1,h2,h3⟩;exact⟨h1,h2,.inl h3⟩
    · rintro ⟨h1,h2,h3⟩;exact⟨h1,h2,by omega⟩))
   obtain⟨d2,h3,h4⟩:=ih d1 h1;refine⟨d2,h3,?_⟩;apply zEs;simp only[Int.natCast_zero] at h2;simp (disch:=omega) only[zAo,decide_eq_true,cond_true,h2,Option.bind_some,getTV_here,getTV_next,kz,h4]
theorem zI1 (n:Nat) (hn:n≤8) (s:Pm n):∃ d,Bits d (fun x y=>x<y∧s.f y<s.f x)∧R zCf [tA8 (sA s),tI (n:Int)]=some [tU64 (d:Int)]:=by
 obtain⟨d,h1,h2⟩:=zLC n hn s 0 (Nat.zero_le _) 0 ⟨by omega,fun x y hx hy=>by simp⟩;refine⟨d,h1,?_⟩;apply zLY;simp only[Int.natCast_zero] at h2;simp only[zEj,h2,Option.bind_some,getTV_here,getTV_next]
theorem zTb {n:Nat}(hn:n≤8) (c:Pm n) (p:Nat) (h:p+1<n):List.set (List.set (sA c⁻¹) p (c.g (p+1):Int)) (p+1) (c.g p:Int)=sA (Pm.put1 c p h)⁻¹:=by
 rw[show sA c⁻¹=A8 n c.g from rfl,zCy (by omega) hn,zCy h hn];apply zc;intro x hx;show _=c.g (Pm.sf p x);unfold Pm.sf
 by_cases h1:x=p+1
 · subst h1;simp
 · by_cases h2:x=p
   · subst h2;simp
   · simp[h1,h2]
def StopAt {n:Nat}(a b c:Pm n) (q:Nat):Prop:=c.g q<c.g (q+1)→¬ (a.f (c.g (q+1))<a.f (c.g q)∧b.f (c.g (q+1))<b.f (c.g q))
theorem zSC (n:Nat) (hn:n≤8) (a b:Pm n) (m:Nat) (hm:Bits m (fun x y=>(x<y∧a.f y<a.f x)∧(x<y∧b.f y<b.f x))) (z:List Int):
  ∀ (d p:Nat),p+d=n→∀ (c:Pm n) (fl:Bool),c.le a→c.le b→∃ c' fl',c'.le a∧c'.le b∧c.cnt≤c'.cnt∧(fl'=false→fl=false∧c'=c∧∀ q,p≤q→q+1<n→StopAt a b c q)∧(fl'=true→fl=true∨c.cnt<c'.cnt) ∧
   R zCF [tA8 z,tA8 (sA c⁻¹),tI (n:Int),tU64 (m:Int),tB fl,tI ((p+1:Nat):Int)]=some [tI 0,tA8 z,tA8 (sA c'⁻¹),tI (n:Int),tU64 (m:Int),tB fl']:=by
 intro d
 induction d with
 | zero=>
  intro p hp c fl ha hb;refine⟨c,fl,ha,hb,Nat.le_refl _,fun h=>⟨h,rfl,fun q h1 h2=>by omega⟩,fun h=>.inl h,?_⟩;apply zC1;have h1:¬ (((p+1:Nat):Int)<(n:Int)):=by omega
  simp only[zBJ,decide_eq_false h1,cond_false]
 | succ d ih=>
  intro p hp c fl ha hb
  by_cases h0:p+1<n
  · have e1:=zOv (p:=p) (by omega);have l0:=c.lt_g (show p<n by omega);have l1:=c.lt_g h0;have g0:=jW (s:=c⁻¹) (x:=p) (by omega) hn;have g1:=jW (s:=c⁻¹) (x:=p+1) h0 hn;simp only[Pm.inv_f] at g0 g1
    by_cases h1:c.g p<c.g (p+1)
    · have e2:wu8 (wu8 (8*(c.g p:Int))+(c.g (p+1):Int))=((8*c.g p+c.g (p+1):Nat):Int):=by
       rw[zG4 (x:=8*(c.g p:Int)) (by omega) (by omega),zG4]<;>omega
      have e3:=zVD (d:=m) (k:=8*c.g p+c.g (p+1)) hm.1 (by omega);have e4:=hm.2 (c.g p) (c.g (p+1)) (by omega) (by omega);have d1:((c.g p:Int)<(c.g (p+1):Int)):=by omega
      by_cases h2:a.f (c.g (p+1))<a.f (c.g p)∧b.f (c.g (p+1))<b.f (c.g p)
      · have hcn:=Pm.cnt_put1 (h:=h0) h1;obtain⟨c',fl',q1,q2,q3,q4,q5,q6⟩:=ih (p+1) (by omega) (Pm.put1 c p h0) true (Pm.put1_le h1 ha h2.1) (Pm.put1_le h1 hb h2.2);refine⟨c',fl',q1,q2,by omega,fun h=>absurd (q4 h).1 (by simp),fun _=>.inr (by omega),?_⟩;apply zC1;have e5:m.testBit (8*c.g p+c.g (p+1))=true:=e4.2 ⟨⟨h1,h2.1⟩,h1,h2.2⟩;simp (disch:=omega) only[zBJ,e1,decide_eq_true,cond_true,Bool.and_true,Int.toNat_natCast,g0,g1,e2,e3,e5,kz,zTb hn c p h0];exact q6
      · obtain⟨c',fl',q1,q2,q3,q4,q5,q6⟩:=ih (p+1) (by omega) c fl ha hb
        refine⟨c',fl',q1,q2,q3,fun h=>⟨(q4 h).1,(q4 h).2.1,fun q h3 h4=>?_⟩,q5,?_⟩
        · rcases Nat.lt_or_ge p q with h5 | h5
          · exact (q4 h).2.2 q (by omega) h4
          · have:q=p:=by omega
            subst this;exact fun _=>h2
        · apply zC1;have e5:m.testBit (8*c.g p+c.g (p+1))=false:=by
           rw[Bool.eq_false_iff];intro h;exact h2 ⟨(e4.1 h).1.2,(e4.1 h).2.2⟩
          simp (disch:=omega) only[zBJ,e1,decide_eq_true,cond_true,cond_false,Bool.and_true,Int.toNat_natCast,g0,g1,e2,e3,e5,kz];exact q6
    · obtain⟨c',fl',q1,q2,q3,q4,q5,q6⟩:=ih (p+1) (by omega) c fl ha hb
      refine⟨c',fl',q1,q2,q3,fun h=>⟨(q4 h).1,(q4 h).2.1,fun q h3 h4=>?_⟩,q5,?_⟩
      · rcases Nat.lt_or_ge p q with h5 | h5
        · exact (q4 h).2.2 q (by omega) h4
        · have:q=p:=by omega
          subst this;exact fun h=>(h1 h).elim
      · apply zC1;have d1:¬ ((c.g p:Int)<(c.g (p+1):Int)):=by omega
        simp (disch:=omega) only[zBJ,e1,decide_eq_true,decide_eq_false d1,cond_true,cond_false,Bool.and_true,Int.toNat_natCast,g0,g1,kz];exact q6
  · refine⟨c,fl,ha,hb,Nat.le_refl _,fun h=>⟨h,rfl,fun q h1 h2=>by omega⟩,fun h=>.inl h,?_⟩;apply zC1;have h1:¬ (((p+1:Nat):Int)<(n:Int)):=by omega
    simp only[zBJ,decide_eq_false h1,cond_false]
theorem zSD (n:Nat) (hn:n≤8) (a b:Pm n) (m:Nat) (hm:Bits m (fun x y=>(x<y∧a.f y<a.f x)∧(x<y∧b.f y<b.f x))) (z:List Int):
  ∀ (k:Nat) (c:Pm n),n*n<c.cnt+k→c.le a→c.le b→R zFJ [tA8 z,tA8 (sA c⁻¹),tI (n:Int),tU64 (m:Int),tB true]=some [tI 0,tA8 z,tA8 (sA (Pm.meet a b)⁻¹),tI (n:Int)]:=by
 intro k
 induction k with
 | zero=>
  intro c hk;have:=Pm.cnt_le c;omega
 | succ k ih=>
  intro c hk ha hb;obtain⟨c',fl',q1,q2,q3,q4,q5,q6⟩:=zSC n hn a b m hm z n 0 (by omega) c false ha hb;apply zJ0;simp only[Nat.zero_add] at q6;rw[show ((1:Nat):Int)=1 from rfl] at q6;simp only[zFW,cond_true,q6,Option.bind_some,getTV_here,getTV_next]
  cases fl' with
  | true=>
   have:=q5 rfl;simp only[Bool.false_eq_true,false_or] at this;exact ih c' (by omega) q1 q2
  | false=>
   obtain⟨_,r2,r3⟩:=q4 rfl;subst r2;have e:=Pm.Greedy.eq ⟨q1,q2,fun q h1 h2=>r3 q (Nat.zero_le _) h1 h2⟩;apply zJ0;simp only[zFW,cond_false,e]
theorem zS8 (n:Nat) (hn:n≤8) (a b:Pm n):R zL3 [tA8 (sA a),tA8 (sA b),tI (n:Int)]=some [tA8 (sA (Pm.meet a b))]:=by
 obtain⟨d,h1,h2⟩:=zI1 n hn a;obtain⟨e,h3,h4⟩:=zI1 n hn b;have h5:=zSD n hn a b (d &&& e) (h1.and h3) (List.replicate 8 0) (n*n+1) 1 (by omega) (Pm.one_le a) (Pm.one_le b);rw[inv_one] at h5;apply zTQ;simp only[zMj,h2,h4,zBF n hn,Option.bind_some,getTV_here,getTV_next,zH5 h1.1 h3.1,h5,zG1 n hn,zBA]
end Go.Ev.YtlkmkabnbegfdaaGreat
namespace Go.Ev.YtlkmkabnbegfdaaGreat
open Go.Ev Go.Gar
def sL {n:Nat}(l:List (Pm n)):List (List Int):=l.map sA
theorem kO {n:Nat}(l:List (Pm n)):(sL l).length=l.length:=by simp[sL]
theorem zCx {n:Nat}{l:List (Pm n)}{i:Nat}(h:i<l.length):List.getD (sL l) i (List.replicate 8 0)=sA l[i]:=by
 simp[sL,List.getD_eq_getElem?_getD,h]
theorem zPQ {n:Nat}(l:List (Pm n)) (i:Nat) (s:Pm n):List.set (sL l) i (sA s)=sL (l.set i s):=by
 simp[sL]
theorem zJI {n:Nat}(l:List (Pm n)) (s:Pm n):sL l++[sA s]=sL (l++[s]):=by simp[sL]
theorem zTa {n:Nat}(l:List (Pm n)) (k:Nat):List.drop k (sL l)=sL (l.drop k):=by simp[sL]
theorem zPP {n:Nat}(l:List (Pm n)) (k:Nat):List.take k (sL l)=sL (l.take k):=by simp[sL]
theorem zBO (n:Nat):sL ([]:List (Pm n))=[]:=rfl
instance {n:Nat}:DecidableEq (Pm n):=fun a b=>decidable_of_iff (∀ x,x<n→a.f x=b.f x)
 ⟨fun h=>Pm.ext fun x=>by
  by_cases hx:x<n
  · exact h x hx
  · rw[a.out x (by omega),b.out x (by omega)],fun h x _=>by rw[h]⟩
theorem zA2 {α:Type}{X:List α}{k:Nat}(hk:k<X.length):X.take (k+1)=X.take k++[X[k]]:=by
 rw[List.take_add_one,List.getElem?_eq_getElem hk]
 rfl
theorem zIA {n:Nat}(hn:n≤8) (s t:Pm n):(sA s==sA t)=decide (s=t):=by
 rw[Bool.eq_iff_iff,beq_iff_eq,decide_eq_true_eq,zVV hn]
theorem allS {n:Nat}(l:List (Pm n)):(Pm.lat n).AllS l:=fun _ _=>trivial
theorem zRm {n:Nat}(a b:Pm n):Pm.meet (a⁻¹*Pm.half n) b=(Pm.lat n).meet ((Pm.lat n).K a) b:=rfl
theorem zQR {n:Nat}{X:List (Pm n)}{k:Nat}(hk:k<X.length) (b:Pm n) (m:List (Pm n)):
  ∃ (h1:k<(X.take (k+1)++b::m).length) (h2:k+1<(X.take (k+1)++b::m).length),(X.take (k+1)++b::m)[k]=X[k]∧(X.take (k+1)++b::m)[k+1]=b:=by
 have e:(X.take (k+1)).length=k+1:=by simp;omega
 refine⟨by simp;omega,by simp;omega,?_,?_⟩
 · rw[List.getElem_append_left (by omega)];simp
 · rw[List.getElem_append_right (by omega)];simp[e]
theorem zQQ {n:Nat}{X:List (Pm n)}{k:Nat}(hk:k<X.length) (b x y:Pm n) (m:List (Pm n)):
  ((X.take (k+1)++b::m).set k x).set (k+1) y=X.take k++x::y::m:=by
 have e:X.take (k+1)=X.take k++[X[k]]:=zA2 hk;have e1:(X.take k).length=k:=by simp;omega
 rw[e,List.append_assoc];rw[List.set_append_right _ _ (by omega),e1,Nat.sub_self];rw[List.set_append_right _ _ (by omega),e1,show k+1-k=1 by omega]
 rfl
theorem zKL {n:Nat}{X:List (Pm n)}{k:Nat}(hk:k<X.length):(Pm.lat n).pass (X.drop k)=(Pm.lat n).step1 X[k] ((Pm.lat n).pass (X.drop (k+1))):=by
 rw[List.drop_eq_getElem_cons hk]
 rfl
theorem zGe (n:Nat) (hn:n≤8) (X:List (Pm n)) (hX:X.length<1000000):∀ k,k<X.length→∀ mv:Bool,
  ∃ mv',(mv'=false→mv=false∧(Pm.lat n).pass X=X.take k++(Pm.lat n).pass (X.drop k))∧(mv'=true→mv=true∨¬ (Pm.lat n).Wd X) ∧
   R kd [tLA8 (sL (X.take k++(Pm.lat n).pass (X.drop k))),tI (n:Int),tB mv,tI ((k:Int)-1)]=some [tI 0,tLA8 (sL ((Pm.lat n).pass X)),tI (n:Int),tB mv']:=by
 intro k
 induction k with
 | zero=>
  intro _ mv;refine⟨mv,fun h=>⟨h,by simp⟩,fun h=>.inl h,?_⟩;apply jT;simp[kf]
 | succ k ih=>
  intro hk mv;have hk':k<X.length:=by omega
  have hlen:=(Pm.lat n).pass_len (l:=X.drop (k+1));have hd:=zKL hk'
  cases hp:(Pm.lat n).pass (X.drop (k+1)) with
  | nil=>
   rw[hp] at hlen;simp at hlen;omega
  | cons b m=>
   rw[hp] at hd;obtain⟨l1,l2,g1,g2⟩:=zQR hk' b m;have e1:wi64 ((k:Int)+1)=((k+1:Nat):Int):=by rw[zD]<;>omega
   have e2:wi64 ((k:Int)-1)=(k:Int)-1:=by rw[zD]<;>omega
   have len:(X.take (k+1)++b::m).length=X.length:=by
    rw[hp] at hlen;simp at hlen ⊢;omega
   have gg1:=zCx (n:=n) l1;have gg2:=zCx (n:=n) l2;rw[g1] at gg1;rw[g2] at gg2;have tk:X.take (k+1)=X.take k++[X[k]]:=zA2 hk'
   by_cases hc:Pm.meet (X[k]⁻¹*Pm.half n) b=1
   · have hst:(Pm.lat n).pass (X.drop k)=X[k]::b::m:=by
      rw[hd,Lat.step1,← zRm,hc,Grp.mul_one,inv_one,Grp.one_mul]
     obtain⟨mv',q1,q2,q3⟩:=ih hk' mv;have ecur:X.take k++(Pm.lat n).pass (X.drop k)=X.take (k+1)++b::m:=by
      rw[hst,tk,List.append_assoc]
      rfl
     rw[ecur] at q1 q3;refine⟨mv',fun h=>⟨(q1 h).1,(q1 h).2⟩,q2,?_⟩;apply jT;rw[show ((k+1:Nat):Int)-1=(k:Int) by omega];simp (disch:=omega) only[kf,decide_eq_true,cond_true,Bool.and_true,Int.toNat_natCast,kO,len,gg1,gg2,e1,zDT n hn,zK9 n hn,zDR n hn,Option.bind_some,getTV_here,hc,beq_self_eq_true,e2];exact q3
   · have hst:(Pm.lat n).pass (X.drop k)=(X[k]*Pm.meet (X[k]⁻¹*Pm.half n) b)::((Pm.meet (X[k]⁻¹*Pm.half n) b)⁻¹*b)::m:=by
      rw[hd,Lat.step1,← zRm]
     obtain⟨mv',q1,q2,q3⟩:=ih hk' true;rw[hst] at q3;have wd:¬ (Pm.lat n).Wd X:=by
      intro hW;have hpf:=Lat.pass_fix hW;have hW2:∀ j,(Pm.lat n).Wd (X.drop j):=by
       intro j
       induction j with
       | zero=>exact hW
       | succ j ihj=>
        rw[← List.drop_drop]
        cases hx:X.drop j with
        | nil=>exact trivial
        | cons u v=>
         rw[hx] at ihj;exact ihj.2
      have:=Lat.pass_fix (hW2 (k+1));rw[hp] at this;have h2:=hW2 k;rw[List.drop_eq_getElem_cons hk',← this] at h2;exact hc (h2.1 b rfl)
     refine⟨mv',fun h=>absurd (q1 h).1 (by simp),fun h=>.inr wd,?_⟩;have e3:=zQQ hk' b (X[k]*Pm.meet (X[k]⁻¹*Pm.half n) b) ((Pm.meet (X[k]⁻¹*Pm.half n) b)⁻¹*b) m;have l3:k+1<((X.take (k+1)++b::m).set k (X[k]*Pm.meet (X[k]⁻¹*Pm.half n) b)).length:=by rw[List.length_set];exact l2
     have gg3:=zCx (n:=n) l3;have g3:((X.take (k+1)++b::m).set k (X[k]*Pm.meet (X[k]⁻¹*Pm.half n) b))[k+1]=b:=by
      rw[List.getElem_set_ne (by omega),g2]
     rw[g3] at gg3;apply jT;rw[show ((k+1:Nat):Int)-1=(k:Int) by omega];have hb:(sA (Pm.meet (X[k]⁻¹*Pm.half n) b)==sA (1:Pm n))=false:=by rw[zIA hn];simpa using hc
     simp (disch:=omega) only[kf,decide_eq_true,cond_true,cond_false,Bool.and_true,Int.toNat_natCast,kO,List.length_set,len,gg1,gg2,e1,zDT n hn,zK9 n hn,zDR n hn,Option.bind_some,getTV_here,hb,e2,zCL n hn,zH0 n hn,zPQ,gg3,e3];exact q3
theorem zK4 (n:Nat) (hn:n≤8):∀ (j:Nat) (X:List (Pm n)),X.length<1000000→(Pm.lat n).iter j X=(Pm.lat n).nf X →
  R kJ [tLA8 (sL X),tI (n:Int),tB true]=some [tI 0,tLA8 (sL ((Pm.lat n).nf X))]:=by
 intro j
 induction j with
 | zero=>
  intro X hX hj;have hW:(Pm.lat n).Wd X:=by
   have:=Lat.nf_Wd (allS X);rw[← hj] at this;exact this
  have hpx:=Lat.pass_fix hW;have hnx:=Lat.nf_fix hW;apply kt
  cases X with
  | nil=>
   have h1:R kd [tLA8 (sL ([]:List (Pm n))),tI (n:Int),tB false,tI (-2)]=some [tI 0,tLA8 (sL ([]:List (Pm n))),tI (n:Int),tB false]:=by
    apply jT;simp[kf]
   have h2:R kJ [tLA8 (sL ([]:List (Pm n))),tI (n:Int),tB false]=some [tI 0,tLA8 (sL ([]:List (Pm n)))]:=by
    apply kt;simp[zk]
   have e2:wi64 (((([]:List (List Int)).length:Nat):Int)-2)=-2:=by decide
   simp only[zk,cond_true,zBO,e2] at h1 h2 ⊢;simp[h1,h2,hnx,zBO]
  | cons a X=>
   obtain⟨mv',q1,q2,q3⟩:=zGe n hn (a::X) hX X.length (by simp) false;have hd:(a::X).take X.length++(Pm.lat n).pass ((a::X).drop X.length)=a::X:=by
    have hWd:(Pm.lat n).pass ((a::X).drop X.length)=(a::X).drop X.length:=by
     have h1:((a::X).drop X.length).length=1:=by simp
     match h2:(a::X).drop X.length,h1 with
     | [y],_=>rfl
    rw[hWd,List.take_append_drop]
   rw[hd] at q1 q3;have e2:wi64 (((sL (a::X)).length:Nat)-2)=(X.length:Int)-1:=by
    simp only[List.length_cons] at hX;rw[kO,List.length_cons,zD]<;>omega
   have hmv:mv'=false:=by
    cases mv' with
    | false=>rfl
    | true=>
     rcases q2 rfl with h | h
     · simp at h
     · exact (h hW).elim
   subst hmv;have h2:R kJ [tLA8 (sL ((Pm.lat n).pass (a::X))),tI (n:Int),tB false]=some [tI 0,tLA8 (sL ((Pm.lat n).pass (a::X)))]:=by
    apply kt;simp[zk]
   rw[hpx] at q3 h2;simp only[zk,cond_true,e2,q3,Option.bind_some,getTV_here,getTV_next,h2,hnx]
 | succ j ih=>
  intro X hX hj;apply kt
  cases X with
  | nil=>
   have h1:R kd [tLA8 (sL ([]:List (Pm n))),tI (n:Int),tB false,tI (-2)]=some [tI 0,tLA8 (sL ([]:List (Pm n))),tI (n:Int),tB false]:=by
    apply jT;simp[kf]
   have h2:R kJ [tLA8 (sL ([]:List (Pm n))),tI (n:Int),tB false]=some [tI 0,tLA8 (sL ([]:List (Pm n)))]:=by
    apply kt;simp[zk]
   have e2:wi64 (((([]:List (List Int)).length:Nat):Int)-2)=-2:=by decide
   have hnx:(Pm.lat n).nf []=[]:=rfl;simp only[zk,cond_true,zBO,e2] at h1 h2 ⊢;simp[h1,h2,hnx,zBO]
  | cons a X=>
   obtain⟨mv',q1,q2,q3⟩:=zGe n hn (a::X) hX X.length (by simp) false;have hd:(a::X).take X.length++(Pm.lat n).pass ((a::X).drop X.length)=a::X:=by
    have hWd:(Pm.lat n).pass ((a::X).drop X.length)=(a::X).drop X.length:=by
     have h1:((a::X).drop X.length).length=1:=by simp
     match h2:(a::X).drop X.length,h1 with
     | [y],_=>rfl
    rw[hWd,List.take_append_drop]
   rw[hd] at q1 q3;have e2:wi64 (((sL (a::X)).length:Nat)-2)=(X.length:Int)-1:=by
    simp only[List.length_cons] at hX;rw[kO,List.length_cons,zD]<;>omega
   have hnp:=Lat.nf_pass (allS (a::X));have hlp:=(Pm.lat n).pass_len (l:=a::X)
   cases mv' with
   | false=>
    have hpx:=(q1 rfl).2;have hnx:(Pm.lat n).nf (a::X)=a::X:=by
     have h3:∀ i,(Pm.lat n).iter i (a::X)=a::X:=by
      intro i
      induction i with
      | zero=>rfl
      | succ i ihi=>rw[Lat.iter_succ,ihi,hpx]
     rw[← hj,h3]
    have h2:R kJ [tLA8 (sL ((Pm.lat n).pass (a::X))),tI (n:Int),tB false]=some [tI 0,tLA8 (sL ((Pm.lat n).pass (a::X)))]:=by
     apply kt;simp[zk]
    have hpx':(Pm.lat n).pass (a::X)=a::X:=hpx;rw[hpx'] at q3 h2;simp only[zk,cond_true,e2,q3,Option.bind_some,getTV_here,getTV_next,h2,hnx]
   | true=>
    have h2:=ih ((Pm.lat n).pass (a::X)) (by rw[hlp];exact hX) (by rw[Lat.iter_pass,hj,hnp]);rw[hnp] at h2;simp only[zk,cond_true,e2,q3,Option.bind_some,getTV_here,getTV_next,h2]
theorem zIz (n:Nat) (hn:n≤8) (X:List (Pm n)) (hX:X.length<1000000):R zEM [tLA8 (sL X),tI (n:Int)]=some [tLA8 (sL ((Pm.lat n).nf X))]:=by
 apply zLN;have h:=zK4 n hn X.length X hX (Lat.iter_nf _ (Nat.le_refl _) (allS X));simp only[zEZ,zOo (ys:=sL X) (by rw[kO];omega),cond_true,h,Option.bind_some,getTV_here,getTV_next]
end Go.Ev.YtlkmkabnbegfdaaGreat
namespace Go.Ev.YtlkmkabnbegfdaaGreat
open Go.Ev Go.Gar
theorem zMe {G:Type} [Grp G] [DecidableEq G]:∀ (m:List G) (x:G),Lat.bk (m++[x])=if x=1 then Lat.bk m else m++[x]
 | [],x=>by
  simp only[List.nil_append,Lat.bk]
 | a::m,x=>by
  have ih:=zMe m x;show Lat.bk (a::(m++[x]))=_;unfold Lat.bk;rw[ih]
  by_cases h:x=1
  · simp only[if_pos h]
  · simp only[if_neg h]
    cases m<;>rfl
theorem zS9 {G:Type} [Grp G] [DecidableEq G]:∀ (m:List G),(Lat.bk m).length≤m.length
 | []=>by simp[Lat.bk]
 | a::m=>by
  have ih:=zS9 m;unfold Lat.bk
  cases h:Lat.bk m with
  | nil=>
   simp only;split<;>simp
  | cons b k=>
   rw[h] at ih;simp at ih ⊢;exact ih
theorem zQu {G:Type} [Grp G] [DecidableEq G]:∀ (m:List G),Lat.bk m=m.take (Lat.bk m).length
 | []=>rfl
 | a::m=>by
  have ih:=zQu m;unfold Lat.bk
  cases h:Lat.bk m with
  | nil=>
   simp only;split<;>simp
  | cons b k=>
   rw[h] at ih;simp only[List.length_cons,List.take_succ_cons] at ih ⊢;rw[← ih]
theorem zL5 {G:Type} [Grp G] [DecidableEq G] (Γ:Lat G):∀ (l:List G),l.drop (Γ.fr l).1=(Γ.fr l).2∧(Γ.fr l).1≤l.length
 | []=>by simp[Lat.fr]
 | a::l=>by
  have ih:=zL5 Γ l;unfold Lat.fr
  by_cases h:a=Γ.D
  · simp only[if_pos h,List.drop_succ_cons,List.length_cons];exact⟨ih.1,by omega⟩
  · simp only[if_neg h];simp
theorem zMM (n:Nat) (hn:n≤8) (Y:List (Pm n)) (hY:Y.length<1000000) (a b:Int) (u:List (List Int)):∀ (d i:Nat) (p:Int),i+d=Y.length→-1000000000≤p→p≤1000000000 →
  R zAC [tLA8 (sL Y),tI a,tI b,tLA8 u,tI (n:Int),tI p,tI (i:Int),tI (Y.length:Int)]=
   some [tI 0,tLA8 (sL Y),tI a,tI b,tLA8 u,tI (n:Int),tI (p+(((Pm.lat n).fr (Y.drop i)).1:Nat)),tI ((i+((Pm.lat n).fr (Y.drop i)).1:Nat):Int),tI (Y.length:Int)]:=by
 suffices ∀ (d i:Nat) (p:Int),i+d=Y.length→-1000000000≤p→p+d≤1001000000 →
   R zAC [tLA8 (sL Y),tI a,tI b,tLA8 u,tI (n:Int),tI p,tI (i:Int),tI (Y.length:Int)]=
   some [tI 0,tLA8 (sL Y),tI a,tI b,tLA8 u,tI (n:Int),tI (p+(((Pm.lat n).fr (Y.drop i)).1:Nat)),tI ((i+((Pm.lat n).fr (Y.drop i)).1:Nat):Int),tI (Y.length:Int)] by
  intro d i p h1 h2 h3;exact this d i p h1 h2 (by omega)
 intro d
 induction d with
 | zero=>
  intro i p hi hp hp';apply zGI;have h1:¬ ((i:Int)<(Y.length:Int)):=by omega
  rw[List.drop_of_length_le (by omega)];simp only[zBk,decide_eq_false h1,cond_false,Lat.fr];simp
 | succ d ih=>
  intro i p hi hp hp';have h0:i<Y.length:=by omega
  apply zGI;rw[List.drop_eq_getElem_cons h0];simp (disch:=omega) only[zBk,decide_eq_true,cond_true,Bool.and_true,Int.toNat_natCast,kO,zCx h0,zDS n hn,Option.bind_some,getTV_here,zIA hn,zD];unfold Lat.fr
  by_cases h:Y[i]=Pm.half n
  · have h':Y[i]=(Pm.lat n).D:=h;rw[decide_eq_true h,cond_true,if_pos h',show (i:Int)+1=((i+1:Nat):Int) by omega,ih (i+1) (p+1) (by omega) (by omega) (by omega)];simp only;rw[show p+1+(((Pm.lat n).fr (Y.drop (i+1))).1:Int)=p+((((Pm.lat n).fr (Y.drop (i+1))).1+1:Nat):Int) by omega,show i+1+((Pm.lat n).fr (Y.drop (i+1))).1=i+(((Pm.lat n).fr (Y.drop (i+1))).1+1) by omega]
  · have h':¬ Y[i]=(Pm.lat n).D:=h;rw[decide_eq_false h,cond_false,if_neg h'];simp
theorem zHy (n:Nat) (hn:n≤8) (Y:List (Pm n)) (hY:Y.length<1000000) (a b p:Int) (u:List (List Int)) (i:Nat):∀ (d:Nat),i+d≤Y.length →
  R zAB [tLA8 (sL Y),tI a,tI b,tLA8 u,tI (n:Int),tI p,tI (i:Int),tI ((i+d:Nat):Int)]=
   some [tI 0,tLA8 (sL Y),tI a,tI b,tLA8 u,tI (n:Int),tI p,tI (i:Int),tI ((i+(Lat.bk ((Y.drop i).take d)).length:Nat):Int)]:=by
 intro d
 induction d with
 | zero=>
  intro hd;apply zGH;simp[zBj,Lat.bk]
 | succ d ih=>
  intro hd;have h0:i+d<Y.length:=by omega
  apply zGH;have e1:wi64 (((i+(d+1):Nat):Int)-1)=((i+d:Nat):Int):=by rw[zD]<;>omega
  have e2:(Y.drop i).take (d+1)=(Y.drop i).take d++[Y[i+d]]:=by
   have:d<(Y.drop i).length:=by simp;omega
   rw[zA2 this];simp
  simp (disch:=omega) only[zBj,decide_eq_true,cond_true,Bool.and_true,Int.toNat_natCast,kO,e1,zCx h0,zDR n hn,Option.bind_some,getTV_here,zIA hn];rw[e2,zMe]
  by_cases h:Y[i+d]=1
  · rw[decide_eq_true h,cond_true,if_pos h,ih (by omega)]
  · rw[decide_eq_false h,cond_false,if_neg h];have:((Y.drop i).take d++[Y[i+d]]).length=d+1:=by simp;omega
    rw[this]
abbrev Nm (n:Nat):=Int×List (Pm n)
def enc {n:Nat}(v:Nm n):Int×Int×List (List Int):=((n:Int),v.1,sL v.2)
noncomputable def mk {n:Nat}(p:Int) (l:List (Pm n)):Nm n:=(p+(((Pm.lat n).norm l).1:Nat),((Pm.lat n).norm l).2)
theorem zBD {n:Nat}(h:2≤n):(Pm.lat n).D≠1:=by
 intro e;have:=congrArg (fun s:Pm n=>s.f 0) e
 change Pm.hf n 0=0 at this
 unfold Pm.hf at this;split at this<;>omega
theorem zPu {n:Nat}(p:Int):mk p ([]:List (Pm n))=(p,[]):=by
 simp[mk,Lat.norm,Lat.nf,Lat.fr,Lat.bk]
theorem zK7 (n:Nat) (hn1:1≤n) (hn:n≤8) (l:List (Pm n)) (hl:l.length<1000000) (h1:n=1→l=[]) (p:Int) (hp:-1000000000≤p) (hp':p≤1000000000):
  R zDc [tI (n:Int),tI p,tLA8 (sL l)]=some [zK (enc (mk p l))]:=by
 apply zNt;have hlen:=(Pm.lat n).nf_len (l:=l)
 by_cases h2:n=1
 · have:=h1 h2;subst this;have hnf:(Pm.lat n).nf []=[]:=rfl;have h7:=zHy n hn [] (by simp) 0 0 p [] 0 0 (by simp);have h3:¬ ((1:Int)<(n:Int)):=by omega
   simp only[Int.natCast_zero,Nat.zero_add] at h7;have hw:=zIz n hn [] (by simp);rw[hnf,zBO] at hw;have hb:Lat.bk ([]:List (Pm n))=[]:=rfl;simp only[zBO,List.drop_nil,List.take_nil,hb,List.length_nil,Int.natCast_zero] at h7;simp only[zDi,zBO,hw,Option.bind_some,getTV_here,getTV_next,decide_eq_false h3,cond_false,List.length_nil,Int.natCast_zero,h7,Int.toNat_zero,List.take_nil,List.drop_nil,zPu,enc]
   rfl
 · have h3:((1:Int)<(n:Int)):=by omega
   have h4:=zMM n hn ((Pm.lat n).nf l) (by omega) 0 0 [] ((Pm.lat n).nf l).length 0 p (by omega) hp hp';have hf:=zL5 (Pm.lat n) ((Pm.lat n).nf l);have h7:=zHy n hn ((Pm.lat n).nf l) (by omega) 0 0 (p+(((Pm.lat n).fr ((Pm.lat n).nf l)).1:Nat)) [] ((Pm.lat n).fr ((Pm.lat n).nf l)).1 (((Pm.lat n).nf l).length-((Pm.lat n).fr ((Pm.lat n).nf l)).1) (by omega);rw[hf.1,show ((Pm.lat n).fr ((Pm.lat n).nf l)).1+(((Pm.lat n).nf l).length-((Pm.lat n).fr ((Pm.lat n).nf l)).1)=((Pm.lat n).nf l).length by omega] at h7;have hfl:((Pm.lat n).fr ((Pm.lat n).nf l)).2.length=((Pm.lat n).nf l).length-((Pm.lat n).fr ((Pm.lat n).nf l)).1:=by rw[← hf.1];simp
   rw[List.take_of_length_le (by omega)] at h7;simp only[List.drop_zero,Nat.zero_add,Int.natCast_zero] at h4;have hb:=zS9 ((Pm.lat n).fr ((Pm.lat n).nf l)).2;have ht:=zQu ((Pm.lat n).fr ((Pm.lat n).nf l)).2;have e1:List.drop ((Pm.lat n).fr ((Pm.lat n).nf l)).1 (List.take (((Pm.lat n).fr ((Pm.lat n).nf l)).1+(Lat.bk ((Pm.lat n).fr ((Pm.lat n).nf l)).2).length) ((Pm.lat n).nf l))=Lat.bk ((Pm.lat n).fr ((Pm.lat n).nf l)).2:=by
    rw[List.drop_take,hf.1,Nat.add_sub_cancel_left,← ht]
   simp (disch:=omega) only[zDi,zIz n hn l hl,Option.bind_some,getTV_here,getTV_next,decide_eq_true,cond_true,Bool.and_true,kO,h4,h7,Int.toNat_natCast,zPP,zTa,e1];rw[zOo (by rw[kO];omega),cond_true]
   rfl
theorem zJB (n:Nat):(Pm.lat n).Auto (fun s:Pm n=>trn s) where
 mul x y:=by
  have hh:∀ z:Pm n,Pm.half n*(Pm.half n*z)=z:=fun z=>by rw[← Grp.assoc,Pm.half_half,Grp.one_mul]
  simp only[trn,Grp.assoc,hh]
 inv x:=by
  unfold trn;rw[zS,zS,Pm.half_inv,Grp.assoc]
 S _ _:=trivial
 meet x y _ _:=by
  have le_trn:∀ {a b:Pm n},a.le b→(trn a).le (trn b):=by
   intro a b h i j hij h1;have hj:=Pm.below hij h1;simp only[trn,Pm.mul_f,Pm.half_f] at h1 ⊢;have h2:Pm.hf n j<Pm.hf n i:=Pm.hf_anti hij hj;have hb:∀ s:Pm n,∀ k,k<n→s.f (Pm.hf n k)<n:=fun s k hk=>s.lt (by unfold Pm.hf;split<;>omega)
   have h3:a.f (Pm.hf n i)<a.f (Pm.hf n j):=by
    rcases Pm.hf_rev h1 with h4 | h4
    · exact h4
    · have:=hb a i (by omega);omega
   have h4:=h _ _ h2 h3;exact Pm.hf_anti h4 (hb b j hj)
  have tt:∀ s:Pm n,trn (trn s)=s:=by
   intro s;unfold trn;apply Pm.ext;intro k;simp only[Pm.mul_f,Pm.half_f,Pm.hf_hf]
  show trn (Pm.meet x y)=Pm.meet (trn x) (trn y);have g1:=Pm.meet_greedy x y;have g2:=Pm.meet_greedy (trn x) (trn y)
  apply Pm.le_anti
  · exact g2.max (le_trn g1.la) (le_trn g1.lb)
  · have a1:=le_trn g2.la;have a2:=le_trn g2.lb;rw[tt] at a1 a2;have:=le_trn (g1.max a1 a2);rw[tt] at this;exact this
 D:=by
  show trn (Pm.half n)=Pm.half n;unfold trn;rw[Pm.half_half,Grp.one_mul]
 inj x y h:=by
  have tt:∀ s:Pm n,trn (trn s)=s:=by
   intro s;unfold trn;apply Pm.ext;intro k;simp only[Pm.mul_f,Pm.half_f,Pm.hf_hf]
  have:=congrArg trn h;simp only[tt] at this;exact this
theorem zTR {n:Nat}(s:Pm n):trn (trn s)=s:=by
 unfold trn;apply Pm.ext;intro k;simp only[Pm.mul_f,Pm.half_f,Pm.hf_hf]
def tk {n:Nat}(k:Int) (l:List (Pm n)):List (Pm n):=if k.tmod 2=0 then l else l.map trn
theorem zJf (n:Nat) (hn:n≤8) (l:List (Pm n)) (hl:l.length<1000000) (k:Int):∀ i,i≤l.length→∀ out:List (Pm n),out.length≤i →
  R jC [tLA8 (sL l),tLA8 (sL out),tI (n:Int),tI k,tI (i:Int)]=some [tI 0,tLA8 (sL (out++tk k (l.drop i)))]:=by
 refine kX _ (fun out ho=>?_) (fun i hi ih out ho=>?_)
 · apply zDq;simp[ju,tk,kO]
 · apply zDq;have ha:∀ s:Pm n,apOk (sL out) [sA s]=true:=fun s=>zDp (by rw[kO];omega)
   rw[List.drop_eq_getElem_cons hi];simp (disch:=omega) only[ju,decide_eq_true,cond_true,Bool.and_true,Int.toNat_natCast,kO,zCx hi,zQf n hn,Option.bind_some,getTV_here,ha,zJI,zBI,zD];rw[show (i:Int)+1=((i+1:Nat):Int) by omega,ih _ (by simp;omega),ih _ (by simp;omega)];unfold tk
   by_cases h:k.tmod 2=0
   · simp[h]
   · simp only[h,if_false,decide_false,Bool.not_false,cond_true,List.map_cons,List.append_assoc,List.cons_append,List.nil_append]
theorem zMK (n:Nat) (hn:n≤8) (l:List (Pm n)) (hl:l.length<1000000) (k:Int):R zDD [tLA8 (sL l),tI (n:Int),tI k]=some [tLA8 (sL (tk k l))]:=by
 apply zJu;have h:=zJf n hn l hl k 0 (Nat.zero_le _) [] (by simp);simp only[zBO,Int.natCast_zero,List.drop_zero,List.nil_append] at h;simp only[zDU,h,Option.bind_some,getTV_here,getTV_next]
end Go.Ev.YtlkmkabnbegfdaaGreat
namespace Go.Ev.YtlkmkabnbegfdaaGreat
open Go.Ev Go.Gar
theorem zEK {n:Nat}(h2:2≤n) (p:Int) (l:List (Pm n)):(Pm.lat n).Proper (mk p l).2∧p≤(mk p l).1∧(mk p l).1+(mk p l).2.length≤p+l.length:=by
 obtain⟨j,_,hP,hl⟩:=Lat.norm_spec (zBD h2) (allS l)
 refine⟨hP,?_,?_⟩
 · simp only[mk];omega
 · simp only[mk];omega
theorem zSw {n:Nat}(h2:2≤n) (p:Int) (X Y:List (Pm n)):mk p (X++Y)=mk (mk p X).1 ((mk p X).2++Y):=by
 simp only[mk];rw[Lat.norm_app (zBD h2) (allS X) (allS Y)];simp only[Int.natCast_add,Int.add_assoc]
theorem zDC {n:Nat}(h2:2≤n) (p:Int) {A:List (Pm n)}(hP:(Pm.lat n).Proper A):mk p A=(p,A):=by
 simp only[mk,Lat.norm_proper (zBD h2) hP];simp
theorem zSu {n:Nat}(h2:2≤n) (p:Int) {A:List (Pm n)}(hP:(Pm.lat n).Proper A):mk p (A++[1])=(p,A):=by
 have e:=Lat.nf_ones (Γ:=Pm.lat n) (X:=A) (Y:=[]) 1 (allS _) (allS _);simp only[List.append_nil] at e;have e2:(Pm.lat n).norm (A++[1])=(0,A):=Lat.norm_of (zBD h2) (i:=0) (j:=1) (by
  have:(Lat.ones 1:List (Pm n))=[1]:=rfl;rw[this] at e;rw[e,Lat.nf_fix hP.W]
  rfl) hP
 simp only[mk,e2];simp
theorem zKK {n:Nat}:∀ (U:List (Pm n)) {Z m:List (Pm n)}{x:Pm n},(Pm.lat n).Wd (U++[x])→(Pm.lat n).pass Z=x::m→(Pm.lat n).pass (U++Z)=U++(Pm.lat n).pass Z
 | [],Z,m,x,_,_=>rfl
 | u::U,Z,m,x,hW,hZ=>by
  have ih:=zKK U hW.2 hZ;show (Pm.lat n).step1 u ((Pm.lat n).pass (U++Z))=_;rw[ih,hZ]
  cases U with
  | nil=>
   have:=hW.1 x rfl;simp only[List.nil_append,Lat.step1,this,Grp.mul_one,inv_one,Grp.one_mul]
   rfl
  | cons v U=>
   have:=hW.1 v rfl;simp only[List.cons_append,Lat.step1,this,Grp.mul_one,inv_one,Grp.one_mul]
theorem zQ2 {n:Nat}:∀ {U V:List (Pm n)},(Pm.lat n).Wd (U++V)→(Pm.lat n).Wd U
 | [],V,_=>trivial
 | u::U,V,h=>by
  refine⟨fun b hb=>h.1 b ?_,zQ2 h.2⟩
  cases U with
  | nil=>simp at hb
  | cons v U=>exact hb
theorem zUC (n:Nat) (hn:n≤8) (A:List (Pm n)) (s:Pm n) (p:Int) (hA:A.length<1000000) (hW:(Pm.lat n).Wd A):∀ k,k≤A.length →
  R i__i_Normal__put_5 [tI (n:Int),tI p,tLA8 (sL ((A++[s]).take k++(Pm.lat n).pass ((A++[s]).drop k))),tI (n:Int),tI (k:Int)]=some [tI 0,tI (n:Int),tI p,tLA8 (sL ((Pm.lat n).pass (A++[s]))),tI (n:Int)]:=by
 intro k
 induction k with
 | zero=>
  intro _;apply jV;simp[b__i_Normal__put_5]
 | succ k ih=>
  intro hk;have hlX:(A++[s]).length=A.length+1:=by simp
  have hk':k<(A++[s]).length:=by omega
  have hlen:=(Pm.lat n).pass_len (l:=(A++[s]).drop (k+1));have hd:=zKL hk'
  cases hp:(Pm.lat n).pass ((A++[s]).drop (k+1)) with
  | nil=>
   rw[hp] at hlen;simp at hlen;omega
  | cons b m=>
   rw[hp] at hd;obtain⟨l1,l2,g1,g2⟩:=zQR hk' b m;have e1:wi64 (((k+1:Nat):Int)-1)=(k:Int):=by rw[zD]<;>omega
   have len:((A++[s]).take (k+1)++b::m).length=A.length+1:=by
    rw[hp] at hlen;simp at hlen ⊢;omega
   have gg1:=zCx (n:=n) l1;have gg2:=zCx (n:=n) l2;rw[g1] at gg1;rw[g2] at gg2;have tk:=zA2 hk'
   by_cases hc:Pm.meet ((A++[s])[k]⁻¹*Pm.half n) b=1
   · have hst:(Pm.lat n).pass ((A++[s]).drop k)=(A++[s])[k]::b::m:=by
      rw[hd,Lat.step1,← zRm,hc,Grp.mul_one,inv_one,Grp.one_mul]
     have hWk:(Pm.lat n).Wd ((A++[s]).take k++[(A++[s])[k]]):=by
      rw[← tk,List.take_append_of_le_length (by omega)];rw[← List.take_append_drop (k+1) A] at hW;exact zQ2 hW
     have hfin:=zKK _ hWk hst;rw[List.take_append_drop,hst] at hfin;have ecur:(A++[s]).take k++(A++[s])[k]::b::m=(A++[s]).take (k+1)++b::m:=by
      rw[tk,List.append_assoc]
      rfl
     rw[ecur] at hfin;apply jV;simp (disch:=omega) only[b__i_Normal__put_5,decide_eq_true,cond_true,Bool.and_true,Int.toNat_natCast,kO,len,gg1,gg2,e1,zGf n hn,zS8 n hn,zBF n hn,Option.bind_some,getTV_here,hc,beq_self_eq_true,hfin]
   · have hst:(Pm.lat n).pass ((A++[s]).drop k)=((A++[s])[k]*Pm.meet ((A++[s])[k]⁻¹*Pm.half n) b)::((Pm.meet ((A++[s])[k]⁻¹*Pm.half n) b)⁻¹*b)::m:=by
      rw[hd,Lat.step1,← zRm]
     have ih':=ih (by omega);rw[hst] at ih';have e3:=zQQ hk' b ((A++[s])[k]*Pm.meet ((A++[s])[k]⁻¹*Pm.half n) b) ((Pm.meet ((A++[s])[k]⁻¹*Pm.half n) b)⁻¹*b) m;have l3:k+1<(((A++[s]).take (k+1)++b::m).set k ((A++[s])[k]*Pm.meet ((A++[s])[k]⁻¹*Pm.half n) b)).length:=by rw[List.length_set];exact l2
     have gg3:=zCx (n:=n) l3;have g3:(((A++[s]).take (k+1)++b::m).set k ((A++[s])[k]*Pm.meet ((A++[s])[k]⁻¹*Pm.half n) b))[k+1]=b:=by
      rw[List.getElem_set_ne (by omega),g2]
     rw[g3] at gg3;apply jV;have hb:(sA (Pm.meet ((A++[s])[k]⁻¹*Pm.half n) b)==sA (1:Pm n))=false:=by rw[zIA hn];simpa using hc
     simp (disch:=omega) only[b__i_Normal__put_5,decide_eq_true,cond_true,cond_false,Bool.and_true,Int.toNat_natCast,kO,List.length_set,len,gg1,gg2,e1,zGf n hn,zS8 n hn,zBF n hn,Option.bind_some,getTV_here,hb,zNh n hn,zG1 n hn,zPQ,gg3,e3];exact ih'
theorem zNi (n:Nat) (hn:n≤8):∀ (Y:List (Pm n)) (p:Int),-1000000000≤p→p+Y.length≤1001000000→Y.length<1000000 →
  R i__i_Normal__put_11 [tI (n:Int),tI p,tLA8 (sL Y),tI (n:Int)]=some [tI 0,tI (n:Int),tI (p+(((Pm.lat n).fr Y).1:Nat)),tLA8 (sL ((Pm.lat n).fr Y).2),tI (n:Int)]
 | [],p,_,_,_=>by
  apply zAy;simp[b__i_Normal__put_11,zBO,Lat.fr]
 | a::Y,p,h1,h2,h3=>by
  simp only[List.length_cons] at h2 h3;have ih:=zNi n hn Y (p+1) (by omega) (by omega) (by omega);have l0:0<(sL (a::Y)).length:=by simp[sL]
  have e0:List.getD (sL (a::Y)) 0 (List.replicate 8 0)=sA a:=rfl;have e1:List.drop 1 (sL (a::Y))=sL Y:=rfl;apply zAy;simp (disch:=omega) only[b__i_Normal__put_11,decide_eq_true,cond_true,e0,e1,zDh n hn,Option.bind_some,getTV_here,zIA hn,zD];unfold Lat.fr
  by_cases h:a=Pm.half n
  · have h':a=(Pm.lat n).D:=h;rw[decide_eq_true h,cond_true,if_pos h',ih];simp only;rw[show p+1+(((Pm.lat n).fr Y).1:Int)=p+((((Pm.lat n).fr Y).1+1:Nat):Int) by omega]
  · have h':¬ a=(Pm.lat n).D:=h;rw[decide_eq_false h,cond_false,if_neg h'];simp
theorem zSB (n:Nat) (hn:n≤8) (p:Int):∀ (k:Nat) (Y:List (Pm n)),Y.length=k→Y.length<2000000 →
  R i__i_Normal__put_14 [tI (n:Int),tI p,tLA8 (sL Y),tI (n:Int)]=some [tI 0,tI (n:Int),tI p,tLA8 (sL (Lat.bk Y))]:=by
 intro k
 induction k with
 | zero=>
  intro Y hk _;have:Y=[]:=List.length_eq_zero_iff.1 hk;subst this;apply zAx;simp[b__i_Normal__put_14,zBO,Lat.bk]
 | succ k ih=>
  intro Y hk hl;have h0:k<Y.length:=by omega
  have e:Y=Y.take k++[Y[k]]:=by
   rw[← zA2 h0,List.take_of_length_le (by omega)]
  have e1:wi64 (((sL Y).length:Nat)-1)=(k:Int):=by rw[kO,zD]<;>omega
  have l0:((0:Int)<((sL Y).length:Nat)):=by rw[kO];omega
  have l1:((k:Int)<((sL Y).length:Nat)):=by rw[kO];omega
  have ih':=ih (Y.take k) (by simp;omega) (by simp;omega);apply zAx;simp (disch:=omega) only[b__i_Normal__put_14,e1,decide_eq_true,cond_true,Bool.and_true,Int.toNat_natCast,zCx h0,zBF n hn,Option.bind_some,getTV_here,zIA hn,zPP];have hb:Lat.bk Y=if Y[k]=1 then Lat.bk (Y.take k) else Y:=by
   have h1:=zMe (Y.take k) Y[k];rw[← e] at h1;exact h1
  rw[hb]
  by_cases h:Y[k]=1
  · rw[decide_eq_true h,cond_true,if_pos h,ih']
  · rw[decide_eq_false h,cond_false,if_neg h]
theorem zVB (n:Nat) (h2:2≤n) (hn:n≤8) (v:Nm n) (s:Pm n) (hP:(Pm.lat n).Proper v.2) (hl:v.2.length<900000) (hp:-1000000000≤v.1) (hp':v.1≤1000000000):
  R i__i_Normal__put [zK (enc v),tA8 (sA s)]=some [zK (enc (mk v.1 (v.2++[s])))]:=by
 apply zGk
 by_cases h:s=1
 · subst h;simp only[b__i_Normal__put,enc,zBF n hn,Option.bind_some,getTV_here,beq_self_eq_true,cond_true,zSu h2 v.1 hP]
 · have hb:(sA s==sA (1:Pm n))=false:=by rw[zIA hn];simpa using h
   have h5:=zUC n hn v.2 s v.1 (by omega) hP.W v.2.length (Nat.le_refl _);have e0:(v.2++[s]).take v.2.length++(Pm.lat n).pass ((v.2++[s]).drop v.2.length)=v.2++[s]:=by simp[Lat.pass,Lat.step1]
   rw[e0,Lat.pass_nf (allS v.2) trivial hP.W] at h5;have e1:wi64 (((sL (v.2++[s])).length:Nat)-1)=(v.2.length:Int):=by
    rw[kO,List.length_append,List.length_cons,List.length_nil,zD]<;>omega
   have hnl:=(Pm.lat n).nf_len (l:=v.2++[s]);have hf:=zL5 (Pm.lat n) ((Pm.lat n).nf (v.2++[s]));have hlA:(v.2++[s]).length=v.2.length+1:=by simp
   have hfl:((Pm.lat n).fr ((Pm.lat n).nf (v.2++[s]))).2.length≤v.2.length+1:=by rw[← hf.1,List.length_drop];omega
   have h11:=zNi n hn ((Pm.lat n).nf (v.2++[s])) v.1 hp (by omega) (by omega);have h14:=zSB n hn (v.1+(((Pm.lat n).fr ((Pm.lat n).nf (v.2++[s]))).1:Nat)) _ ((Pm.lat n).fr ((Pm.lat n).nf (v.2++[s]))).2 rfl (by omega);simp only[b__i_Normal__put,enc,zBF n hn,Option.bind_some,getTV_here,getTV_next,hb,cond_false,zDp (xs:=sL v.2) (x:=sA s) (by rw[kO];omega),cond_true,zJI,e1,h5,h11,h14]
   rfl
theorem zOd (n:Nat) (hn:n≤8) (p:Int) (l:List (Pm n)) (hl:l.length<1000000):∀ i,i≤l.length →
  R i__i_Normal__turnBy_4 [tI (n:Int),tI p,tLA8 (sL ((l.take i).map trn++l.drop i)),tI (l.length:Int),tI (i:Int)]=some [tI 0,tI (n:Int),tI p,tLA8 (sL (l.map trn))]:=by
 refine kX _ ?_ (fun i hi ih=>?_)
 · apply jy;simp[b__i_Normal__turnBy_4]
 · have l1:i<((l.take i).map trn++l.drop i).length:=by simp;omega
   have e0:((l.take i).map trn).length=i:=by simp;omega
   have g:((l.take i).map trn++l.drop i)[i]=l[i]:=by
    rw[List.getElem_append_right (by omega)];simp only[e0,Nat.sub_self,List.getElem_drop,Nat.add_zero]
   have gg:=zCx (n:=n) l1;rw[g] at gg;have len:((l.take i).map trn++l.drop i).length=l.length:=by simp;omega
   have e1:((l.take i).map trn++l.drop i).set i (trn l[i])=(l.take (i+1)).map trn++l.drop (i+1):=by
    rw[List.set_append_right _ _ (by omega),e0,Nat.sub_self,List.drop_eq_getElem_cons hi,zA2 hi,List.map_append,List.append_assoc]
    rfl
   apply jy;simp (disch:=omega) only[b__i_Normal__turnBy_4,decide_eq_true,cond_true,Bool.and_true,Int.toNat_natCast,kO,len,gg,zU8 n hn,Option.bind_some,getTV_here,zPQ,e1,zD];rw[show (i:Int)+1=((i+1:Nat):Int) by omega];exact ih
theorem zR8 (n:Nat) (hn1:1≤n) (hn:n≤8) (v:Nm n) (k:Int) (h1:n=1→k=0) (hl:v.2.length<1000000) (hp:-1000000000≤v.1) (hp':v.1≤1000000000) (hk:-1000000000≤k) (hk':k≤1000000000):
  R i__i_Normal__turnBy [zK (enc v),tI k]=some [zK (enc (v.1+k,tk k v.2))]:=by
 apply zD9
 by_cases h:n=1
 · have:=h1 h;subst this;have h3:((n:Int)<2):=by omega
   simp[b__i_Normal__turnBy,enc,h3,tk]
 · have h3:¬ ((n:Int)<2):=by omega
   have h4:=zOd n hn (v.1+k) v.2 hl 0 (Nat.zero_le _);simp only[List.take_zero,List.map_nil,List.nil_append,List.drop_zero,Int.natCast_zero] at h4;simp (disch:=omega) only[b__i_Normal__turnBy,enc,decide_eq_false h3,cond_false,zBI,zD,kO,h4,Option.bind_some,getTV_here,getTV_next,tk]
   by_cases h5:k.tmod 2=0
   · simp[h5,h3]
   · simp[h5,h3]
theorem zUh {n:Nat}(l:List (Pm n)):tk (-1) l=l.map trn:=rfl
theorem zUg {n:Nat}(l:List (Pm n)):tk 1 l=l.map trn:=rfl
theorem zPD {n:Nat}(k:Int) {l:List (Pm n)}(h:(Pm.lat n).Proper l):(Pm.lat n).Proper (tk k l):=by
 unfold tk
 split
 · exact h
 · exact (zJB n).Proper h
theorem zKv (n:Nat) (h2:2≤n) (hn:n≤8) (v:Nm n) (s:Pm n) (hP:(Pm.lat n).Proper v.2) (hl:v.2.length<900000) (hp:-900000000≤v.1) (hp':v.1≤900000000):
  R i__i_Normal__putInverse [zK (enc v),tA8 (sA s)]=some [zK (enc (mk (v.1-1) (v.2.map trn++[Pm.half n*s⁻¹])))]:=by
 apply zCW;have h3:=zR8 n (by omega) hn v (-1) (fun h=>by omega) (by omega) (by omega) (by omega) (by omega) (by omega);rw[zUh] at h3;have h4:=zVB n h2 hn (v.1+-1,v.2.map trn) (Pm.half n*s⁻¹) ((zJB n).Proper hP) (by simp;omega) (by simp only;omega) (by simp only;omega);simp only[enc] at h3 h4 ⊢;simp only[b__i_Normal__putInverse,h3,Option.bind_some,getTV_here,zGo n hn,h4]
 rfl
structure OkN {n:Nat}(v:Nm n) (b:Nat):Prop where
 P:(Pm.lat n).Proper v.2
 len:v.2.length≤b
 lo:-(b:Int)≤v.1
 hi:v.1≤b
 one:n=1→v=(0,[])
noncomputable def prod {n:Nat}(v w:Nm n):Nm n:=mk (v.1+w.1) (tk w.1 v.2++w.2)
theorem zK6 (n:Nat) (h2:2≤n) (hn:n≤8) (v:Nm n) (s:Pm n) (hl:v.2.length<900000) (hp:-900000000≤v.1) (hp':v.1≤900000000):
  R zA8 [zK (enc v),tA8 (sA s),tB false]=some [zK (enc (mk v.1 (v.2++[s])))]:=by
 apply zG9;have hm:=zK7 n (by omega) hn (v.2++[s]) (by simp;omega) (fun h=>by omega) v.1 (by omega) (by omega);simp only[enc] at hm ⊢;simp only[zCn,cond_false,zOo (ys:=sL v.2) (by rw[kO];omega),zDp (xs:=sL v.2) (x:=sA s) (by rw[kO];omega),cond_true,zJI,hm,Option.bind_some,getTV_here]
theorem zK5 (n:Nat) (h2:2≤n) (hn:n≤8) (v:Nm n) (s:Pm n) (hl:v.2.length<900000) (hp:-900000000≤v.1) (hp':v.1≤900000000):
  R zA8 [zK (enc v),tA8 (sA s),tB true]=some [zK (enc (mk (v.1-1) (v.2.map trn++[Pm.half n*s⁻¹])))]:=by
 apply zG9;have hm:=zK7 n (by omega) hn (v.2.map trn++[Pm.half n*s⁻¹]) (by simp;omega) (fun h=>by omega) (v.1-1) (by omega) (by omega);have ht:=zMK n hn v.2 (by omega) 1;rw[zUg] at ht;simp only[enc] at hm ⊢;simp (disch:=omega) only[zCn,cond_true,ht,zQg n hn,Option.bind_some,getTV_here,zDp (xs:=sL (v.2.map trn)) (x:=sA (Pm.half n*s⁻¹)) (by rw[kO];simp;omega),zJI,zD,hm]
end Go.Ev.YtlkmkabnbegfdaaGreat
namespace Go.Ev.YtlkmkabnbegfdaaGreat
open Go.Ev
end Go.Ev.YtlkmkabnbegfdaaGreat
namespace Go.Ev.YtlkmkabnbegfdaaGreat
open Go.Ev Go.Gar
def swapN (n p:Nat):Pm n:=if h:p+1<n then Pm.swap n p h else 1
noncomputable def stepN {n:Nat}(v:Nm n) (x:Int):Nm n:=
 if 0<x then mk v.1 (v.2++[swapN n (x.natAbs-1)]) else mk (v.1-1) (v.2.map trn++[Pm.half n*(swapN n (x.natAbs-1))⁻¹])
noncomputable def nOf (n:Nat) (w:List Int):Nm n:=w.foldl stepN (0,[])
structure OkJ {n:Nat}(v:Nm n) (j:Nat):Prop where
 P:(Pm.lat n).Proper v.2
 lo:-(j:Int)≤v.1
 hi:v.1+v.2.length≤j
 len:v.2.length≤j
theorem zSv {n:Nat}(h2:2≤n) (p:Int) (l:List (Pm n)):(mk p l).2.length≤l.length:=by
 obtain⟨j,_,hP,hl⟩:=Lat.norm_spec (zBD h2) (allS l);simp only[mk];omega
theorem zJE {n:Nat}(h2:2≤n) {v:Nm n}{j:Nat}(h:OkJ v j) (x:Int):OkJ (stepN v x) (j+1):=by
 have a1:=h.lo;have a2:=h.hi;have a3:=h.len;unfold stepN
 split
 · have hm:=zEK h2 v.1 (v.2++[swapN n (x.natAbs-1)]);have hl:=zSv h2 v.1 (v.2++[swapN n (x.natAbs-1)]);simp only[List.length_append,List.length_cons,List.length_nil] at hm hl;exact⟨hm.1,by omega,by omega,by omega⟩
 · have hm:=zEK h2 (v.1-1) (v.2.map trn++[Pm.half n*(swapN n (x.natAbs-1))⁻¹]);have hl:=zSv h2 (v.1-1) (v.2.map trn++[Pm.half n*(swapN n (x.natAbs-1))⁻¹]);simp only[List.length_append,List.length_cons,List.length_nil,List.length_map] at hm hl;exact⟨hm.1,by omega,by omega,by omega⟩
theorem OkJ.zero (n:Nat):OkJ ((0,[]):Nm n) 0:=⟨Lat.Proper.nil,by simp,by simp,by simp⟩
def Lw (n:Nat) (w:List Int):Prop:=∀ x∈w,x≠0∧1-(n:Int)≤x∧x≤(n:Int)-1
theorem zCX {n p:Nat}(h:p+1<n):swapN n p=Pm.swap n p h:=dif_pos h
theorem zKx (n:Nat) (h2:2≤n) (hn:n≤8) (w:List Int) (hw:Lw n w) (hl:w.length≤200) (x2 x3:Int) (x4:List (List Int)):∀ (d i:Nat) (v:Nm n),i+d=w.length→OkJ v i →
  R kw [tI (n:Int),tLI w,tI x2,tI x3,tLA8 x4,tI (n:Int),tI v.1,tLA8 (sL v.2),tI (w.length:Int),tI (i:Int)]=
   some [tI 0,tI x2,tI x3,tLA8 x4,tI (n:Int),tI ((w.drop i).foldl stepN v).1,tLA8 (sL ((w.drop i).foldl stepN v).2)]:=by
 intro d
 induction d with
 | zero=>
  intro i v hi hv;apply zCT;have h1:¬ ((i:Int)<(w.length:Int)):=by omega
  rw[List.drop_of_length_le (by omega)];simp only[jf,decide_eq_false h1,cond_false,List.foldl_nil]
 | succ d ih=>
  intro i v hi hv;have h0:i<w.length:=by omega
  have a1:=hv.lo;have a2:=hv.hi;have a3:=hv.len;obtain⟨b1,b2,b3⟩:=hw _ (List.getElem_mem h0);have hp:w[i].natAbs-1+1<n:=by omega
  have ih':=ih (i+1) (stepN v w[i]) (by omega) (zJE h2 hv _);apply zCT;rw[List.drop_eq_getElem_cons h0,List.foldl_cons];simp (disch:=omega) only[jf,decide_eq_true,cond_true,Bool.and_true,Int.toNat_natCast,zV h0,zD]
  by_cases h:0<w[i]
  · have e:w[i]=((w[i].natAbs-1+1:Nat):Int):=by omega
    have he:=zI0 n (w[i].natAbs-1) hp hn;rw[← e] at he;have hput:=zVB n h2 hn v (Pm.swap n _ hp) hv.P (by omega) (by omega) (by omega);have es:stepN v w[i]=mk v.1 (v.2++[Pm.swap n _ hp]):=by rw[stepN,if_pos h,zCX hp]
    rw[es] at ih' ⊢;simp only[enc] at hput;simp only[decide_eq_true h,cond_true,he,Option.bind_some,getTV_here,hput];exact ih'
  · have e:0-w[i]=((w[i].natAbs-1+1:Nat):Int):=by omega
    have he:=zI0 n (w[i].natAbs-1) hp hn;rw[← e] at he;have hput:=zKv n h2 hn v (Pm.swap n _ hp) hv.P (by omega) (by omega) (by omega);have es:stepN v w[i]=mk (v.1-1) (v.2.map trn++[Pm.half n*(Pm.swap n _ hp)⁻¹]):=by rw[stepN,if_neg h,zCX hp]
    rw[es] at ih' ⊢;simp only[enc] at hput;simp only[decide_eq_false h,cond_false,he,Option.bind_some,getTV_here,hput];exact ih'
theorem zQd (n:Nat) (h2:2≤n) (hn:n≤8) (w:List Int) (hw:Lw n w) (hl:w.length≤200) (x1 x2:Int) (x3:List (List Int)):∀ (d i:Nat) (v:Nm n),i+d=w.length→OkJ v i →
  R zAs [tLI w,tI x1,tI x2,tLA8 x3,tI (n:Int),tI v.1,tLA8 (sL v.2),tI (n:Int),tI (i:Int)]=
   some [tI 0,tI x1,tI x2,tLA8 x3,tI (n:Int),tI ((w.drop i).foldl stepN v).1,tLA8 (sL ((w.drop i).foldl stepN v).2)]:=by
 intro d
 induction d with
 | zero=>
  intro i v hi hv;apply zFZ;have h1:¬ ((i:Int)<(w.length:Int)):=by omega
  rw[List.drop_of_length_le (by omega)];simp only[zCM,decide_eq_false h1,cond_false,List.foldl_nil]
 | succ d ih=>
  intro i v hi hv;have h0:i<w.length:=by omega
  have a1:=hv.lo;have a2:=hv.hi;have a3:=hv.len;obtain⟨b1,b2,b3⟩:=hw _ (List.getElem_mem h0);have hp:w[i].natAbs-1+1<n:=by omega
  have ih':=ih (i+1) (stepN v w[i]) (by omega) (zJE h2 hv _);apply zFZ;rw[List.drop_eq_getElem_cons h0,List.foldl_cons];simp (disch:=omega) only[zCM,decide_eq_true,cond_true,Bool.and_true,Int.toNat_natCast,zV h0,zD]
  by_cases h:0<w[i]
  · have e:w[i]=((w[i].natAbs-1+1:Nat):Int):=by omega
    have he:=zAh n (w[i].natAbs-1) hp hn;rw[← e] at he;have hput:=zK6 n h2 hn v (Pm.swap n _ hp) (by omega) (by omega) (by omega);have es:stepN v w[i]=mk v.1 (v.2++[Pm.swap n _ hp]):=by rw[stepN,if_pos h,zCX hp]
    rw[es] at ih' ⊢;simp only[enc] at hput;simp only[decide_eq_true h,cond_true,he,Option.bind_some,getTV_here,hput];exact ih'
  · have e:0-w[i]=((w[i].natAbs-1+1:Nat):Int):=by omega
    have he:=zAh n (w[i].natAbs-1) hp hn;rw[← e] at he;have hput:=zK5 n h2 hn v (Pm.swap n _ hp) (by omega) (by omega) (by omega);have es:stepN v w[i]=mk (v.1-1) (v.2.map trn++[Pm.half n*(Pm.swap n _ hp)⁻¹]):=by rw[stepN,if_neg h,zCX hp]
    rw[es] at ih' ⊢;simp only[enc] at hput;simp only[decide_eq_false h,cond_false,he,Option.bind_some,getTV_here,hput];exact ih'
theorem zIB {w:List Int}(hw:Lw 1 w):w=[]:=by
 cases w with
 | nil=>rfl
 | cons x w=>
  have:=hw x (by simp);omega
theorem zIy (n:Nat) (hn1:1≤n) (hn:n≤8) (w:List Int) (hw:Lw n w) (hl:w.length≤200):R zCc [zH ((n:Int),w)]=some [zK (enc (nOf n w))]:=by
 apply zLT
 by_cases h2:2≤n
 · have h:=zKx n h2 hn w hw hl 0 0 [] w.length 0 (0,[]) (by omega) (OkJ.zero n);simp only[zBO,Int.natCast_zero,List.drop_zero] at h;simp only[zCq,h,Option.bind_some,getTV_here,getTV_next]
   rfl
 · have:n=1:=by omega
   subst this;have:=zIB hw;subst this;have h:R kw [tI 1,tLI [],tI 0,tI 0,tLA8 [],tI 1,tI 0,tLA8 [],tI 0,tI 0]=some [tI 0,tI 0,tI 0,tLA8 [],tI 1,tI 0,tLA8 []]:=by
    apply zCT;simp[jf]
   simp[zCq,h,nOf,enc,zBO]
theorem zML (n:Nat) (hn1:1≤n) (hn:n≤8) (w:List Int) (hw:Lw n w) (hl:w.length≤200):R zFF [tI (n:Int),tLI w]=some [zK (enc (nOf n w))]:=by
 apply zRF
 by_cases h2:2≤n
 · have h:=zQd n h2 hn w hw hl 0 0 [] w.length 0 (0,[]) (by omega) (OkJ.zero n);simp only[zBO,Int.natCast_zero,List.drop_zero] at h;simp only[zG2,h,Option.bind_some,getTV_here,getTV_next]
   rfl
 · have:n=1:=by omega
   subst this;have:=zIB hw;subst this;have h:R zAs [tLI [],tI 0,tI 0,tLA8 [],tI 1,tI 0,tLA8 [],tI 1,tI 0]=some [tI 0,tI 0,tI 0,tLA8 [],tI 1,tI 0,tLA8 []]:=by
    apply zFZ;simp[zCM]
   simp[zG2,h,nOf,enc,zBO]
theorem zDG {b:Int×List Int}(h:isBr b=true):Lw b.1.toNat b.2∧b.1=(b.1.toNat:Int)∧1≤b.1.toNat∧b.1.toNat≤8∧b.2.length≤200:=by
 have hk:=zHi h;refine⟨fun x hx=>?_,by omega,by omega,by omega,hk.2.2.1⟩;have:=hk.2.2.2 x hx;omega
end Go.Ev.YtlkmkabnbegfdaaGreat
namespace Go.Ev.YtlkmkabnbegfdaaGreat
open Go.Ev Go.Gar
def begL {n:Nat}(s:Pm n):Nat→List Int
 | 0=>[]
 | d+1=>if s.f (n-d)<s.f (n-(d+1))∧n-d<n then ((n-d:Nat):Int)::begL s d else begL s d
theorem zJo {n:Nat}(s:Pm n):∀ (d:Nat),d≤n→∀ x:Int,x∈begL s d↔∃ p,n-d≤p∧p+1<n∧s.f (p+1)<s.f p∧x=((p+1:Nat):Int)
 | 0,_,x=>by
  simp only[begL,List.not_mem_nil,false_iff];rintro ⟨p,h1,h2,_⟩;omega
 | d+1,hd,x=>by
  have ih:=zJo s d (by omega) x;unfold begL
  by_cases h:s.f (n-d)<s.f (n-(d+1))∧n-d<n
  · rw[if_pos h,List.mem_cons,ih];clear ih
    constructor
    · rintro (rfl | ⟨p,h1,h2,h3⟩)
      · refine⟨n-(d+1),Nat.le_refl _,by omega,?_,by omega⟩;rw[show n-(d+1)+1=n-d by omega];exact h.1
      · exact⟨p,by omega,h2,h3⟩
    · rintro ⟨p,h1,h2,h3,rfl⟩
      by_cases h4:p=n-(d+1)
      · left;omega
      · right;exact⟨p,by omega,h2,h3,rfl⟩
  · rw[if_neg h,ih];clear ih
    constructor
    · rintro ⟨p,h1,h2,h3⟩;exact⟨p,by omega,h2,h3⟩
    · rintro ⟨p,h1,h2,h3,h4⟩
      by_cases h5:p=n-(d+1)
      · exfalso;subst h5;rw[show n-(d+1)+1=n-d by omega] at h2 h3;exact h ⟨h3,h2⟩
      · exact⟨p,by omega,h2,h3,h4⟩
end Go.Ev.YtlkmkabnbegfdaaGreat
namespace Go.Ev.YtlkmkabnbegfdaaGreat
open Go.Ev Go.Gar
theorem zSa {n:Nat}(hn:n≤8):∀ {l m:List (Pm n)},sL l=sL m→l=m
 | [],[],_=>rfl
 | [],_::_,h=>by simp[sL] at h
 | _::_,[],h=>by simp[sL] at h
 | a::l,b::m,h=>by
  simp only[sL,List.map_cons,List.cons.injEq] at h;rw[zSb hn h.1,zSa hn h.2]
def IsNm (v:Int×Int×List (List Int)):Prop:=∃ (n:Nat) (w:Nm n),1≤n∧n≤8∧OkN w 200∧v=enc w
open Classical in
noncomputable def isNm (v:Int×Int×List (List Int)):Bool:=decide (IsNm v)
end Go.Ev.YtlkmkabnbegfdaaGreat
namespace Go.Ev.YtlkmkabnbegfdaaGreat
open Go.Ev Go.Gar
noncomputable def stepI {n:Nat}(v:Nm n) (s:Pm n):Nm n:=mk (v.1-1) (v.2.map trn++[Pm.half n*s⁻¹])
noncomputable def invN {n:Nat}(v:Nm n):Nm n:=((v.2.reverse.foldl stepI (0,[])).1-v.1,tk v.1 (v.2.reverse.foldl stepI (0,[])).2)
theorem zPF {n:Nat}(k:Int) (l:List (Pm n)):tk (-k) l=tk k l:=by
 unfold tk;rw[Int.neg_tmod]
 by_cases h:k.tmod 2=0
 · simp[h]
 · have:¬ -(k.tmod 2)=0:=by omega
   simp[h,this]
noncomputable def both (a b:Int×Int×List (List Int)):Int:=if isNm a&&isNm b then (if a.1=b.1 then 0 else 2) else 1
end Go.Ev.YtlkmkabnbegfdaaGreat
namespace Go.Ev.YtlkmkabnbegfdaaGreat
open Go.Ev Go.Gar
def t1 {n:Nat}(p:Int) (s:Pm n):Pm n:=if p.tmod 2=0 then s else trn s
theorem zU0 {n:Nat}(h2:2≤n) (q k:Int) (l B:List (Pm n)):mk (q+(((Pm.lat n).norm l).1:Nat)) (tk k ((Pm.lat n).norm l).2++B)=mk q (tk k l++B):=by
 have e:(Pm.lat n).norm (tk k l)=(((Pm.lat n).norm l).1,tk k ((Pm.lat n).norm l).2):=by
  unfold tk
  split
  · rfl
  · exact (zJB n).norm (zBD h2) (allS l)
 rw[zSw h2 q (tk k l) B];simp only[mk,e]
end Go.Ev.YtlkmkabnbegfdaaGreat
namespace Go.Ev.YtlkmkabnbegfdaaGreat
open Go.Ev Go.Gar
theorem zVC (a b:List Int):(a != b)=!decide (a=b):=by rw[Bool.eq_iff_iff];simp
theorem zMN (x0 x1 x3 x4:Int) (a b:List (List Int)) (h0:a.length<1000000000) (h1:b.length=a.length):∀ i,i≤a.length→R zBU [tI x0,tI x1,tLA8 a,tI x3,tI x4,tLA8 b,tI (i:Int)]=some (if a.drop i=b.drop i then [tI 0] else [tI 1,tB false]):=by
 refine kX _ ?_ (fun i hi ih=>?_)
 · apply zGJ;rw[List.drop_length,← h1,List.drop_length];simp[zBl,h1]
 · apply zGJ;rw[List.drop_eq_getElem_cons hi,List.drop_eq_getElem_cons (by omega:i<b.length)];simp (disch:=omega) only[zBl,decide_eq_true,cond_true,Bool.and_true,Int.toNat_natCast,zD];rw[show (i:Int)+1=((i+1:Nat):Int) by omega,ih];simp only[List.getD_eq_getElem?_getD,List.getElem?_eq_getElem hi,List.getElem?_eq_getElem (by omega:i<b.length),Option.getD_some,List.cons.injEq];by_cases e:a[i]=b[i]<;>simp[e,zVC]
theorem zQq (a b:List (List Int)) (h0:a.length<1000000000) (h1:b.length=a.length):∀ i,i≤a.length→R zY [tLA8 a,tLA8 b,tI (a.length:Int),tI (i:Int)]=some (if a.drop i=b.drop i then [tI 0] else [tI 1,tB false]):=by
 refine kX _ ?_ (fun i hi ih=>?_)
 · apply kR;rw[List.drop_length,← h1,List.drop_length];simp[zZ,h1]
 · apply kR;rw[List.drop_eq_getElem_cons hi,List.drop_eq_getElem_cons (by omega:i<b.length)];simp (disch:=omega) only[zZ,decide_eq_true,cond_true,Bool.and_true,Int.toNat_natCast,zD];rw[show (i:Int)+1=((i+1:Nat):Int) by omega,ih];simp only[List.getD_eq_getElem?_getD,List.getElem?_eq_getElem hi,List.getElem?_eq_getElem (by omega:i<b.length),Option.getD_some,List.cons.injEq];by_cases e:a[i]=b[i]<;>simp[e,zVC]
theorem zUH (a b:List (List Int)) (h0:a.length<1000000000):R zy [tLA8 a,tLA8 b]=some [tB (decide (a=b))]:=by
 apply zAK
 by_cases e:b.length=a.length
 · have:=zQq a b h0 e 0 (Nat.zero_le _);simp only[List.drop_zero,Int.natCast_zero] at this;simp only[ze,e,bne_self_eq_false,cond_false,this];by_cases e2:a=b<;>simp[e2]
 · have:a≠b:=fun h=>e (by rw[h])
   have e3:¬ ((a.length:Int)=b.length):=by omega
   simp[ze,this,e3,zBI]
theorem zQe (a b:Int×Int×List (List Int)) (h0:a.2.2.length<1000000000):R zFq [zK a,zK b]=some [tB (decide (a=b))]:=by
 apply zNu;obtain⟨a1,a2,a3⟩:=a;obtain⟨b1,b2,b3⟩:=b
 by_cases q1:a1=b1
 · by_cases q2:a2=b2
   · by_cases e:b3.length=a3.length
     · have:=zMN a1 a2 b1 b2 a3 b3 h0 e 0 (Nat.zero_le _);simp only[List.drop_zero,Int.natCast_zero] at this;subst q1;subst q2;simp only[zAv,e,bne_self_eq_false,cond_false,this];by_cases e2:a3=b3<;>simp[e2]
     · have:a3≠b3:=fun h=>e (by rw[h])
       have e3:¬ ((a3.length:Int)=b3.length):=by omega
       simp[zAv,this,e3,zBI]
   · simp[zAv,q2,zBI]
 · simp[zAv,q1,zBI]
theorem zKt (a b:Int×Int×List (List Int)) (h0:a.2.2.length<1000000000):R zCb [zK a,zK b]=some [tB (decide (a=b))]:=by
 apply zI6;obtain⟨a1,a2,a3⟩:=a;obtain⟨b1,b2,b3⟩:=b
 by_cases q1:a1=b1
 · by_cases q2:a2=b2
   · simp[je,q1,q2,zUH a3 b3 h0]
   · simp[je,q2,zMk]
 · simp[je,q1,zMk]
theorem zGz {n:Nat}(h2:2≤n):∀ (l:List Int) {v:Nm n}{j:Nat},OkJ v j→OkJ (l.foldl stepN v) (j+l.length)
 | [],v,j,h=>h
 | s::l,v,j,h=>by
  have:=zGz h2 l (zJE h2 h s);rw[List.foldl_cons,List.length_cons,show j+(l.length+1)=j+1+l.length by omega];exact this
theorem zKi {n:Nat}(h1:1≤n) (w:List Int) (hw:Lw n w) (hl:w.length≤200):(nOf n w).2.length<1000000:=by
 by_cases h2:2≤n
 · have:=(zGz h2 w (OkJ.zero n)).len;unfold nOf;omega
 · have:n=1:=by omega
   subst this;have:=zIB hw;subst this;simp[nOf]
noncomputable def vSame (a b:Int×List Int):Bool×Int:=
 if isBr a&&isBr b then (if a.1=b.1 then (decide (enc (nOf a.1.toNat a.2)=enc (nOf a.1.toNat b.2)),0) else (false,2)) else (false,1)
theorem zJh (a b:Int×List Int) (hl:a.2.length<1000000000) (hw:I64 a.2) (hl':b.2.length<1000000000) (hw':I64 b.2):R zDF [zH a,zH b]=some [tB (vSame a b).1,tI (vSame a b).2]:=by
 apply zJx;simp only[zDW,zMU a hl hw,zMU b hl' hw',Option.bind_some,getTV_here,vSame]
 cases h:isBr a with
 | false=>simp
 | true=>
  cases h':isBr b with
  | false=>simp
  | true=>
   by_cases e:a.1=b.1
   · obtain⟨q1,q2,q3,q4,q5⟩:=zDG h;obtain⟨r1,r2,r3,r4,r5⟩:=zDG h';rw[← e] at r1;have hc:=zML a.1.toNat q3 q4 a.2 q1 q5;have hc':=zML a.1.toNat q3 q4 b.2 r1 r5;rw[← q2] at hc hc';have he:R zEN [tI a.1,tLI a.2,tLI b.2]=some [tB (decide (enc (nOf a.1.toNat a.2)=enc (nOf a.1.toNat b.2)))]:=by
      apply zLO;have hn:=zKi q3 a.2 q1 q5;simp[zEa,hc,hc',zQe (enc (nOf a.1.toNat a.2)) (enc (nOf a.1.toNat b.2)) (by simp only[enc,kO];omega)]
     rw[e] at he ⊢;simp[he]
   · simp[e,zBI]
theorem zJi (a b:Int×List Int) (hl:a.2.length<1000000000) (hl':b.2.length<1000000000):R zDK [zH a,zH b]=some [tB (vSame a b).1,tI (vSame a b).2]:=by
 apply zJ2;simp only[zDY,zBG a hl,zBG b hl',Option.bind_some,getTV_here,vSame]
 cases h:isBr a with
 | false=>simp
 | true=>
  cases h':isBr b with
  | false=>simp
  | true=>
   by_cases e:a.1=b.1
   · obtain⟨n,al⟩:=a;obtain⟨m,bl⟩:=b
     replace e:n=m:=e
     subst e;obtain⟨q1,q2,q3,q4,q5⟩:=zDG h;obtain⟨r1,r2,r3,r4,r5⟩:=zDG h';have hc:=zIy n.toNat q3 q4 al q1 q5;have hc':=zIy n.toNat q3 q4 bl r1 r5;have q2':n=((n.toNat:Nat):Int):=q2;rw[← q2'] at hc hc';have hn:(nOf n.toNat al).2.length<1000000:=zKi q3 al q1 q5;have hs:=zKt (enc (nOf n.toNat al)) (enc (nOf n.toNat bl)) (by simp only[enc,kO];omega);simp[hc,hc',hs]
   · simp[e,zBI]
end Go.Ev.YtlkmkabnbegfdaaGreat
namespace Go.Ev.YtlkmkabnbegfdaaGreat
open Go.Ev Go.Gar
theorem par (p:Int):p.tmod 2=0↔p % 2=0:=
 ⟨fun h=>Int.emod_eq_zero_of_dvd (Int.dvd_of_tmod_eq_zero h),fun h=>Int.tmod_eq_zero_of_dvd (Int.dvd_of_emod_eq_zero h)⟩
theorem zRn {n:Nat}(l:List (Pm n)):(l.map trn).map trn=l:=by
 rw[List.map_map]
 conv=>rhs;rw[← List.map_id l]
 apply List.map_congr_left;intro x _;exact zTR x
theorem zMy {n:Nat}(a b:Int) (l:List (Pm n)):tk (a+b) l=tk a (tk b l):=by
 unfold tk;have ha:=par a;have hb:=par b;have hab:=par (a+b)
 by_cases h1:a % 2=0
 · by_cases h2:b % 2=0
   · rw[if_pos (hab.2 (by omega)),if_pos (ha.2 h1),if_pos (hb.2 h2)]
   · rw[if_neg (fun h=>h2 (by have:=hab.1 h;omega)),if_pos (ha.2 h1),if_neg (fun h=>h2 (hb.1 h))]
 · by_cases h2:b % 2=0
   · rw[if_neg (fun h=>h1 (by have:=hab.1 h;omega)),if_neg (fun h=>h1 (ha.1 h)),if_pos (hb.2 h2)]
   · rw[if_pos (hab.2 (by omega)),if_neg (fun h=>h1 (ha.1 h)),if_neg (fun h=>h2 (hb.1 h)),zRn]
theorem zUi {n:Nat}(k:Int) (l m:List (Pm n)):tk k (l++m)=tk k l++tk k m:=by
 unfold tk
 split
 · rfl
 · rw[List.map_append]
theorem zTT {n:Nat}(l:List (Pm n)):tk 0 l=l:=rfl
theorem K_eq {n:Nat}(x:Pm n):(Pm.lat n).K x=x⁻¹*Pm.half n:=rfl
theorem zVU {n:Nat}(x:Pm n):((Pm.lat n).K x)⁻¹*Pm.half n=trn x:=by
 rw[K_eq,zS,zBA,Pm.half_inv,Grp.assoc]
 rfl
theorem x_K {n:Nat}(x:Pm n):x*(Pm.lat n).K x=Pm.half n:=zf x _
theorem zVa {n:Nat}(x:Pm n) (Y:List (Pm n)):(Pm.lat n).nf (x::Pm.half n::Y)=(Pm.lat n).nf (Pm.half n::trn x::Y):=by
 have h:=Lat.nf_move (Γ:=Pm.lat n) (p:=[]) (q:=Y) (x:=x) (y:=Pm.half n) (c:=(Pm.lat n).K x) trivial trivial trivial ((Pm.lat n).refl trivial) ((Pm.lat n).le_D trivial) (allS _);rw[x_K,zVU] at h;exact h
theorem nf_D {n:Nat}:∀ (X Y:List (Pm n)),(Pm.lat n).nf (X++Pm.half n::Y)=(Pm.lat n).nf (Pm.half n::(X.map trn++Y))
 | [],Y=>rfl
 | x::X,Y=>by
  rw[List.cons_append,Lat.nf_cons,nf_D X Y,← Lat.nf_cons,zVa]
  rfl
theorem zUw {n:Nat}:∀ (i:Nat) (X Y:List (Pm n)),(Pm.lat n).nf (X++((Pm.lat n).Ds i++Y))=(Pm.lat n).nf ((Pm.lat n).Ds i++(tk (i:Int) X++Y))
 | 0,X,Y=>rfl
 | i+1,X,Y=>by
  have e:(Pm.lat n).Ds (i+1)=Pm.half n::(Pm.lat n).Ds i:=rfl;rw[e,List.cons_append,nf_D,Lat.nf_cons,zUw i,← Lat.nf_cons,List.cons_append];rw[show ((i+1:Nat):Int)=(i:Int)+1 by omega,zMy]
  rfl
theorem zVK {n:Nat}(i j:Nat) (Y:List (Pm n)):(Pm.lat n).Ds i++((Pm.lat n).Ds j++Y)=(Pm.lat n).Ds (i+j)++Y:=by
 rw[← List.append_assoc];simp only[Lat.Ds,List.replicate_append_replicate]
theorem zSt {n:Nat}(h2:2≤n) (q:Int) (X Y:List (Pm n)):mk (q+(((Pm.lat n).norm Y).1:Nat)) (tk (((Pm.lat n).norm Y).1:Nat) X++((Pm.lat n).norm Y).2)=mk q (X++Y):=by
 obtain⟨j,e,hP,_⟩:=Lat.norm_spec (zBD h2) (allS Y);generalize (Pm.lat n).norm Y=z at e hP ⊢;obtain⟨i,A⟩:=z;simp only at e hP ⊢;obtain⟨j',e',hP',_⟩:=Lat.norm_spec (zBD h2) (allS (tk (i:Int) X++A));have h:(Pm.lat n).nf (X++Y)=(Pm.lat n).Ds (i+((Pm.lat n).norm (tk (i:Int) X++A)).1)++((Pm.lat n).norm (tk (i:Int) X++A)).2++Lat.ones (j'+j):=by
  rw[← Lat.nf_app_r (allS Y),e,List.append_assoc,zUw,Lat.nf_Ds i (allS _),← List.append_assoc (tk (i:Int) X)];have ho:=Lat.nf_ones (Γ:=Pm.lat n) (X:=tk (i:Int) X++A) (Y:=[]) j (allS _) (allS _);rw[List.append_nil,List.append_nil] at ho;rw[ho,e'];rw[← zVK];simp only[Lat.ones,← List.replicate_append_replicate,List.append_assoc]
 have hn:=Lat.norm_of (zBD h2) h hP';simp only[mk,hn];congr 1;omega
theorem nf_1 {n:Nat}{A:List (Pm n)}(hP:(Pm.lat n).Proper A):(Pm.lat n).nf (1::A)=A++[1]:=by
 rw[Lat.nf_cons,Lat.nf_fix hP.W,Lat.L_one hP.S]
noncomputable def hd {n:Nat}(v:Nm n):Pm n:=if 0<v.1 then Pm.half n else v.2.headD 1
end Go.Ev.YtlkmkabnbegfdaaGreat
namespace Go.Ev.YtlkmkabnbegfdaaGreat
open Go.Ev Go.Gar
abbrev eN (n:Nat):Nm n:=(0,[])
theorem zPE {n:Nat}(k:Int):tk k ([]:List (Pm n))=[]:=by unfold tk;split<;>rfl
theorem zr {n:Nat}(h2:2≤n) (u v w:Nm n):prod (prod u v) w=prod u (prod v w):=by
 obtain⟨p,X⟩:=u;obtain⟨q,Y⟩:=v;obtain⟨r,Z⟩:=w;have h1:=zU0 h2 (p+q+r) r (tk q X++Y) Z;have e2:=zSt h2 (p+q+r) (tk (q+r) X) (tk r Y++Z);rw[← zMy] at e2;rw[zUi,← zMy,List.append_assoc] at h1;have l:prod (prod (p,X) (q,Y)) (r,Z)=mk (p+q+r+(((Pm.lat n).norm (tk q X++Y)).1:Nat)) (tk r ((Pm.lat n).norm (tk q X++Y)).2++Z):=by
  unfold prod;simp only[mk];rw[show p+q+(((Pm.lat n).norm (tk q X++Y)).1:Int)+r=p+q+r+(((Pm.lat n).norm (tk q X++Y)).1:Int) by omega]
 have r':prod (p,X) (prod (q,Y) (r,Z))=mk (p+q+r+(((Pm.lat n).norm (tk r Y++Z)).1:Nat)) (tk ((((Pm.lat n).norm (tk r Y++Z)).1:Nat)+(q+r)) X++((Pm.lat n).norm (tk r Y++Z)).2):=by
  unfold prod;simp only[mk];rw[show p+(q+r+(((Pm.lat n).norm (tk r Y++Z)).1:Int))=p+q+r+(((Pm.lat n).norm (tk r Y++Z)).1:Int) by omega,show q+r+(((Pm.lat n).norm (tk r Y++Z)).1:Int)=(((Pm.lat n).norm (tk r Y++Z)).1:Int)+(q+r) by omega]
 rw[l,r',h1,e2,Int.add_comm r q]
theorem zIt {n:Nat}(h2:2≤n) {v:Nm n}(hP:(Pm.lat n).Proper v.2):prod (eN n) v=v:=by
 unfold prod;rw[zPE,List.nil_append,Int.zero_add,zDC h2 _ hP]
theorem zUu {n:Nat}(h2:2≤n) {v:Nm n}(hP:(Pm.lat n).Proper v.2):prod v (eN n)=v:=by
 unfold prod;rw[zTT,List.append_nil,Int.add_zero,zDC h2 _ hP]
theorem zSk {n:Nat}(h2:2≤n) (v w:Nm n):(Pm.lat n).Proper (prod v w).2:=(zEK h2 _ _).1
noncomputable def isN {n:Nat}(s:Pm n):Nm n:=mk (-1) [Pm.half n*s⁻¹]
theorem zVd {n:Nat}(h2:2≤n) (s:Pm n):(Pm.lat n).Proper (isN s).2:=(zEK h2 (-1) [Pm.half n*s⁻¹]).1
noncomputable def sN {n:Nat}(s:Pm n):Nm n:=mk 0 [s]
theorem zLp {n:Nat}(h2:2≤n) (v:Nm n) (q:Int) (Y:List (Pm n)):prod v (mk q Y)=mk (v.1+q) (tk q v.2++Y):=by
 have h:=zSt h2 (v.1+q) (tk q v.2) Y;rw[← zMy] at h;rw[← h];unfold prod;simp only[mk];rw[show v.1+(q+(((Pm.lat n).norm Y).1:Int))=v.1+q+(((Pm.lat n).norm Y).1:Int) by omega,Int.add_comm q]
theorem zRk {n:Nat}(h2:2≤n) (p q:Int) (X Y:List (Pm n)):prod (mk p X) (mk q Y)=mk (p+q) (tk q X++Y):=by
 rw[zLp h2];have h:=zU0 h2 (p+q) q X Y;rw[← h];simp only[mk];rw[show p+(((Pm.lat n).norm X).1:Int)+q=p+q+(((Pm.lat n).norm X).1:Int) by omega]
theorem zUz {n:Nat}(h2:2≤n) (x:Pm n):mk (-1) [x,(Pm.lat n).K x]=eN n:=by
 have hm:=Lat.nf_move (Γ:=Pm.lat n) (p:=[]) (q:=[]) (x:=x) (y:=(Pm.lat n).K x) (c:=(Pm.lat n).K x) trivial trivial trivial ((Pm.lat n).refl trivial) ((Pm.lat n).refl trivial) (allS _);rw[x_K,Grp.inv_mul] at hm;have hd:(Pm.lat n).nf [Pm.half n,1]=(Pm.lat n).Ds 1++[]++Lat.ones 1:=by
  have:=Lat.nf_Ds (Γ:=Pm.lat n) 1 (Y:=[1]) (allS _);rw[nf_1 Lat.Proper.nil] at this;exact this
 have hn:=Lat.norm_of (zBD h2) (hm.trans hd) Lat.Proper.nil;have hn':(Pm.lat n).norm [x,(Pm.lat n).K x]=(1,[]):=hn;simp only[mk,hn']
 rfl
theorem zTH {n:Nat}(s:Pm n):(Pm.lat n).K (Pm.half n*s⁻¹)=s:=by
 rw[K_eq,zS,zBA,Pm.half_inv,Grp.assoc,Pm.half_half,Grp.mul_one]
theorem is_s {n:Nat}(h2:2≤n) (s:Pm n):prod (isN s) (sN s)=eN n:=by
 have h:=zUz h2 (Pm.half n*s⁻¹);rw[zTH] at h;rw[← h];exact zRk h2 (-1) 0 _ _
theorem s_is {n:Nat}(h2:2≤n) (s:Pm n):prod (sN s) (isN s)=eN n:=by
 have h:=zUz h2 (trn s);have e:(Pm.lat n).K (trn s)=Pm.half n*s⁻¹:=by
  rw[K_eq];unfold trn;simp only[zS,Pm.half_inv,Grp.assoc,Pm.half_half,Grp.mul_one]
 rw[e] at h;rw[← h];exact zRk h2 0 (-1) _ _
theorem zJF {n:Nat}(h2:2≤n) (w:Nm n) (s:Pm n):stepI w s=prod w (isN s):=(zLp h2 w (-1) _).symm
theorem zQE {n:Nat}(h2:2≤n):∀ (l:List (Pm n)) (w:Nm n),(Pm.lat n).Proper w.2→(Pm.lat n).Proper (l.foldl stepI w).2
 | [],w,h=>h
 | s::l,w,h=>zQE h2 l _ (by rw[zJF h2];exact zSk h2 _ _)
noncomputable def FA {n:Nat}(A:List (Pm n)):Nm n:=A.reverse.foldl stepI (eN n)
theorem FA_P {n:Nat}(h2:2≤n) (A:List (Pm n)):(Pm.lat n).Proper (FA A).2:=zQE h2 _ _ Lat.Proper.nil
theorem zUS {n:Nat}(h2:2≤n) (s:Pm n) (A:List (Pm n)):FA (s::A)=prod (FA A) (isN s):=by
 unfold FA;rw[List.reverse_cons,List.foldl_append,List.foldl_cons,List.foldl_nil,zJF h2]
theorem zUP {n:Nat}(h2:2≤n) (s:Pm n) (A:List (Pm n)):mk 0 (s::A)=prod (sN s) (mk 0 A):=(zRk h2 0 0 [s] A).symm
theorem zUT {n:Nat}(h2:2≤n):∀ A:List (Pm n),prod (FA A) (mk 0 A)=eN n∧prod (mk 0 A) (FA A)=eN n
 | []=>by
  have h:mk 0 ([]:List (Pm n))=eN n:=zPu 0;have h':FA ([]:List (Pm n))=eN n:=rfl;rw[h,h'];exact⟨zIt h2 Lat.Proper.nil,zIt h2 Lat.Proper.nil⟩
 | s::A=>by
  obtain⟨i1,i2⟩:=zUT h2 A;rw[zUS h2,zUP h2]
  constructor
  · rw[zr h2,← zr h2 (isN s),is_s h2,zIt h2 (zEK h2 _ _).1,i1]
  · rw[zr h2,← zr h2 (mk 0 A),i2,zIt h2 (zVd h2 s),s_is h2]
theorem zQA {n:Nat}(h2:2≤n) (v:Nm n):invN v=prod (FA v.2) (-v.1,[]):=by
 unfold prod;rw[zPF,List.append_nil,zDC h2 _ (zPD _ (FA_P h2 _))]
 rfl
theorem v_eq {n:Nat}(h2:2≤n) {v:Nm n}(hP:(Pm.lat n).Proper v.2):v=prod (v.1,[]) (mk 0 v.2):=by
 rw[zDC h2 0 hP];unfold prod;rw[zPE,List.nil_append,zDC h2 _ hP,Int.add_zero]
theorem D_D {n:Nat}(h2:2≤n) (p q:Int) (h:p+q=0):prod ((p,[]):Nm n) (q,[])=eN n:=by
 unfold prod;rw[zPE,List.append_nil,h];exact zPu 0
theorem inv_l {n:Nat}(h2:2≤n) {v:Nm n}(hP:(Pm.lat n).Proper v.2):prod (invN v) v=eN n:=by
 rw[zQA h2];have hv:=v_eq h2 hP;have:prod (prod (FA v.2) (-v.1,[])) v=prod (prod (FA v.2) (-v.1,[])) (prod (v.1,[]) (mk 0 v.2)):=by rw[← hv]
 rw[this,zr h2,← zr h2 (-v.1,[]),D_D h2 _ _ (by omega),zIt h2 (zEK h2 _ _).1,(zUT h2 _).1]
theorem inv_r {n:Nat}(h2:2≤n) {v:Nm n}(hP:(Pm.lat n).Proper v.2):prod v (invN v)=eN n:=by
 rw[zQA h2];have hv:=v_eq h2 hP;have:prod v (prod (FA v.2) (-v.1,[]))=prod (prod (v.1,[]) (mk 0 v.2)) (prod (FA v.2) (-v.1,[])):=by rw[← hv]
 rw[this,zr h2,← zr h2 (mk 0 v.2),(zUT h2 _).2,zIt h2 Lat.Proper.nil,D_D h2 _ _ (by omega)]
end Go.Ev.YtlkmkabnbegfdaaGreat
